/- Part 13. -/
import Derived.Test.YtodofdnlhoknhaaGreatDoorTS12
import Derived.StillTailTactics
set_option linter.all false
set_option maxRecDepth 100000
noncomputable section
namespace Go.Sim.M
def kN(x y:Int):Int:=if x<y then -1 else if y<x then 1 else 0
def wG(x y:Int):Int:=if x=0 then y else x
end Go.Sim.M
namespace Go.Proofs
open Go.RowKit Go.Sim Go.Sim.M Go.Sort Go.Lib
def Tryz.cmp_walk(x y:Int)(w:World):Calls Tryz.prog 110 #[.int .i64 x,.int .i64 y] w λ e w'=>e=.returned (.int .i64 (kN x y))/\w'=w:=by unfold kN;go_enter Tryz.func110,Tryz.ntmps110;go_wp2;all_goals (go_ret;exact⟨rfl,rfl⟩)
def Tryz.or_walk(x y:Int)(b off c:Nat)(w:World)(h0:w.cell? ⟨b,off,none⟩=some (.int .i64 x))(h1:w.cell? ⟨b,off+1,none⟩=some (.int .i64 y)):Calls Tryz.prog 109 #[.slice (some ⟨b,off,none⟩) 2 c] w λ e w'=>e=.returned (.int .i64 (wG x y))/\w'=w:=by
 unfold wG;by_cases hx:x=0
 . subst hx;rw[if_pos rfl];by_cases hy:y=0
   . subst hy
     go_enter Tryz.func109,Tryz.ntmps109
     go_wp2
     refine wp_loop_rounds 3 ?_;rw[rounds_succ]
     go_wp2
     rw[rounds_succ]
     go_wp2
     rw[rounds_succ]
     go_wp2
     go_ret
     exact⟨rfl,rfl⟩
   . have hy':(y !=0)=true:=by simpa using hy
     go_enter Tryz.func109,Tryz.ntmps109
     go_wp2
     refine wp_loop_rounds 3 ?_;rw[rounds_succ]
     go_wp2
     rw[rounds_succ]
     go_wp2
     go_ret
     exact⟨rfl,rfl⟩
 . have hx':(x !=0)=true:=by simpa using hx
   rw[if_neg hx]
   go_enter Tryz.func109,Tryz.ntmps109
   go_wp2
   refine wp_loop_rounds 3 ?_;rw[rounds_succ]
   go_wp2
   go_ret
   exact⟨rfl,rfl⟩
def wz(u1 u2:Int):Instr.fill (λ i=>some (i*1,1)) ((Array.range (2*1)).map (λ x=>(Value.int .i64 0).cells[x % (Value.int .i64 0).cells.size]!)) [(0,.int .i64 u1),(1,.int .i64 u2)]=some #[.int .i64 u1,.int .i64 u2]:=by simp[Instr.fill,Array.range,Value.cells];apply Array.ext;simp;intro i h1 h2;rcases i with _|_|i;simp;simp;simp at h2;omega
set_option maxHeartbeats 2000000 in
def Tryz.levels2_walk(a b c d:Int)(w:World):Calls Tryz.prog 108 #[.agg #[.int .i64 a,.int .i64 b],.agg #[.int .i64 c,.int .i64 d]] w λ e w'=>e=.returned (.int .i64 (wG (kN a c) (kN b d)))/\∃q J,w'=Sort.grow (w.drewN q) J:=by
 go_enter Tryz.func108,Tryz.ntmps108;go_wp2_with (go_at_call 110;skip);have g0:(w.alloc (.cells #[.int .i64 a,.int .i64 b] 52)).heap[w.heap.size]?=some (.cells #[.int .i64 a,.int .i64 b] 52 (0,0)):=heap_alloc_new w _;have g1:((w.alloc (.cells #[.int .i64 a,.int .i64 b] 52)).alloc (.cells #[.int .i64 c,.int .i64 d] 52)).heap[w.heap.size+1]?=some (.cells #[.int .i64 c,.int .i64 d] 52 (0,0)):=by(have:=heap_alloc_new (w.alloc (.cells #[.int .i64 a,.int .i64 b] 52)) (.cells #[.int .i64 c,.int .i64 d] 52);have e:(w.alloc (.cells #[.int .i64 a,.int .i64 b] 52)).heap.size=w.heap.size+1:=by simp);rwa [e]at this
 have f0:((w.alloc (.cells #[.int .i64 a,.int .i64 b] 52)).alloc (.cells #[.int .i64 c,.int .i64 d] 52)).cell? ⟨w.heap.size,0,none⟩=some (.int .i64 a):=by rw[World.cell?_alloc_past _ _ _ (by simp)];simp only[World.cell?,g0];rfl
 have f1:((w.alloc (.cells #[.int .i64 a,.int .i64 b] 52)).alloc (.cells #[.int .i64 c,.int .i64 d] 52)).cell? ⟨w.heap.size,1,none⟩=some (.int .i64 b):=by rw[World.cell?_alloc_past _ _ _ (by simp)];simp only[World.cell?,g0];rfl
 have f2:((w.alloc (.cells #[.int .i64 a,.int .i64 b] 52)).alloc (.cells #[.int .i64 c,.int .i64 d] 52)).cell? ⟨w.heap.size+1,0,none⟩=some (.int .i64 c):=by simp only[World.cell?,g1];rfl
 have f3:((w.alloc (.cells #[.int .i64 a,.int .i64 b] 52)).alloc (.cells #[.int .i64 c,.int .i64 d] 52)).cell? ⟨w.heap.size+1,1,none⟩=some (.int .i64 d):=by simp only[World.cell?,g1];rfl
 have f4:∃q J,((w.alloc (.cells #[.int .i64 a,.int .i64 b] 52)).alloc (.cells #[.int .i64 c,.int .i64 d] 52))=Sort.grow (w.drewN q) J:=⟨0,_,by rw[alloc_eq_grow,alloc_eq_grow,grow_grow];rfl⟩;generalize ((w.alloc (.cells #[.int .i64 a,.int .i64 b] 52)).alloc (.cells #[.int .i64 c,.int .i64 d] 52))=W2 at f0 f1 f2 f3 f4|-;refine wp_region_still_tail 10 (by kernel_rfl) (by kernel_rfl) ?_;simp only[List.take_succ_cons,List.take_zero,List.drop_succ_cons,List.drop_zero];change wpStill _ _ (World.drew W2) _ _ _;have f0':W2.drew.cell? ⟨w.heap.size,0,none⟩=some (.int .i64 a):=f0;have f1':W2.drew.cell? ⟨w.heap.size,1,none⟩=some (.int .i64 b):=f1;have f2':W2.drew.cell? ⟨w.heap.size+1,0,none⟩=some (.int .i64 c):=f2;have f3':W2.drew.cell? ⟨w.heap.size+1,1,none⟩=some (.int .i64 d):=f3;have f4':∃q J,W2.drew=Sort.grow (w.drewN q) J:=by obtain⟨q,J,e⟩:=f4;exact⟨q+1,J,by rw[e];rfl⟩
 iterate 4 still_step
 still_call (Tryz.cmp_walk _ _ _);iterate 4 still_step
 still_call (Tryz.cmp_walk _ _ _);refine wpStill_nil ?_;change wpList _ _ _ _ _ (World.drew W2);generalize World.drew W2=W at f0' f1' f2' f3' f4'|-;generalize O:kN a c=u1;generalize Q:kN b d=u2;obtain⟨ie,q1,q2,q3⟩:∃ie,Tryz.prog.info? 3=some ie/\ie.zero=some (.int .i64 0)/\ie.size=1:=⟨(Tryz.prog.info? 3).get (by kernel_rfl),(Option.some_get _).symm,by kernel_rfl,by kernel_rfl⟩;refine wpList_buildSlice rfl 22 3 2 _ rfl #[.int .i64 u1,.int .i64 u2] ie (.int .i64 0) (by kernel_rfl) q1 q2 (by rw[q3];decide) (by rw[q3];decide) (by rw[q3];refine Eq.trans (congrArg _ ?_) (wz u1 u2);simp[Act.eval]) ?_;simp only[Act.put];go_wp2_with fail;have g2:(W.alloc (.cells #[.int .i64 u1,.int .i64 u2] 3)).heap[W.heap.size]?=some (.cells #[.int .i64 u1,.int .i64 u2] 3 (0,0)):=heap_alloc_new W _;refine(Tryz.or_walk u1 u2 W.heap.size 0 2 (W.alloc (.cells #[.int .i64 u1,.int .i64 u2] 3)) (by simp only[World.cell?,g2];rfl) (by simp only[World.cell?,g2];rfl)).mono ?_;rintro e w' ⟨rfl,rfl⟩;go_wp2;go_ret;obtain⟨q,J,hq⟩:=f4';exact⟨by rw[O,Q];rfl,q,_,by rw[hq,alloc_eq_grow,grow_grow]⟩
end Go.Proofs
namespace Go.Sim.M
abbrev yP:Type:=Fin 1099511627777×Int×Int
def mB(x:yP):List Int:=[(x.1.val:Int),x.2.1,x.2.2]
def ki(x y:yP):Int:=(x.1.val:Int) - (y.1.val:Int)
end Go.Sim.M
namespace Go.Proofs
open Go.RowKit Go.Sim Go.Sim.M Go.Sort
set_option maxHeartbeats 1000000 in
def Tryz.walkE(a b c a' b' c' r:Int)(hr:IntKind.i64.wrap (a - a')=r)(W:World):Calls Tryz.prog 147 #[.agg #[.int .i64 a,.int .i64 b,.int .i64 c],.agg #[.int .i64 a',.int .i64 b',.int .i64 c']] W λ e w'=>e=.returned (.int .i64 r)/\∃q os',w'=Sort.grow (W.drewN q) os':=by go_enter Tryz.func147,Tryz.ntmps147;go_wp2;go_ret;subst hr;exact⟨rfl,0,_,by rw[alloc_eq_grow,alloc_eq_grow,grow_grow];rfl⟩
end Go.Proofs
namespace Go.Sim.M
open Go.RowKit Go.Proofs Go.Sort
def yU:AV->Bool|.agg [.int .i64 a,.int .i64 _,.int .i64 _]=>decide (0<=a)&&decide (a<=1099511627776)|_=>false
def oT:AV->yP|.agg [.int _ a,.int _ b,.int _ c]=>(Fin.ofNat 1099511627777 a.toNat,b,c)|_=>default
noncomputable def qx(xs:List AV):List AV:=(pdqL ki (xs.map oT)).map (encI mB)
def xID{x:AV}(h:yU x):encI mB (oT x)=x:=by unfold yU at h;split at h;rename_i a b c;simp only[Bool.and_eq_true,decide_eq_true_eq]at h;have:a.toNat % 1099511627777=a.toNat:=Nat.mod_eq_of_lt Ω;simp only[oT,encI,mB,List.map_cons,List.map_nil,Fin.ofNat,this,Int.toNat_of_nonneg h.1];simp at h
def xG4{xs:List AV}(h:xs.all yU):(xs.map oT).map (encI mB)=xs:=by rw[List.map_map];(conv=>rhs;rw[<-List.map_id xs]);refine List.map_congr_left λ x hx=>?_;exact xID (List.all_eq_true.1 h x hx)
def MG(x y:yP):ltOf ki x y=decide (x.1.val<y.1.val):=by unfold ltOf ki;by_cases h:x.1.val<y.1.val;rw[decide_eq_true h,decide_eq_true Ω];rw[decide_eq_false h,decide_eq_false Ω]
def wO:SWO (ltOf ki) where
 irrefl x:=by rw[MG];simp
 trans x y z h1 h2:=by rw[MG]at *;simp at *;omega
 ntrans x y z h1 h2:=by rw[MG]at *;simp at *;omega
noncomputable def No:List AV->List aC->Option (Bool×AV×List aC)|[.osl (.b 0) ver 0 n,.func g []],[⟨ver',3,ty,xs,false,true⟩]=>(match Nat.beq g 147&&Nat.beq ty 154 with|true=>some (Nat.beq ver ver'&&(Nat.beq n xs.length&&(decide (n<4611686018427387904)&&xs.all yU)),.tuple [],[⟨ver',3,154,qx xs,false,true⟩])|false=>none)|_,_=>none
def xK0:fJ Tryz.prog xQa 146 No:=λ Q H r H' h=>by
 unfold No at h;split at h;rename_i ver n g O ty xs;split at h;case h_2=>simp at h
 rename_i hg;simp only[Bool.and_eq_true]at hg;obtain rfl:=Nat.eq_of_beq_eq_true hg.1;obtain rfl:=Nat.eq_of_beq_eq_true hg.2;simp only[Option.some.injEq,Prod.mk.injEq,Bool.and_eq_true,decide_eq_true_eq]at h;obtain⟨⟨h1,h2,h3,h4⟩,rfl,rfl⟩:=h;obtain rfl:=Nat.eq_of_beq_eq_true h1;obtain rfl:=Nat.eq_of_beq_eq_true h2;have q:∃ti,bN Tryz.prog 154=some ti/\ti.sz=3/\ti.agg=true:=by(have h:(match bN Tryz.prog 154 with|some ti=>(ti.sz==3)&&ti.agg|none=>false)=true:=by kernel_rfl);split at h;rename_i ti q;simp only[Bool.and_eq_true,beq_iff_eq]at h;exact⟨ti,q,h.1,h.2⟩;simp at h
 obtain⟨ti,q,hz,ha⟩:=q;have J:=QB (P:=Tryz.prog) (Inv:=xQa) Tryz.srl146 3 (by decide) (λ w=>by rw[<-ha];exact tQ q w) (λ w=>by rw[<-hz];exact nk q w)
  mB (λ _=>rfl) ki wO 147 rfl (xeZ Tryz.func146 rfl (by kernel_rfl)) (J9 (xeZ Tryz.func147 rfl (by kernel_rfl)))
  (fun x y W=>Tryz.walkE _ _ _ _ _ _ (ki x y) (by
   have:=x.1.isLt;have:=y.1.isLt;unfold ki;exact gx (by omega) (by omega)) W)
  ver 154 rfl (xs.map oT) (by simpa using h3)
 rw[List.length_map,xG4 h4]at J;exact J;simp at h
end Go.Sim.M
namespace Go.Sim.M
abbrev yQ:Type:=Fin 1099511627777×Int
def mC(x:yQ):List Int:=[(x.1.val:Int),x.2]
def kj(x y:yQ):Int:=(x.1.val:Int) - (y.1.val:Int)
end Go.Sim.M
namespace Go.Proofs
open Go.RowKit Go.Sim Go.Sim.M Go.Sort
set_option maxHeartbeats 1000000 in
def Tryz.walkS(a b a' b' r:Int)(hr:IntKind.i64.wrap (a - a')=r)(W:World):Calls Tryz.prog 113 #[.agg #[.int .i64 a,.int .i64 b],.agg #[.int .i64 a',.int .i64 b']] W λ e w'=>e=.returned (.int .i64 r)/\∃q os',w'=Sort.grow (W.drewN q) os':=by go_enter Tryz.func113,Tryz.ntmps113;go_wp2;go_ret;subst hr;exact⟨rfl,0,_,by rw[alloc_eq_grow,alloc_eq_grow,grow_grow];rfl⟩
end Go.Proofs
namespace Go.Sim.M
open Go.RowKit Go.Proofs Go.Sort
def isS:AV->Bool|.agg [.int .i64 a,.int .i64 _]=>decide (0<=a)&&decide (a<=1099511627776)|_=>false
def oU:AV->yQ|.agg [.int _ a,.int _ b]=>(Fin.ofNat 1099511627777 a.toNat,b)|_=>default
noncomputable def sI(xs:List AV):List AV:=(pdqL kj (xs.map oU)).map (encI mC)
def xIF{x:AV}(h:isS x):encI mC (oU x)=x:=by unfold isS at h;split at h;rename_i a b;simp only[Bool.and_eq_true,decide_eq_true_eq]at h;have:a.toNat % 1099511627777=a.toNat:=Nat.mod_eq_of_lt Ω;simp only[oU,encI,mC,List.map_cons,List.map_nil,Fin.ofNat,this,Int.toNat_of_nonneg h.1];simp at h
def xG6{xs:List AV}(h:xs.all isS):(xs.map oU).map (encI mC)=xs:=by rw[List.map_map];(conv=>rhs;rw[<-List.map_id xs]);refine List.map_congr_left λ x hx=>?_;exact xIF (List.all_eq_true.1 h x hx)
def MI(x y:yQ):ltOf kj x y=decide (x.1.val<y.1.val):=by unfold ltOf kj;by_cases h:x.1.val<y.1.val;rw[decide_eq_true h,decide_eq_true Ω];rw[decide_eq_false h,decide_eq_false Ω]
def wQ:SWO (ltOf kj) where
 irrefl x:=by rw[MI];simp
 trans x y z h1 h2:=by rw[MI]at *;simp at *;omega
 ntrans x y z h1 h2:=by rw[MI]at *;simp at *;omega
noncomputable def Nq:List AV->List aC->Option (Bool×AV×List aC)|[.osl (.b 0) ver 0 n,.func g []],[⟨ver',2,ty,xs,false,true⟩]=>(match Nat.beq g 113&&Nat.beq ty 132 with|true=>some (Nat.beq ver ver'&&(Nat.beq n xs.length&&(decide (n<4611686018427387904)&&xs.all isS)),.tuple [],[⟨ver',2,132,sI xs,false,true⟩])|false=>none)|_,_=>none
def xK2:fJ Tryz.prog xQa 112 Nq:=λ Q H r H' h=>by
 unfold Nq at h;split at h;rename_i ver n g O ty xs;split at h;case h_2=>simp at h
 rename_i hg;simp only[Bool.and_eq_true]at hg;obtain rfl:=Nat.eq_of_beq_eq_true hg.1;obtain rfl:=Nat.eq_of_beq_eq_true hg.2;simp only[Option.some.injEq,Prod.mk.injEq,Bool.and_eq_true,decide_eq_true_eq]at h;obtain⟨⟨h1,h2,h3,h4⟩,rfl,rfl⟩:=h;obtain rfl:=Nat.eq_of_beq_eq_true h1;obtain rfl:=Nat.eq_of_beq_eq_true h2;have q:∃ti,bN Tryz.prog 132=some ti/\ti.sz=2/\ti.agg=true:=by(have h:(match bN Tryz.prog 132 with|some ti=>(ti.sz==2)&&ti.agg|none=>false)=true:=by kernel_rfl);split at h;rename_i ti q;simp only[Bool.and_eq_true,beq_iff_eq]at h;exact⟨ti,q,h.1,h.2⟩;simp at h
 obtain⟨ti,q,hz,ha⟩:=q;have J:=QB (P:=Tryz.prog) (Inv:=xQa) Tryz.srl112 2 (by decide) (λ w=>by rw[<-ha];exact tQ q w) (λ w=>by rw[<-hz];exact nk q w)
  mC (λ _=>rfl) kj wQ 113 rfl (xeZ Tryz.func112 rfl (by kernel_rfl)) (J9 (xeZ Tryz.func113 rfl (by kernel_rfl)))
  (fun x y W=>Tryz.walkS _ _ _ _ (kj x y) (by
   have:=x.1.isLt;have:=y.1.isLt;unfold kj;exact gx (by omega) (by omega)) W)
  ver 132 rfl (xs.map oU) (by simpa using h3)
 rw[List.length_map,xG6 h4]at J;exact J;simp at h
end Go.Sim.M
namespace Go.Sim.M
abbrev GJ:Type:=Int×Int
def n8(x:GJ):List Int:=[x.1,x.2]
def dh(x y:GJ):Int:=wG (kN x.1 y.1) (kN x.2 y.2)
open Go.RowKit Go.Proofs Go.Sort
def yV:AV->Bool|.agg [.int .i64 _,.int .i64 _]=>true|_=>false
def qd:AV->GJ|.agg [.int _ a,.int _ b]=>(a,b)|_=>default
noncomputable def qy(xs:List AV):List AV:=(pdqL dh (xs.map qd)).map (encI n8)
def xIE{x:AV}(h:yV x):encI n8 (qd x)=x:=by unfold yV at h;split at h;rfl;simp at h
def xG5{xs:List AV}(h:xs.all yV):(xs.map qd).map (encI n8)=xs:=by rw[List.map_map];(conv=>rhs;rw[<-List.map_id xs]);refine List.map_congr_left λ x hx=>?_;exact xIE (List.all_eq_true.1 h x hx)
def MH(x y:GJ):ltOf dh x y=decide (x.1<y.1\/x.1=y.1/\x.2<y.2):=by unfold ltOf dh wG kN;by_cases h:x.1<y.1\/x.1=y.1/\x.2<y.2;rw[decide_eq_true h];simp only[decide_eq_true_eq];rcases h with h|⟨h,h'⟩;simp[h];simp[h,h'];rw[decide_eq_false h];simp only[decide_eq_false_iff_not];have h1:¬ x.1<y.1:=λ e=>h (.inl e);by_cases h2:y.1<x.1;simp[h1,h2];(have h3:x.1=y.1:=Ω);have h4:¬ x.2<y.2:=λ e=>h (.inr ⟨h3,e⟩);by_cases h5:y.2<x.2;simp[h1,h2,h4,h5];simp[h1,h2,h4,h5]
def wP:SWO (ltOf dh) where
 irrefl x:=by rw[MH];simp
 trans x y z h1 h2:=by rw[MH]at *;simp only[decide_eq_true_eq]at *;omega
 ntrans x y z h1 h2:=by rw[MH]at *;simp only[decide_eq_true_eq,decide_eq_false_iff_not]at *;omega
noncomputable def Np:List AV->List aC->Option (Bool×AV×List aC)|[.osl (.b 0) ver 0 n,.func g []],[⟨ver',2,ty,xs,false,true⟩]=>(match Nat.beq g 108&&Nat.beq ty 52 with|true=>some (Nat.beq ver ver'&&(Nat.beq n xs.length&&(decide (n<4611686018427387904)&&xs.all yV)),.tuple [],[⟨ver',2,52,qy xs,false,true⟩])|false=>none)|_,_=>none
def xK1:fJ Tryz.prog xQa 107 Np:=λ Q H r H' h=>by
 unfold Np at h;split at h;rename_i ver n g O ty xs;split at h;case h_2=>simp at h
 rename_i hg;simp only[Bool.and_eq_true]at hg;obtain rfl:=Nat.eq_of_beq_eq_true hg.1;obtain rfl:=Nat.eq_of_beq_eq_true hg.2;simp only[Option.some.injEq,Prod.mk.injEq,Bool.and_eq_true,decide_eq_true_eq]at h;obtain⟨⟨h1,h2,h3,h4⟩,rfl,rfl⟩:=h;obtain rfl:=Nat.eq_of_beq_eq_true h1;obtain rfl:=Nat.eq_of_beq_eq_true h2;have q:∃ti,bN Tryz.prog 52=some ti/\ti.sz=2/\ti.agg=true:=by(have h:(match bN Tryz.prog 52 with|some ti=>(ti.sz==2)&&ti.agg|none=>false)=true:=by kernel_rfl);split at h;rename_i ti q;simp only[Bool.and_eq_true,beq_iff_eq]at h;exact⟨ti,q,h.1,h.2⟩;simp at h
 obtain⟨ti,q,hz,ha⟩:=q;have J:=QB (P:=Tryz.prog) (Inv:=xQa) Tryz.srl107 2 (by decide) (λ w=>by rw[<-ha];exact tQ q w) (λ w=>by rw[<-hz];exact nk q w) n8 (λ _=>rfl) dh wP 108 rfl (xeZ Tryz.func107 rfl (by kernel_rfl)) (J9 (xeZ Tryz.func108 rfl (by kernel_rfl))) (λ x y W=>Tryz.levels2_walk _ _ _ _ W) ver 52 rfl (xs.map qd) (by simpa using h3);rw[List.length_map,xG5 h4]at J;exact J;simp at h
end Go.Sim.M
namespace Go.Sim.M
open Go.RowKit Go.Proofs
noncomputable def E1:cZ:=((XL.E.withM 112 Nq).withM 146 No).withM 107 Np
def XE:di Tryz.prog xQa E1:=((XL.ok.withM xK2).withM xK0).withM xK1
noncomputable def xNa:EO:=EO.mk E1 XE
open Go.IntKind (i64 u64 u8)
def Cp:cZ:=E1.fn 29 1 (dQ []) (iS [])
def xzu:di P0 (xQa.at 1) Cp:=XE.fn
def xvP:cV P0 (xQa.at Cp.pin) Cp (Tryz.f114.body.getD .skip):=oI Θ
def QD{T:Type}(k:Nat)(a n:Int)(b:LA)(δ:T)(κ:Bool×(Nat×LA)×(Nat×LA)->T):T:=br (gz k b 1 16) (κ (false,(0,[]),(k+1,b++[AV.agg [AV.int .i64 a,AV.int .i64 n]]))) δ
def R6{T:Type}(k:Nat)(b n:Int)(a:LA)(δ:T)(κ:Bool×(Nat×LA)×(Nat×LA)->T):T:=br (decide ((↑k:Int)>0)) (br (decide (0<=i64.wrap ((↑k:Int) - 1))&&decide (i64.wrap ((↑k:Int) - 1)<(↑k:Int))) (br (decide (0+(i64.wrap ((↑k:Int) - 1)).toNat<a.length)&&dw (Sh.int .i64) ((a.getD (0+(i64.wrap ((↑k:Int) - 1)).toNat) .top).cells.getD 1 .top)) (br (((a.getD (0+(i64.wrap ((↑k:Int) - 1)).toNat) .top).cells.getD 1 .top).toInt==n) (κ (true,(k,a),(0,[]))) (QD k b n a δ κ)) δ) δ) (QD k b n a δ κ)
def kI(k:Nat)(a n:Int)(b:LA):=R6 k a n b none some
def xDx(k:Nat)(a n:Int)(xs:LA):cU (λ(p:Bool×(Nat×LA)×(Nat×LA))=>((br p.1 ((AV.osl 0 0 0 p.2.1.1,([⟨0,2,132,p.2.1.2,false,true⟩]:List aC))) ((AV.osl 0 1 0 p.2.2.1,([⟨1,2,132,p.2.2.2,false,true⟩]:List aC)))):(AV×List aC))) (kI k a n xs) (l6 P0 Cp Tryz.f114 (Tryz.f114.body.getD .skip) [AV.osl (0:Id) 0 0 k,AV.int .i64 a,AV.int .i64 n] [{ver:=0,sz:=2,ty:=(132:TypeId),xs:=xs,frz:=false,pm:=true}]):=by(have h:l6 P0 Cp Tryz.f114 (Tryz.f114.body.getD .skip) [AV.osl (0:Id) 0 0 k,AV.int .i64 a,AV.int .i64 n] [{ver:=0,sz:=2,ty:=(132:TypeId),xs:=xs,frz:=false,pm:=true}]=R6 k a n xs none (λ(p:Bool×(Nat×LA)×(Nat×LA))=>some ((br p.1 ((AV.osl 0 0 0 p.2.1.1,([⟨0,2,132,p.2.1.2,false,true⟩]:List aC))) ((AV.osl 0 1 0 p.2.2.1,([⟨1,2,132,p.2.2.2,false,true⟩]:List aC)))):(AV×List aC))):=by kernel_rfl);rw[h];unfold kI R6 QD;repeat' (first|refine cU.br ?_ ?_|exact cU.none|exact cU.some rfl)
def xDZ:LA->List aC->Option (Bool×AV×List aC):=jl (cT (sEq (cC 0 0 0)) (cT (sEq (pInt .i64)) (cT (sEq (pInt .i64)) iU))) (aZ (fu 0 2 (132:TypeId) false true bB) bO) λ(k,(a,(n,_))) (b,_)=>((kI k a n b).isSome,(AV.osl 0 1 0 (br ((kI k a n b).getD (false,(0,[]),(0,[]))).1 ((kI k a n b).getD (false,(0,[]),(0,[]))).2.1.1 ((kI k a n b).getD (false,(0,[]),(0,[]))).2.2.1),([⟨1,2,132,(br ((kI k a n b).getD (false,(0,[]),(0,[]))).1 ((kI k a n b).getD (false,(0,[]),(0,[]))).2.1.2 ((kI k a n b).getD (false,(0,[]),(0,[]))).2.2.2),false,true⟩]:List aC)))
def xDY:fJ P0 xQa 114 (xDZ):=pR λ e f j i g=>by obtain⟨k,⟨b,⟨n,_⟩⟩⟩:=e;obtain⟨h,_⟩:=f;obtain⟨c,a⟩:=Prod.mk.inj g;have hx:=xDx _ _ _ _ _ (nP (d:=(false,(0,[]),(0,[]))) c);revert hx a;generalize ((kI k b n h).getD (false,(0,[]),(0,[])))=p;intro a hx;obtain⟨rfl,rfl⟩:=Prod.mk.inj a;obtain⟨t,⟨l,m⟩,o,q⟩:=p;have hg:bG P0 xQa 114 _ _ _ _:=vB (p:=Cp.pin) (vA xPD (xPE P0 _) rfl xzu rfl Tryz.func114 rfl Θ xvP hx);cases t;exact hg;exact bG.bump1 rfl (by decide) hg
def Gw:EO:=xNa.wM xDY
def J3{T:Type}(d:LA)(e:Int)(b:Nat)(c:Int)(a:LA)(δ:T)(κl:(Nat×Int×LA)->T)(κr:(Nat×LA)->T):T:=br (decide (c<e)) (br (bU d c) (br (jh d c 3 [Sh.int .i64,Sh.int .i64,Sh.int .i64] 0) (br (yo (gC d c 0).toInt (gC d c 1).toInt) (br (gz b a 2 16) (κl (b+2,i64.wrap (c+1),a++[AV.agg [AV.int .i64 (gC d c 0).toInt,AV.int .i64 (gC d c 2).toInt],AV.agg [AV.int .i64 (gC d c 1).toInt,AV.int .i64 (i64.wrap (0 - (gC d c 2).toInt))]])) δ) (κl (b,i64.wrap (c+1),a))) δ) δ) (κr (b,a))
def BY(c:LA)(d:Int):cS (Nat×Int×LA) (Nat×LA):=λ(b,e,a)=>J3 c d b e a none inL inR
def Fp:=Gw.l 106 0 [] [] Tryz.f77 0 lk0 [3,10,11,12] [3] [(3,2,132)] (q4 (cC 0 0 0) (qL 3) qI qI) (q1 (qB 0 2 132 bB)) (λ(b,c,d,e,_) (a,_)=>(BY c d,(b,e,a),λ p=>(.leaf (.exit 0) [AV.osl 0 0 0 p.1] [bF 0 2 132 p.2]))) (0,[]) λ(_,c,d,_,_) _ (b,e,a)=>(((b,c,d,e,()),(a,())),J3 c d b e a none)
def Z5(i:Int)(a:LA):=decide (0+i.toNat<a.length)
def xuN{T:Type}(b e:Nat)(d i:Int)(a c:LA)(δ:T)(κl:(Int×Int×LA×LA)->T)(κr:(Int×Int×LA×LA)->T):T:=br (decide (i<(↑b:Int))) (br (decide (0<=i)&&decide (i<(↑b:Int))) (br (Z5 i a&&dw (Sh.int .i64) ((a.getD (0+i.toNat) .top).cells.getD 0 .top)) (br (((a.getD (0+i.toNat) .top).cells.getD 0 .top).toInt==0) (br (decide (0<=i)&&decide (i<(↑b:Int))) (br (Z5 i a&&dw (Sh.int .i64) ((a.getD (0+i.toNat) .top).cells.getD 1 .top)) (κl (i64.wrap (d+((a.getD (0+i.toNat) .top).cells.getD 1 .top).toInt),i64.wrap (i+1),a,c)) δ) δ) (κr (d,i,a,c))) δ) δ) (κr (d,i,a,c))
def I1(b d:Nat):cS (Int×Int×LA×LA) (Int×Int×LA×LA):=λ(e,i,a,c)=>xuN b d e i a c none inL inR
def JA:=Gw.l 106 0 [] [(3,Fp.lp)] Tryz.f77 1 lk0 [3,6,7,8] [3,6,7,8] [(3,2,132),(6,2,132)] (q4 (cC 0 0 0) (cC 1 0 0) qI qI) (q2 (qB 0 2 132 bB) (qB 0 2 132 bB)) (λ(a,c,e,i,_) (b,d,_)=>(I1 a c,(e,i,b,d),λ p=>(.leaf (.exit 2) [AV.osl 0 0 0 a,AV.osl 1 0 0 c,AV.int .i64 p.1,AV.int .i64 p.2.1] [bF 0 2 132 p.2.2.1,bF 0 2 132 p.2.2.2]))) (0,0,[],[]) λ(a,c,_,_,_) _ (e,i,b,d)=>(((a,c,e,i,()),(b,d,())),xuN a c e i b d none)
def Fr(i:Int)(a:LA):=decide (0+i.toNat<a.length)
def Fk{T:Type}(b f:Nat)(e d i:Int)(a c:LA)(δ:T)(κl:(Int×Int×LA×LA)->T)(κr:(Int×Int×LA×LA)->T):T:=br (decide (i<(↑b:Int))) (br (decide (0<=i)&&decide (i<(↑b:Int))) (br (Fr i a&&dw (Sh.int .i64) ((a.getD (0+i.toNat) .top).cells.getD 0 .top)) (br (((a.getD (0+i.toNat) .top).cells.getD 0 .top).toInt==e) (br (decide (0<=i)&&decide (i<(↑b:Int))) (br (Fr i a&&dw (Sh.int .i64) ((a.getD (0+i.toNat) .top).cells.getD 1 .top)) (κl (i64.wrap (d+((a.getD (0+i.toNat) .top).cells.getD 1 .top).toInt),i64.wrap (i+1),a,c)) δ) δ) (κr (d,i,a,c))) δ) δ) (κr (d,i,a,c))
def x9(b d:Nat)(e:Int):cS (Int×Int×LA×LA) (Int×Int×LA×LA):=λ(f,i,a,c)=>Fk b d e f i a c none inL inR
def JB:=Gw.l 106 0 [] [(3,Fp.lp),(11,JA.lp)] Tryz.f77 3 lk0 [3,6,7,8,9] [3,6,7,8,9] [(3,2,132),(6,2,132)] (q5 (cC 0 0 0) (cC 1 0 0) qI qI qI) (q2 (qB 0 2 132 bB) (qB 0 2 132 bB)) (λ(a,c,f,i,e,_) (b,d,_)=>(x9 a c e,(f,i,b,d),λ p=>(.leaf (.exit 6) [AV.osl 0 0 0 a,AV.osl 1 0 0 c,AV.int .i64 p.1,AV.int .i64 p.2.1,AV.int .i64 e] [bF 0 2 132 p.2.2.1,bF 0 2 132 p.2.2.2]))) (0,0,[],[]) λ(a,c,_,_,e,_) _ (f,i,b,d)=>(((a,c,f,i,e,()),(b,d,())),Fk a c e f i b d none)
def Fb(i:Int)(a:LA):=decide (0+i.toNat<a.length)&&dw (Sh.int .i64) ((a.getD (0+i.toNat) .top).cells.getD 0 .top)
def B6(i:Int)(a:LA):=((a.getD (0+i.toNat) .top).cells.getD 0 .top).toInt
def Fd(b d:Nat)(e i:Int)(a c:LA):=aB (x9 b d (B6 i a)) (e,i,a,c)
def vd(b d:Nat)(e i:Int)(a c:LA):=(Fd b d e i a c).getD (0,0,[],[])
def Fq(b c:Nat)(e i:Int)(a d:LA):=kI c (B6 i a) ((vd b c e i a d).fst) (((vd b c e i a d).snd).snd).snd
def tz(b d:Nat)(e i:Int)(a c:LA):=(Fq b d e i a c).getD (false,(0,[]),0,[])
def Fj{T:Type}(b d:Nat)(e i:Int)(a c:LA)(δ:T)(κl:(Nat×Int×Int×LA×LA)->T)(κr:(Nat×LA)->T):T:=br (decide (i<(↑b:Int))) (br (decide (0<=i)&&decide (i<(↑b:Int))) (br (Fb i a) (br (decide (B6 i a<1099511627776)) (br (decide (0<=i)&&decide (i<(↑b:Int))) (br (Fb i a) (br ((Fd b d e i a c).isSome) (br ((Fq b d e i a c).isSome) (κl (br ((tz b d e i a c).fst) (((tz b d e i a c).snd).fst).fst (((tz b d e i a c).snd).snd).fst,((vd b d e i a c).fst),((vd b d e i a c).snd).fst,(((vd b d e i a c).snd).snd).fst,br ((tz b d e i a c).fst) (((tz b d e i a c).snd).fst).snd (((tz b d e i a c).snd).snd).snd)) δ) δ) δ) δ) (κr (d,c))) δ) δ) (κr (d,c))
def BZ(b:Nat):cS (Nat×Int×Int×LA×LA) (Nat×LA):=λ(d,e,i,a,c)=>Fj b d e i a c none inL inR
def Z6:=Gw.l 106 0 [] [(3,Fp.lp),(11,JA.lp),(17,JB.lp)] Tryz.f77 2 (fc JB.ok) [3,6,7,8] [6] [(3,2,132),(6,2,132)] (q4 (cC 0 0 0) (cC 1 0 0) qI qI) (q2 (qB 0 2 132 bB) (qB 0 2 132 bB)) (λ(b,d,e,i,_) (a,c,_)=>(BZ b,(d,e,i,a,c),λ p=>(.leaf (.exit 4) [AV.osl 0 0 0 p.1] [bF 0 2 132 p.2]))) (0,[]) λ(b,_,_,_,_) _ (d,e,i,a,c)=>(((b,d,e,i,()),(a,c,())),Fj b d e i a c none)
def ve(l:LA):=(aB (BY l (↑l.length:Int)) (0,0,[])).getD (0,[])
def Rx(l:LA):=aB (I1 ((ve l).fst) 0) (0,0,sI ((ve l).snd),[])
def Co(l:LA):=(Rx l).getD (0,0,[],[])
def R4(l:LA):=kI 0 0 ((Co l).fst) (((Co l).snd).snd).snd
def yq(l:LA):=(R4 l).getD (false,(0,[]),0,[])
def R3(l:LA):=aB (BZ ((ve l).fst)) (br ((yq l).fst) (((yq l).snd).fst).fst (((yq l).snd).snd).fst,((Co l).fst),((Co l).snd).fst,(((Co l).snd).snd).fst,br ((yq l).fst) (((yq l).snd).fst).snd (((yq l).snd).snd).snd)
def FM(l:LA):=(R3 l).getD (0,[])
def Sl{T:Type}(l:LA)(δ:T)(κ:LA->T):T:=br ((aB (BY l (↑l.length:Int)) (0,0,[])).isSome) (br (((ve l).fst).beq ((ve l).snd).length&&(decide (((ve l).fst)<4611686018427387904)&&((ve l).snd).all isS)) (br ((Rx l).isSome) (br ((R4 l).isSome) (br ((R3 l).isSome) (br (decide (0+((FM l).fst)<=((FM l).snd).length)&&true) (κ (List.take ((FM l).fst) (List.drop 0 ((FM l).snd)))) δ) δ) δ) δ) δ) δ
def e7(l:LA):=Sl l none some
def W5:EO:=Gw.f Tryz.func77 106 0 [] [(3,Fp.lp),(11,JA.lp),(17,JB.lp),(15,Z6.lp)] (l7 (fe Fp.ok (fe JA.ok (fe Z6.ok (fe JB.ok kr))))) (u1 (uL 3)) (λ(l,_) _=>Sl l) (λ _ p=>AV.list 2 p) []
def HE{T:Type}(d:LA)(e:Int)(c:Nat)(b:Int)(a:LA)(δ:T)(κl:(Nat×Int×LA)->T)(κr:(Nat×LA)->T):T:=br (decide (b<e)) (br (bU d b) (br (jh d b 2 [Sh.int .i64,Sh.int .i64] 0) (br (gz c a 1 24) (κl (c+1,i64.wrap (b+1),a++[AV.agg [AV.int .i64 (gC d b 0).toInt,AV.int .i64 (gC d b 1).toInt,AV.int .i64 1]])) δ) δ) δ) (κr (c,a))
def AA(c:LA)(d:Int):cS (Nat×Int×LA) (Nat×LA):=λ(b,e,a)=>HE c d b e a none inL inR
def YX:=W5.l 20 0 [] [] Tryz.f116 0 lk0 [3,6,7,8] [3] [(3,3,100)] (q4 (cC 0 0 0) (qL 2) qI qI) (q1 (qB 0 3 100 bB)) (λ(b,c,d,e,_) (a,_)=>(AA c d,(b,e,a),λ p=>(.leaf (.exit 0) [AV.osl 0 0 0 p.1] [bF 0 3 100 p.2]))) (0,[]) λ(_,c,d,_,_) _ (b,e,a)=>(((b,c,d,e,()),(a,())),HE c d b e a none)
def D2(l:LA):=(aB (AA l (↑l.length:Int)) (0,0,[])).getD (0,[])
def OG(l:LA):=e7 (List.take ((D2 l).fst) (List.drop 0 ((D2 l).snd)))
def OP{T:Type}(l:LA)(δ:T)(κ:LA->T):T:=br ((aB (AA l (↑l.length:Int)) (0,0,[])).isSome) (br (decide (0+((D2 l).fst)<=((D2 l).snd).length)&&true) (br ((OG l).isSome) (κ ((OG l).getD [])) δ) δ) δ
def Bj(l:LA):=OP l none some
def CU:EO:=W5.f Tryz.func116 20 0 [] [(3,YX.lp)] (fc YX.ok) (u1 (uL 2)) (λ(l,_) _=>OP l) (λ _ p=>AV.list 2 p) []
def Js{T:Type}(o n:Int)(e f:Nat)(k p m j:Int)(h l i g a:Nat)(b:LA)(d:Nat)(c:LA)(δ:T)(κl:(Int×Int×Nat×Nat×Nat×Nat×Nat×LA×Nat×LA)->T)(κr:(Int×Nat×Nat×Nat×Nat×LA×Nat×LA×Nat)->T):T:=br (decide (m<p)) (br (a==e) (br (a==e) (br (a==e&&(decide (f<b.length)&&dw (Sh.int .i64) ((b.getD f .top).cells.getD 0 .top))) (br (d==g&&(gz i c 1 16)) (κl (i64.wrap (m+1),j,h,l,i+1,g+1,a,List.take h b,g+1,c++[AV.agg [AV.int .i64 ((b.getD f .top).cells.getD 0 .top).toInt,AV.int .i64 o]])) δ) δ) δ) δ) (κr (j,l,h,g,i,b,a,c,d))
def xK(m n:Int)(e f:Nat)(k o:Int):cS (Int×Int×Nat×Nat×Nat×Nat×Nat×LA×Nat×LA) (Int×Nat×Nat×Nat×Nat×LA×Nat×LA×Nat):=λ(p,g,h,i,j,l,a,b,c,d)=>Js m n e f k o p g h i j l a b c d none inL inR
def IU:=CU.l 71 5 [] [] Tryz.f106 1 lk0 [0,1,2,3,4,7,8,37,38] [0,1,2,3,4,7,8] [(3,0,0)] (q9 qI qI (dL 0 0 0 0) (dL 1 0 0 0) (dL 2 0 0 0) (Dt 3 0) qI qI qI) (q5 (qB 0 1 3 (q1 qI)) (fu 0 1 126 false false (q1 (kZ 3 0))) (fu 0 1 64 false false (q1 (kZ 4 0))) (kY 2 128 false true bB) (kY 2 52 false true bB)) (λ(o,n,_,_,_,(e,f),k,q,r,_) ((g,_),((h,i),_),((j,m),_),(a,b),(c,d),_)=>(xK o n e f k q,(r,g,i,h,m,j,a,b,c,d),λ p=>(.leaf (.exit 2) [AV.int .i64 o,AV.int .i64 n,AV.own 0 0 0 0,AV.own 1 0 0 0,AV.own 2 0 0 0,AV.own 3 e f 0,AV.int .i64 k] [bF 0 1 3 [AV.int .i64 p.1],⟨0,1,126,[AV.osl 3 p.2.1 0 p.2.2.1],false,false⟩,⟨0,1,64,[AV.osl 4 p.2.2.2.1 0 p.2.2.2.2.1],false,false⟩,bF p.2.2.2.2.2.2.1 2 128 p.2.2.2.2.2.1,bF p.2.2.2.2.2.2.2.2 2 52 p.2.2.2.2.2.2.2.1]))) (0,0,0,0,0,[],0,[],0) λ(o,n,_,_,_,(e,f),k,q,_,_) _ (r,g,i,h,m,j,a,b,c,d)=>(((o,n,(),(),(),(e,f),k,q,r,()),((g,()),((h,i),()),((j,m),()),(a,b),(c,d),())),Js o n e f k q r g i h m j a b c d none)
def oC(a:Nat):Nat:=0+(i64.wrap ((↑a:Int) - 1)).toNat
def ya(n b:Int)(c d:Nat)(a:LA):Int:=if i64.wrap (b - n)<((a.getD (oC c) .top).cells.getD 1 .top).toInt then i64.wrap (b - n)else((a.getD (oC c) .top).cells.getD 1 .top).toInt
def It(j n d:Int)(c g h i a:Nat)(b:LA)(e:Nat)(f:LA):=aB (xK j n g (oC c) (ya n d c a b) (ya n d c a b)) (0,d,c,g,h,i,a,List.take c b,e,f)
def jR(j n e:Int)(f g h i a:Nat)(b:LA)(c:Nat)(d:LA):=(It j n e f g h i a b c d).getD (0,0,0,0,0,[],0,[],0)
def BN(j n e:Int)(f g h i a:Nat)(b:LA)(c:Nat)(d:LA):=i64.wrap ((↑((((jR j n e f g h i a b c d).snd).snd).fst):Int) - 1)
def uJ(j n f:Int)(g e h i a:Nat)(b:LA)(c:Nat)(d:LA):=(((((((jR j n f g e h i a b c d).snd).snd).snd).snd).snd).snd).fst==e
def Bm(j n f:Int)(e g h i a:Nat)(b:LA)(c:Nat)(d:LA):=((((((((jR j n f e g h i a b c d).snd).snd).snd).snd).snd).fst).getD (oC e) .top).cells
def xZ(j n f:Int)(e g h i a:Nat)(b:LA)(c:Nat)(d:LA):=(((((((jR j n f e g h i a b c d).snd).snd).snd).snd).snd).fst).set (oC e) (AV.agg (List.take 1 (Bm j n f e g h i a b c d)++[AV.int .i64 (i64.wrap (((Bm j n f e g h i a b c d).getD 1 .top).toInt - ya n f e a b))]++List.drop 2 (Bm j n f e g h i a b c d)))
def BG{T:Type}(j n g:Int)(f e h i a:Nat)(b:LA)(c:Nat)(d:LA)(δ:T)(κl:(Int×Nat×Nat×Nat×Nat×Nat×LA×Nat×LA)->T)(κr:(Int×Nat×Nat×Nat×Nat×LA×Nat×LA×Nat)->T):T:=br (decide (g>n)) (br (a==e) (br (a==e&&(decide (0<=i64.wrap ((↑f:Int) - 1))&&decide (i64.wrap ((↑f:Int) - 1)<(↑f:Int)))) (br (a==e) (br (a==e) (br (a==e&&(decide (oC f<b.length)&&dw (Sh.int .i64) ((b.getD (oC f) .top).cells.getD 1 .top))) (br ((It j n g f e h i a b c d).isSome) (br (uJ j n g f e h i a b c d) (br (uJ j n g f e h i a b c d) (br (uJ j n g f e h i a b c d&&((decide (oC f<(((((((jR j n g f e h i a b c d).snd).snd).snd).snd).snd).fst).length))&&dw (Sh.int .i64) ((Bm j n g f e h i a b c d).getD 1 .top))) (br (uJ j n g f e h i a b c d) (br (uJ j n g f e h i a b c d) (br (uJ j n g f e h i a b c d&&(decide (oC f<(((((((jR j n g f e h i a b c d).snd).snd).snd).snd).snd).fst).length))) (br (e==e) (br (e==e) (br (e==e&&(decide (oC f<(xZ j n g f e h i a b c d).length)&&dw (Sh.int .i64) (((xZ j n g f e h i a b c d).getD (oC f) .top).cells.getD 1 .top))) (br ((((xZ j n g f e h i a b c d).getD (oC f) .top).cells.getD 1 .top).toInt==0) (br (e==(((jR j n g f e h i a b c d).snd).fst)) (br (e==(((jR j n g f e h i a b c d).snd).fst)&&(decide (0<=BN j n g f e h i a b c d)&&decide (BN j n g f e h i a b c d<=(↑((((jR j n g f e h i a b c d).snd).snd).fst):Int))&&true)) (κl (i64.wrap ((jR j n g f e h i a b c d).fst - ya n g f a b),(BN j n g f e h i a b c d).toNat - 0,(((jR j n g f e h i a b c d).snd).fst),(((((jR j n g f e h i a b c d).snd).snd).snd).snd).fst,((((jR j n g f e h i a b c d).snd).snd).snd).fst,e,List.take ((BN j n g f e h i a b c d).toNat - 0) (xZ j n g f e h i a b c d),((((((((jR j n g f e h i a b c d).snd).snd).snd).snd).snd).snd).snd).snd,((((((((jR j n g f e h i a b c d).snd).snd).snd).snd).snd).snd).snd).fst)) δ) δ) (κl (i64.wrap ((jR j n g f e h i a b c d).fst - ya n g f a b),((((jR j n g f e h i a b c d).snd).snd).fst),(((jR j n g f e h i a b c d).snd).fst),(((((jR j n g f e h i a b c d).snd).snd).snd).snd).fst,((((jR j n g f e h i a b c d).snd).snd).snd).fst,e,List.take ((((jR j n g f e h i a b c d).snd).snd).fst) (xZ j n g f e h i a b c d),((((((((jR j n g f e h i a b c d).snd).snd).snd).snd).snd).snd).snd).snd,((((((((jR j n g f e h i a b c d).snd).snd).snd).snd).snd).snd).snd).fst))) δ) δ) δ) δ) δ) δ) δ) δ) δ) δ) δ) δ) δ) δ) δ) (κr (g,e,f,i,h,b,a,d,c))
def uC(j n:Int):cS (Int×Nat×Nat×Nat×Nat×Nat×LA×Nat×LA) (Int×Nat×Nat×Nat×Nat×LA×Nat×LA×Nat):=λ(e,f,g,h,i,a,b,c,d)=>BG j n e f g h i a b c d none inL inR
def ZB:=CU.l 71 5 [] [(7,IU.lp)] Tryz.f106 0 (fc IU.ok) [0,1,2,3,4] [] [(3,0,0)] (q5 qI qI (dL 0 0 0 0) (dL 1 0 0 0) (dL 2 0 0 0)) (q5 (qB 0 1 3 (q1 qI)) (fu 0 1 126 false false (q1 (kZ 3 0))) (fu 0 1 64 false false (q1 (kZ 4 0))) (kY 2 128 false true bB) (kY 2 52 false true bB)) (λ(j,n,_,_,_,_) ((e,_),((f,g),_),((h,i),_),(a,b),(c,d),_)=>(uC j n,(e,g,f,i,h,a,b,c,d),λ p=>(.leaf (.exit 0) [] [bF 0 1 3 [AV.int .i64 p.1],⟨0,1,126,[AV.osl 3 p.2.1 0 p.2.2.1],false,false⟩,⟨0,1,64,[AV.osl 4 p.2.2.2.1 0 p.2.2.2.2.1],false,false⟩,bF p.2.2.2.2.2.2.1 2 128 p.2.2.2.2.2.1,bF p.2.2.2.2.2.2.2.2 2 52 p.2.2.2.2.2.2.2.1]))) (0,0,0,0,0,[],0,[],0) λ(j,n,_,_,_,_) _ (e,g,f,i,h,a,b,c,d)=>(((j,n,(),(),(),()),((e,()),((f,g),()),((h,i),()),(a,b),(c,d),())),BG j n e g f i h a b c d none)
def B9:cZ:=CU.E.fn 71 5 (dQ []) (iS [(7,IU.lp),(3,ZB.lp)])
def xw4:di P0 (xQa.at 5) B9:=CU.ok.fn
def xuS:cV P0 (xQa.at B9.pin) B9 (Tryz.f106.body.getD .skip):=r7 (ls:=[gE Tryz.f106 0,gE Tryz.f106 1]) Θ (fe ZB.ok (fe IU.ok kr))
def JK(a n h:Int)(b c:Nat)(d e:LA):=aB (uC a n) (n,b+1,1,c,0,1,List.take (b+1) (d++[AV.agg [AV.int .i64 a,AV.int .i64 (i64.wrap (n - h))]]),0,e)
def JL(a n h:Int)(b c:Nat)(d e:LA):=aB (uC a n) (h,b,0,c,0,0,List.take b d,0,e)
def qW(a n h:Int)(b c:Nat)(d e:LA):=(JK a n h b c d e).getD (0,0,0,0,0,[],0,[],0)
def qX(a n h:Int)(b c:Nat)(d e:LA):=(JL a n h b c d e).getD (0,0,0,0,0,[],0,[],0)
def Fs{T:Type}(a n h:Int)(b d:Nat)(c e:LA)(δ:T)(κ:Int×Nat×Nat×Nat×Nat×LA×Nat×LA×Nat->T):T:=br (decide (n>h)) (br (gz b c 1 16) (br ((JK a n h b d c e).isSome) (κ ((qW a n h b d c e).fst,((qW a n h b d c e).snd).fst,(((qW a n h b d c e).snd).snd).fst,((((qW a n h b d c e).snd).snd).snd).fst,(((((qW a n h b d c e).snd).snd).snd).snd).fst,((((((qW a n h b d c e).snd).snd).snd).snd).snd).fst,(((((((qW a n h b d c e).snd).snd).snd).snd).snd).snd).fst,((((((((qW a n h b d c e).snd).snd).snd).snd).snd).snd).snd).fst,((((((((qW a n h b d c e).snd).snd).snd).snd).snd).snd).snd).snd)) δ) δ) (br ((JL a n h b d c e).isSome) (κ ((qX a n h b d c e).fst,((qX a n h b d c e).snd).fst,(((qX a n h b d c e).snd).snd).fst,((((qX a n h b d c e).snd).snd).snd).fst,(((((qX a n h b d c e).snd).snd).snd).snd).fst,((((((qX a n h b d c e).snd).snd).snd).snd).snd).fst,(((((((qX a n h b d c e).snd).snd).snd).snd).snd).snd).fst,((((((((qX a n h b d c e).snd).snd).snd).snd).snd).snd).snd).fst,((((((((qX a n h b d c e).snd).snd).snd).snd).snd).snd).snd).snd)) δ)
def Cs(a n h:Int)(b c:Nat)(d e:LA):=Fs a n h b c d e none some
def xCw(a n h:Int)(b c:Nat)(d e:LA):cU (λ(p:Int×Nat×Nat×Nat×Nat×LA×Nat×LA×Nat)=>(((AV.tuple [],([⟨0,1,3,[AV.int .i64 p.1],false,true⟩,⟨0,1,126,[AV.osl 3 p.2.1 0 p.2.2.1],false,false⟩,⟨0,1,64,[AV.osl 4 p.2.2.2.1 0 p.2.2.2.2.1],false,false⟩,⟨p.2.2.2.2.2.2.1,2,128,p.2.2.2.2.2.1,false,true⟩,⟨p.2.2.2.2.2.2.2.2,2,52,p.2.2.2.2.2.2.2.1,false,true⟩]:List aC))):(AV×List aC))) (Cs a n h b c d e) (l6 P0 B9 Tryz.f106 (Tryz.f106.body.getD .skip) [AV.int .i64 a,AV.int .i64 n,AV.own (0:Id) 0 0 0,AV.own (1:Id) 0 0 0,AV.own (2:Id) 0 0 0] [{ver:=0,sz:=1,ty:=(3:TypeId),xs:=[AV.int .i64 h],frz:=false,pm:=true},{ver:=0,sz:=1,ty:=(126:TypeId),xs:=[AV.osl (3:Id) 0 0 b],frz:=false,pm:=false},{ver:=0,sz:=1,ty:=(64:TypeId),xs:=[AV.osl (4:Id) 0 0 c],frz:=false,pm:=false},{ver:=0,sz:=2,ty:=(128:TypeId),xs:=d,frz:=false,pm:=true},{ver:=0,sz:=2,ty:=(52:TypeId),xs:=e,frz:=false,pm:=true}]):=by(have h:l6 P0 B9 Tryz.f106 (Tryz.f106.body.getD .skip) [AV.int .i64 a,AV.int .i64 n,AV.own (0:Id) 0 0 0,AV.own (1:Id) 0 0 0,AV.own (2:Id) 0 0 0] [{ver:=0,sz:=1,ty:=(3:TypeId),xs:=[AV.int .i64 h],frz:=false,pm:=true},{ver:=0,sz:=1,ty:=(126:TypeId),xs:=[AV.osl (3:Id) 0 0 b],frz:=false,pm:=false},{ver:=0,sz:=1,ty:=(64:TypeId),xs:=[AV.osl (4:Id) 0 0 c],frz:=false,pm:=false},{ver:=0,sz:=2,ty:=(128:TypeId),xs:=d,frz:=false,pm:=true},{ver:=0,sz:=2,ty:=(52:TypeId),xs:=e,frz:=false,pm:=true}]=Fs a n h b c d e none (λ(p:Int×Nat×Nat×Nat×Nat×LA×Nat×LA×Nat)=>some (((AV.tuple [],([⟨0,1,3,[AV.int .i64 p.1],false,true⟩,⟨0,1,126,[AV.osl 3 p.2.1 0 p.2.2.1],false,false⟩,⟨0,1,64,[AV.osl 4 p.2.2.2.1 0 p.2.2.2.2.1],false,false⟩,⟨p.2.2.2.2.2.2.1,2,128,p.2.2.2.2.2.1,false,true⟩,⟨p.2.2.2.2.2.2.2.2,2,52,p.2.2.2.2.2.2.2.1,false,true⟩]:List aC))):(AV×List aC))):=by kernel_rfl);rw[h];unfold Cs Fs;repeat' (first|refine cU.br ?_ ?_|exact cU.none|exact cU.some rfl)
end Go.Sim.M
namespace Go.Sim
open Go.RowKit
def bG.aged{P:Program}{Inv:IV}{f:FuncId}{args:List AV}{H E:List aC}{p q v k t s y:Nat}{xs:List AV}(h:bG P Inv f args H (.tuple []) E)(hz:∀bx,H[q]?=some bx->bx.ver=0)(ep:E[p]?=some ⟨0,1,t,[.osl (.b q) v 0 k],false,false⟩)(eq:E[q]?=some ⟨v,s,y,xs,false,true⟩)(pt:bW t=false)(py:bW y=false)(ho:∀n bx,E[n]?=some bx->bW bx.ty=false/\(n=p\/n=q\/bx.pm\/∃n' v' k',n'≠q/\bx.xs=[.osl (.b n') v' 0 k'])):bG P Inv f args H (.tuple []) ((E.set p ⟨0,1,t,[.osl (.b q) 1 0 k],false,false⟩).set q ⟨1,s,y,xs,false,true⟩):=by
 have pq:p≠q:=λ e=>by subst e;rw[ep]at eq;simp at eq
 refine⟨h.1,λ w0 w A M vs hI hB hR ab=>(h.2 w0 w A M vs hI hB hR ab).mono ?_⟩;rintro e w' ⟨u,A',M',rfl,h1,h2,h3,h4,h5⟩;let M'':Id->Option MB:=λ id=>if id=.b q then(M' id).map λ m=>⟨m.b,1,m.sz,m.cap,m.ty⟩else M' id;have eo:∀id,id≠.b q->M'' id=M' id:=λ id g1=>if_neg g1;have e4:∀m,M' (.b q)=some m->M'' (.b q)=some ⟨m.b,1,m.sz,m.cap,m.ty⟩:=λ m hm=>(if_pos rfl).trans (by rw[hm];rfl);have Q:∀id m1,M'' id=some m1->∃m0,M' id=some m0/\m1.b=m0.b/\m1.cap=m0.cap:=λ id m1 J=>by by_cases g3:id=.b q;(subst g3;cases hm:M' (.b q)with|none=>simp[M'',hm]at J|some m=>rw[e4 m hm]at J;simp only[z6]at J;subst J;exact⟨m,rfl,rfl,rfl⟩);exact⟨m1,eo id g3▸J,rfl,rfl⟩
 have O:∀n bx m,E[n]?=some bx->M' (.b n)=some m->BoxAt w' A' M' w0.heap.size (.b n) m bx:=λ n bx m hn hm=>by obtain⟨bx',g1,g2⟩:=h4.box _ m hm;rw[iQ,hn]at g1;cases g1;exact g2
 have hv:∀m,M' (.b q)=some m->v=m.ver:=λ m hm=>(O q _ m eq hm).ver;have hx:∀c n' v' k',n'≠q->aD w' A' M' c (.osl (.b n') v' 0 k')->aD w' A' M'' c (.osl (.b n') v' 0 k'):=λ c n' v' k' hn hr=>by obtain⟨m0,g1,g2,g3,g4⟩:=aD.osl_inv hr;exact .osl c _ v' 0 k' m0 ((eo _ λ e=>hn (by cases e;rfl)).trans g1) g2 g3 g4
 have hy:∀c,aD w' A' M' c (.osl (.b q) v 0 k)->aD w' A' M'' c (.osl (.b q) 1 0 k):=λ c hr=>by obtain⟨m0,g1,g2,g3,g4⟩:=aD.osl_inv hr;exact .osl c _ 1 0 k _ (e4 m0 g1) (zd _) g3 λ _=>g4 (hv m0 g1)
 have hb:∀id(bx bx':aC)(m m':MB),bW bx.ty=false->bx'=⟨m'.ver,bx.sz,bx.ty,bx'.xs,bx.frz,bx.pm⟩->m'=⟨m.b,m'.ver,m.sz,m.cap,m.ty⟩->bx'.xs.length=bx.xs.length->(∀x,x∈bx'.xs->x.okElem m.sz)->
   (∀c i j,aD w' A' (MP M' bx.pm) c ((bx.xs.getD i .top).cells.getD j .top)->aD w' A' (MP M'' bx.pm) c ((bx'.xs.getD i .top).cells.getD j .top))->BoxAt w' A' M' w0.heap.size id m bx->BoxAt w' A' M'' w0.heap.size id m' bx':=λ id bx bx' m m' V ad Y hl aa hc g=>by
  rw[ad,Y];have W:dD m.ty=false:=g.nomap (kG V);refine⟨rfl,g.sz,g.ty,g.capm,hl▸g.fits,aa,g.low,g.lt,λ h0=>?_,g.guard⟩
  obtain⟨c,c1,c2,c3⟩:=g.cells h0;refine⟨c,.of W (c1.plain W),c2,λ i j hi hj=>?_⟩
  have:=c3 i j (hl▸hi) hj;rw[jL V,jY V]at this;rw[jL V,jY (bx:=⟨m'.ver,bx.sz,bx.ty,bx'.xs,bx.frz,bx.pm⟩) V];exact hc _ i j this
 have ht:∀a v1 v2 d,(∀c,aD w' A' M' c (.osl a v1 0 d)->aD w' A' M'' c (.osl a v2 0 d))->∀c i j,aD w' A' M' c ((([.osl a v1 0 d]:List AV).getD i .top).cells.getD j .top)->aD w' A' M'' c ((([.osl a v2 0 d]:List AV).getD i .top).cells.getD j .top):=λ a v1 v2 d hh c i j hr=>by match i,j with|0,0=>exact hh c hr|0,j+1=>exact .top _|i+1,0=>exact .top _|i+1,j+1=>exact .top _
 have hg:∀n bx,E[n]?=some bx->∃bx',((E.set p ⟨0,1,t,[.osl (.b q) 1 0 k],false,false⟩).set q ⟨1,s,y,xs,false,true⟩)[n]?=some bx'/\bW bx'.ty=false/\(∀m m1,M' (.b n)=some m->M'' (.b n)=some m1->BoxAt w' A' M'' w0.heap.size (.b n) m1 bx'):=λ n bx hn=>by have hn':=j6 hn;obtain⟨hC,hc⟩:=ho n bx hn;by_cases g1:n=q;subst g1;rw[hn]at eq;cases eq;refine⟨_,zL (by simpa using hn'),py,λ m m1 e1 e2=>?_⟩;rw[e4 m e1]at e2;cases e2;have g:=O n _ m hn e1;exact hb _ ⟨v,s,y,xs,false,true⟩ ⟨1,s,y,xs,false,true⟩ m _ py rfl rfl rfl g.ok (λ c i j hr=>hr) g;(have ge:∀m m1,M' (.b n)=some m->M'' (.b n)=some m1->m1=m:=λ m m1 e1 e2=>by rw[eo _ λ e=>g1 (by cases e;rfl),e1]at e2;cases e2;rfl);by_cases g2:n=p;subst g2;rw[hn]at ep;cases ep;refine⟨_,(zX (Ne.symm g1)).trans (zL hn'),pt,λ m m1 e1 e2=>?_⟩;cases ge m m1 e1 e2;have g:=O n _ m hn e1;have hv:0=m.ver:=g.ver;have hz:m.sz=1:=g.sz.symm;exact hb _ ⟨0,1,t,[.osl (.b q) v 0 k],false,false⟩ ⟨0,1,t,[.osl (.b q) 1 0 k],false,false⟩ m m pt (by rw[<-hv]) rfl rfl (λ x hx=>by simp only[zv]at hx;subst hx;rw[hz];rfl) (ht _ _ _ _ hy) g;refine⟨bx,(zX (Ne.symm g1)).trans ((zX (Ne.symm g2)).trans hn),hC,λ m m1 e1 e2=>?_⟩;cases ge m m1 e1 e2;have g:=O n _ m hn e1;refine hb _ bx bx m m hC (by rw[<-g.ver]) rfl rfl g.ok ?_ g;rcases hc with hc|hc|hc|⟨n',v',k',hc,hd⟩;exact absurd hc g2;exact absurd hc g1;rw[hc];exact λ c i j hr=>hr;cases ae:bx.pm with|true=>exact λ c i j hr=>hr|false=>rw[hd];exact ht _ _ _ _ λ c=>hx c n' v' k' hc
 have hR':HR w' A' M'' w0.heap.size ((E.set p ⟨0,1,t,[.osl (.b q) 1 0 k],false,false⟩).set q ⟨1,s,y,xs,false,true⟩):=by refine⟨λ id m1 J=>?_,λ id id' m1 m2 k1 k2 c1 c2 he=>?_,h4.lt⟩;(obtain⟨m0,g1,_⟩:=Q id m1 J;obtain⟨bx,q1,q2⟩:=h4.box _ m0 g1;cases id with|r n i j=>(rw[eo _ (λ e=>by cases e),g1]at J;cases J;obtain⟨c0,r1,_⟩:=tV q1;obtain⟨bx',r2,r3,_⟩:=hg n c0 r1;rw[pg r1 (ho n c0 r1).1]at q1;cases q1;exact⟨_,pg r2 r3,hb _ fY fY m1 m1 rfl (by rw[<-q2.ver]) rfl rfl q2.ok (λ c i j hr=>hr) q2⟩)|b n=>obtain⟨bx',r2,_,r3⟩:=hg n bx q1;exact⟨bx',r2,r3 _ _ g1 J⟩);obtain⟨n1,a1,a2,a3⟩:=Q id m1 k1;obtain⟨n2,b1,b2,b3⟩:=Q id' m2 k2;exact h4.inj id id' n1 n2 a1 b1 (a3▸c1) (b3▸c2) (by rw[<-a2,<-b2,he])
 refine⟨u,A',M'',rfl,h1,h2,⟨h3.size,h3.keep,h3.less,h3.more,λ id m ac hm=>?_,λ id m1 J h0=>?_⟩,hR',?_⟩;obtain⟨m',g1,g2⟩:=h3.ids id m ac hm;by_cases q4:id=.b q;subst q4;obtain⟨bx,r1,r2⟩:=hR.box _ m hm;exact⟨_,e4 m' g1,.inr (by rw[<-r2.ver,hz bx r1];exact Nat.zero_lt_one)⟩;exact⟨m',(eo id q4).trans g1,g2⟩;obtain⟨m0,g1,g2,g3⟩:=Q id m1 J;rw[g2];exact h3.src id m0 g1 (g3▸h0);obtain⟨Z,rfl,q1,_⟩:=h5.tuple_inv;exact .tuple Z [] q1 Ψ
namespace M
open Go.Proofs
noncomputable def set2(q n h:Int)(ns no:Nat)(sx ox:List AV):Option (Int×Nat×Nat×List AV×List AV):=(Cs q n h ns no sx ox).bind λ p=>
 br (Nat.beq p.2.1 p.2.2.2.2.2.2.1&&Nat.beq p.2.2.2.1 p.2.2.2.2.2.2.2.2) (some (p.1,p.2.2.1,p.2.2.2.2.1,p.2.2.2.2.2.1,p.2.2.2.2.2.2.2.1)) none
noncomputable def Xg:List AV->List aC->Option (Bool×AV×List aC):=jl (cT (sEq (pInt IntKind.i64)) (cT (sEq (pInt IntKind.i64)) (cT (sEq (dL 0 0 0 0)) (cT (sEq (dL 1 0 0 0)) (cT (sEq (dL 2 0 0 0)) iU))))) (aZ (fu 0 1 3 false true (aZ (pInt IntKind.i64) bO)) (aZ (fu 0 1 126 false false (aZ (cC 3 0 0) bO)) (aZ (fu 0 1 64 false false (aZ (cC 4 0 0) bO)) (aZ (fu 0 2 128 false true bB) (aZ (fu 0 2 52 false true bB) bO))))) λ(q,(n,(_,(_,(_,_))))) ((h,_),((ns,_),((no,_),(sx,(ox,_)))))=>((set2 q n h ns no sx ox).isSome,(.tuple [],[⟨0,1,3,[.int .i64 ((set2 q n h ns no sx ox).getD (0,0,0,[],[])).1],false,true⟩,⟨0,1,126,[.osl (.b 3) 1 0 ((set2 q n h ns no sx ox).getD (0,0,0,[],[])).2.1],false,false⟩,⟨0,1,64,[.osl (.b 4) 1 0 ((set2 q n h ns no sx ox).getD (0,0,0,[],[])).2.2.1],false,false⟩,⟨1,2,128,((set2 q n h ns no sx ox).getD (0,0,0,[],[])).2.2.2.1,false,true⟩,⟨1,2,52,((set2 q n h ns no sx ox).getD (0,0,0,[],[])).2.2.2.2,false,true⟩]))
def xMZ:fJ P0 xQa 106 Xg:=pR λ vv bb rr Z hh=>by obtain⟨J,⟨n,⟨_,⟨_,⟨_,_⟩⟩⟩⟩⟩:=vv;obtain⟨⟨h,_⟩,⟨⟨ns,_⟩,⟨⟨no,_⟩,⟨sx,⟨ox,_⟩⟩⟩⟩⟩:=bb;obtain⟨O,Q⟩:=Prod.mk.inj hh;cases hs:Cs J n h ns no sx ox with|none=>rw[show set2 J n h ns no sx ox=none by unfold set2;rw[hs];rfl]at O;simp at O|some p=>(have W:set2 J n h ns no sx ox=br (Nat.beq p.2.1 p.2.2.2.2.2.2.1&&Nat.beq p.2.2.2.1 p.2.2.2.2.2.2.2.2) (some (p.1,p.2.2.1,p.2.2.2.2.1,p.2.2.2.2.2.1,p.2.2.2.2.2.2.2.1)) none:=by unfold set2;rw[hs];rfl);cases ht:Nat.beq p.2.1 p.2.2.2.2.2.2.1&&Nat.beq p.2.2.2.1 p.2.2.2.2.2.2.2.2 with|false=>rw[W,ht]at O;simp[br]at O|true=>
 rw[ht]at W;have Y:set2 J n h ns no sx ox=some (p.1,p.2.2.1,p.2.2.2.2.1,p.2.2.2.2.2.1,p.2.2.2.2.2.2.2.1):=W;rw[Y]at Q;simp only[zh]at Q;simp only[zf]at ht;have e1:=zg ht.1;have e2:=zg ht.2;have hx:=xCw J n h ns no sx ox p hs;have hg:bG P0 xQa 106 _ _ _ _:=vB (p:=B9.pin) (vA xPD (xPE P0 _) rfl xw4 rfl Tryz.func106 rfl Θ xuS hx);rw [<-e1,<-e2] at hg;have V:=bG.aged (p:=1) (q:=3) hg (fun bx hb=>by cases hb;rfl) rfl rfl rfl rfl (fun n bx hn=>by
  match n with
  | 0=>cases hn;exact⟨rfl,.inr (.inr (.inl rfl))⟩
  | 1=>cases hn;exact⟨rfl,.inl rfl⟩
  | 2=>cases hn;exact⟨rfl,.inr (.inr (.inr ⟨_,_,_,by decide,rfl⟩))⟩
  | 3=>cases hn;exact⟨rfl,.inr (.inl rfl)⟩
  | 4=>cases hn;exact⟨rfl,.inr (.inr (.inl rfl))⟩
  | n+5=>simp at hn)
 have V:=bG.aged (p:=2) (q:=4) V (fun bx hb=>by cases hb;rfl) rfl rfl rfl rfl (fun n bx hn=>by
  match n with
  | 0=>cases hn;exact⟨rfl,.inr (.inr (.inl rfl))⟩
  | 1=>cases hn;exact⟨rfl,.inr (.inr (.inr ⟨_,_,_,by decide,rfl⟩))⟩
  | 2=>cases hn;exact⟨rfl,.inl rfl⟩
  | 3=>cases hn;exact⟨rfl,.inr (.inr (.inl rfl))⟩
  | 4=>cases hn;exact⟨rfl,.inr (.inl rfl)⟩
  | n+5=>simp at hn)
 obtain⟨rfl,rfl⟩:=Prod.mk.inj Q;exact V
noncomputable def C0:cZ:=CU.E.withM 106 Xg
def xJY:di P0 xQa C0:=CU.ok.withM xMZ
noncomputable def Wk:EO:=EO.mk C0 xJY
end M
end Go.Sim
namespace Go.Sim.M
open Go.RowKit Go.Proofs
open Go.IntKind (i64 u64 u8)
def Pb(a:LA)(h b:Int)(f c:Nat)(g:Int)(d e:LA):Int:=if 0>(gC a b 1).toInt then 0 else(gC a b 1).toInt
def Pa(f:LA)(h g:Int)(d a:Nat)(e:Int)(b c:LA):=set2 (gC f g 0).toInt (if 1048576<Pb f h g d a e b c then 1048576 else Pb f h g d a e b c) e a d c b
def xO(f:LA)(g h:Int)(d a:Nat)(e:Int)(b c:LA):=(Pa f g h d a e b c).getD (0,0,0,[],[])
def IG{T:Type}(g:LA)(h e:Int)(d a:Nat)(f:Int)(b c:LA)(δ:T)(κl:(Int×Nat×Nat×Int×LA×LA)->T)(κr:(Nat×Int×Nat×LA×LA)->T):T:=br (decide (e<h)) (br (bU g e) (br (jh g e 2 [Sh.int .i64,Sh.int .i64] 0) (br ((Pa g h e d a f b c).isSome) (κl (i64.wrap (e+1),(((xO g h e d a f b c).snd).snd).fst,(((xO g h e d a f b c).snd).fst),(xO g h e d a f b c).fst,((((xO g h e d a f b c).snd).snd).snd).snd,List.take (((xO g h e d a f b c).snd).fst) ((((xO g h e d a f b c).snd).snd).snd).fst)) δ) δ) δ) (κr (d,f,a,b,c))
def Bi(f:LA)(g:Int):cS (Int×Nat×Nat×Int×LA×LA) (Nat×Int×Nat×LA×LA):=λ(h,d,a,e,b,c)=>IG f g h d a e b c none inL inR
def Zs:=Wk.l 30 0 [] [] Tryz.f76 0 lk0 [3,4,6,10,11,12] [3,6] [(3,2,52),(4,2,128),(4,0,0)] (q6 (dL 0 0 0 0) (dL 1 0 0 0) (ez 106 (q3 (dL 2 0 0 0) (dL 1 0 0 0) (dL 0 0 0 0))) (qL 2) qI qI) (q5 (fu 0 1 64 false false (q1 (cC 3 0 0))) (fu 0 1 126 false false (q1 (cC 4 0 0))) (qB 0 1 3 (q1 qI)) (qB 0 2 52 bB) (qB 0 2 128 bB)) (λ(_,_,(_,_,_,_),f,g,h,_) ((d,_),(a,_),(e,_),b,c,_)=>(Bi f g,(h,d,a,e,b,c),λ p=>(.leaf (.exit 0) [AV.own 0 0 0 0,AV.func 106 [AV.own 1 0 0 0,AV.own 2 0 0 0,AV.own 0 0 0 0]] [⟨0,1,64,[AV.osl 3 0 0 p.1],false,false⟩,bF 0 1 3 [AV.int .i64 p.2.1],⟨0,1,126,[AV.osl 4 0 0 p.2.2.1],false,false⟩,bF 0 2 52 p.2.2.2.1,bF 0 2 128 p.2.2.2.2]))) (0,0,0,[],[]) λ(_,_,(_,_,_,_),f,g,_,_) _ (h,d,a,e,b,c)=>((((),(),((),(),(),()),f,g,h,()),((d,()),(a,()),(e,()),b,c,())),IG f g h d a e b c none)
def Qw(l:LA):=aB (Bi l (↑l.length:Int)) (0,0,0,0,[],[])
def B5(l:LA):=(Qw l).getD (0,0,0,[],[])
def Qv(l:LA):=set2 1099511627776 0 ((B5 l).snd).fst (((B5 l).snd).snd).fst (B5 l).fst ((((B5 l).snd).snd).snd).snd ((((B5 l).snd).snd).snd).fst
def tr(l:LA):=((Qv l).getD (0,0,0,[],[])).snd.snd
def P1{T:Type}(l:LA)(δ:T)(κ:LA->T):T:=br ((Qw l).isSome) (br ((Qv l).isSome) (br (((tr l).fst).beq ((tr l).snd.snd).length&&(decide (((tr l).fst)<4611686018427387904)&&((tr l).snd.snd).all yV)) (br (decide (0+((tr l).fst)<=(qy ((tr l).snd.snd)).length)&&true) (κ (List.take ((tr l).fst) (List.drop 0 (qy ((tr l).snd.snd))))) δ) δ) δ) δ
def kF(l:LA):=P1 l none some
def xLq:EO:=Wk.f Tryz.func76 30 0 [] [(6,Zs.lp)] (fc Zs.ok) (u1 (uL 2)) (λ(l,_) _=>P1 l) (λ _ p=>AV.list 2 p) []
def PO{T:Type}(a:LA)(δ:T)(κ:LA->T):T:=br ((↑a.length:Int)==1) (κ (a)) (br ((Bj a).isSome) (br ((kF ((Bj a).getD [])).isSome) (κ ((kF ((Bj a).getD [])).getD [])) δ) δ)
def yl(a:LA):=PO a none some
def Nw:EO:=xLq.f Tryz.func115 10 0 [] [] lk0 (u1 (uL 2)) (λ(a,_) _=>PO a) (λ _ p=>AV.list 2 p) []
def I6{T:Type}(b e:LA)(f:Int)(c:Nat)(a:Int)(d:LA)(δ:T)(κl:(Nat×Int×LA)->T)(κr:(Nat×LA)->T):T:=br (decide (a<f)) (br (decide (0<=a)&&decide (a<e.length)) (br (decide (a.toNat<e.length)&&((e.getD a.toNat .top).cells.length==2&&ew [Sh.int .i64,Sh.int .i64] (e.getD a.toNat .top).cells 0)) (br (yo ((e.getD a.toNat .top).cells.getD 0 .top).toInt ((e.getD a.toNat .top).cells.getD 1 .top).toInt) (br (c==d.length&&(decide ((c+2)*24<=140737488355328)&&decide (c+2<=4611686018427387904))) (κl (c+2,i64.wrap (a+1),d++[AV.agg [AV.int .i64 ((e.getD a.toNat .top).cells.getD 0 .top).toInt,AV.int .i64 1,AV.int .i64 0],AV.agg [AV.int .i64 ((e.getD a.toNat .top).cells.getD 1 .top).toInt,AV.int .i64 (-1),AV.int .i64 0]])) δ) (κl (c,i64.wrap (a+1),d))) δ) δ) (κr (c,d))
def uF(b d:LA)(e:Int):cS (Nat×Int×LA) (Nat×LA):=λ(c,f,a)=>I6 b d e c f a none inL inR
def Pn:=Nw.l 49 0 [] [] Tryz.f129 0 lk0 [1,5,10,11,12] [1,5] [(5,3,154)] (q5 (qL 2) (cC 0 0 0) (qL 2) qI qI) (q1 (qB 0 3 154 bB)) (λ(b,c,d,e,f,_) (a,_)=>(uF b d e,(c,f,a),λ p=>(.leaf (.exit 0) [AV.list 2 b,AV.osl 0 0 0 p.1] [bF 0 3 154 p.2]))) (0,[]) λ(b,_,d,e,_,_) _ (c,f,a)=>(((b,c,d,e,f,()),(a,())),I6 b d e c f a none)
def I7{T:Type}(d:LA)(e:Int)(b:Nat)(a:Int)(c:LA)(δ:T)(κl:(Nat×Int×LA)->T)(κr:(Nat×LA)->T):T:=br (decide (a<e)) (br (decide (0<=a)&&decide (a<d.length)) (br (decide (a.toNat<d.length)&&((d.getD a.toNat .top).cells.length==2&&ew [Sh.int .i64,Sh.int .i64] (d.getD a.toNat .top).cells 0)) (br (yo ((d.getD a.toNat .top).cells.getD 0 .top).toInt ((d.getD a.toNat .top).cells.getD 1 .top).toInt) (br (b==c.length&&(decide ((b+2)*24<=140737488355328)&&decide (b+2<=4611686018427387904))) (κl (b+2,i64.wrap (a+1),c++[AV.agg [AV.int .i64 ((d.getD a.toNat .top).cells.getD 0 .top).toInt,AV.int .i64 0,AV.int .i64 1],AV.agg [AV.int .i64 ((d.getD a.toNat .top).cells.getD 1 .top).toInt,AV.int .i64 0,AV.int .i64 (-1)]])) δ) (κl (b,i64.wrap (a+1),c))) δ) δ) (κr (b,c))
def Bu(c:LA)(d:Int):cS (Nat×Int×LA) (Nat×LA):=λ(b,e,a)=>I7 c d b e a none inL inR
def ZZ:=Nw.l 49 0 [] [(3,Pn.lp)] Tryz.f129 1 lk0 [5,28,29,30] [5] [(5,3,154)] (q4 (cC 0 0 0) (qL 2) qI qI) (q1 (qB 0 3 154 bB)) (λ(b,c,d,e,_) (a,_)=>(Bu c d,(b,e,a),λ p=>(.leaf (.exit 2) [AV.osl 0 0 0 p.1] [bF 0 3 154 p.2]))) (0,[]) λ(_,c,d,_,_) _ (b,e,a)=>(((b,c,d,e,()),(a,())),I7 c d b e a none)
def J1(a b:LA):=(aB (uF b a (↑a.length:Int)) (0,0,[])).getD (0,[])
def J0(a b:LA):=aB (Bu b (↑b.length:Int)) ((J1 a b).fst,0,(J1 a b).snd)
def JZ(a b:LA):=(J0 a b).getD (0,[])
def B7(a b:LA):=(JZ a b).fst
def B8(a b:LA):=(JZ a b).snd
def Rt{T:Type}(a b:LA)(δ:T)(κ:LA->T):T:=br ((aB (uF b a (↑a.length:Int)) (0,0,[])).isSome) (br ((J0 a b).isSome) (br ((B7 a b).beq (B8 a b).length&&(decide (B7 a b<4611686018427387904)&&(B8 a b).all yU)) (br (decide (0+B7 a b<=(qx (B8 a b)).length)&&true) (κ (List.take (B7 a b) (List.drop 0 (qx (B8 a b))))) δ) δ) δ) δ
def Kx(a b:LA):=Rt a b none some
def xLr:EO:=Nw.f Tryz.func129 49 0 [] [(3,Pn.lp),(9,ZZ.lp)] (l7 (fe Pn.ok (fe ZZ.ok kr))) (u2 (uL 2) (uL 2)) (λ(a,b,_) _=>Rt a b) (λ _ p=>AV.list 3 p) []
end Go.Sim.M
namespace Go.Sim.M
open Go.RowKit Go.Lib
open Go.IntKind (i64 u64 u8)
def F5(l:LA)(i:Int):=decide (0<=i)&&decide (i<l.length)
def CH{T:Type}(l:LA)(e:Nat)(d b c i:Int)(a:LA)(δ:T)(κl:(Int×Int×Int×LA)->T)(κr:(Int×Int×Int×LA)->T):T:=br (decide (i<l.length)) (br (F5 l i) (br (decide (i.toNat<l.length)&&dw (Sh.int .i64) ((l.getD i.toNat .top).cells.getD 0 .top)) (br (((l.getD i.toNat .top).cells.getD 0 .top).toInt==d) (br (F5 l i) (br (decide (i.toNat<l.length)&&dw (Sh.int .i64) ((l.getD i.toNat .top).cells.getD 1 .top)) (br (F5 l i) (br (decide (i.toNat<l.length)&&dw (Sh.int .i64) ((l.getD i.toNat .top).cells.getD 2 .top)) (κl (i64.wrap (b+((l.getD i.toNat .top).cells.getD 1 .top).toInt),i64.wrap (c+((l.getD i.toNat .top).cells.getD 2 .top).toInt),i64.wrap (i+1),a)) δ) δ) δ) δ) (κr (b,c,i,a))) δ) δ) (κr (b,c,i,a))
def tD(l:LA)(b:Nat)(c:Int):cS (Int×Int×Int×LA) (Int×Int×Int×LA):=λ(d,e,i,a)=>CH l b c d e i a none inL inR
def Cv(b:Bool->Bool->Bool)(a:Nat):=decide (0<=i64.wrap ((↑a:Int) - 1))&&decide (i64.wrap ((↑a:Int) - 1)<(↑a:Int))
def KA(d:Bool->Bool->Bool)(l:LA)(b:Nat)(e f i c:Int)(a:LA):=(aB (tD l b c) (e,f,i,a)).getD (0,0,0,[])
def oG(b:Bool->Bool->Bool)(a:Nat):Nat:=0+(i64.wrap ((↑a:Int) - 1)).toNat
def KY(c:Bool->Bool->Bool)(l:LA)(b:Nat)(e f i d:Int)(a:LA):=(KA c l b e f i d a).snd
def rh(c:Bool->Bool->Bool)(l:LA)(b:Nat)(e f i d:Int)(a:LA):=(KA c l b e f i d a).fst
def KX(c:Bool->Bool->Bool)(l:LA)(b:Nat)(e f i d:Int)(a:LA):=(KY c l b e f i d a).snd
def rg(c:Bool->Bool->Bool)(l:LA)(b:Nat)(e f i d:Int)(a:LA):=(KY c l b e f i d a).fst
def kE(c:Bool->Bool->Bool)(l:LA)(b:Nat)(e f i d:Int)(a:LA):=(KX c l b e f i d a).snd
def KV(b:Bool->Bool->Bool)(l:LA)(c:Nat)(e f i d:Int)(a:LA):=b (decide (rh b l c e f i d a>0)) (decide (rg b l c e f i d a>0))
def kQ(c:Bool->Bool->Bool)(l:LA)(b:Nat)(e f i d:Int)(a:LA):=(KX c l b e f i d a).fst
def CG(b:Bool->Bool->Bool)(l:LA)(a:Nat)(e f i d:Int)(c:LA):=decide (oG b a<(kE b l a e f i d c).length)
def KW(c:Bool->Bool->Bool)(l:LA)(b:Nat)(e f i d:Int)(a:LA):=decide (kQ c l b e f i d a<l.length)
def vL{T:Type}(c:Bool->Bool->Bool)(l:LA)(a:Nat)(e f i d:Int)(b:LA)(δ:T)(κl:(Nat×Int×Int×Int×Int×LA)->T)(κr:(Nat×LA)->T):T:=br (decide (d<1099511627776)) (br ((aB (tD l a d) (e,f,i,b)).isSome) (br (KW c l a e f i d b) (br (decide (0<=kQ c l a e f i d b)&&KW c l a e f i d b) (br (decide ((kQ c l a e f i d b).toNat<l.length)&&dw (Sh.int .i64) ((l.getD (kQ c l a e f i d b).toNat .top).cells.getD 0 .top)) (br (KV c l a e f i d b) (br (decide ((↑a:Int)>0)) (br (Cv c a) (br (CG c l a e f i d b&&dw (Sh.int .i64) (((kE c l a e f i d b).getD (oG c a) .top).cells.getD 1 .top)) (br ((((kE c l a e f i d b).getD (oG c a) .top).cells.getD 1 .top).toInt==d) (br (Cv c a) (br (CG c l a e f i d b) (κl (a,rh c l a e f i d b,rg c l a e f i d b,kQ c l a e f i d b,((l.getD (kQ c l a e f i d b).toNat .top).cells.getD 0 .top).toInt,(kE c l a e f i d b).set (oG c a) (AV.agg (List.take 1 ((kE c l a e f i d b).getD (oG c a) .top).cells++[AV.int .i64 ((l.getD (kQ c l a e f i d b).toNat .top).cells.getD 0 .top).toInt]++List.drop 2 ((kE c l a e f i d b).getD (oG c a) .top).cells)))) δ) δ) (br (a==(kE c l a e f i d b).length&&(decide ((a+1)*16<=140737488355328)&&decide (a+1<=4611686018427387904))) (κl (a+1,rh c l a e f i d b,rg c l a e f i d b,kQ c l a e f i d b,((l.getD (kQ c l a e f i d b).toNat .top).cells.getD 0 .top).toInt,kE c l a e f i d b++[AV.agg [AV.int .i64 d,AV.int .i64 ((l.getD (kQ c l a e f i d b).toNat .top).cells.getD 0 .top).toInt]])) δ)) δ) δ) (br (a==(kE c l a e f i d b).length&&(decide ((a+1)*16<=140737488355328)&&decide (a+1<=4611686018427387904))) (κl (a+1,rh c l a e f i d b,rg c l a e f i d b,kQ c l a e f i d b,((l.getD (kQ c l a e f i d b).toNat .top).cells.getD 0 .top).toInt,kE c l a e f i d b++[AV.agg [AV.int .i64 d,AV.int .i64 ((l.getD (kQ c l a e f i d b).toNat .top).cells.getD 0 .top).toInt]])) δ)) (κl (a,rh c l a e f i d b,rg c l a e f i d b,kQ c l a e f i d b,((l.getD (kQ c l a e f i d b).toNat .top).cells.getD 0 .top).toInt,kE c l a e f i d b))) δ) δ) (br (KV c l a e f i d b) (br (decide ((↑a:Int)>0)) (br (Cv c a) (br (CG c l a e f i d b&&dw (Sh.int .i64) (((kE c l a e f i d b).getD (oG c a) .top).cells.getD 1 .top)) (br ((((kE c l a e f i d b).getD (oG c a) .top).cells.getD 1 .top).toInt==d) (br (Cv c a) (br (CG c l a e f i d b) (κl (a,rh c l a e f i d b,rg c l a e f i d b,kQ c l a e f i d b,1099511627776,(kE c l a e f i d b).set (oG c a) (AV.agg (List.take 1 ((kE c l a e f i d b).getD (oG c a) .top).cells++[AV.int .i64 1099511627776]++List.drop 2 ((kE c l a e f i d b).getD (oG c a) .top).cells)))) δ) δ) (br (a==(kE c l a e f i d b).length&&(decide ((a+1)*16<=140737488355328)&&decide (a+1<=4611686018427387904))) (κl (a+1,rh c l a e f i d b,rg c l a e f i d b,kQ c l a e f i d b,1099511627776,kE c l a e f i d b++[AV.agg [AV.int .i64 d,AV.int .i64 1099511627776]])) δ)) δ) δ) (br (a==(kE c l a e f i d b).length&&(decide ((a+1)*16<=140737488355328)&&decide (a+1<=4611686018427387904))) (κl (a+1,rh c l a e f i d b,rg c l a e f i d b,kQ c l a e f i d b,1099511627776,kE c l a e f i d b++[AV.agg [AV.int .i64 d,AV.int .i64 1099511627776]])) δ)) (κl (a,rh c l a e f i d b,rg c l a e f i d b,kQ c l a e f i d b,1099511627776,kE c l a e f i d b)))) δ) (κr (a,b))
def rX(c:Bool->Bool->Bool)(l:LA):cS (Nat×Int×Int×Int×Int×LA) (Nat×LA):=λ(b,e,f,i,d,a)=>vL c l b e f i d a none inL inR
def LS(c:Bool->Bool->Bool)(a b:LA):=aB (rX c ((Kx a b).getD [])) (0,0,0,0,0,[])
def LQ(c:Bool->Bool->Bool)(a b:LA):=(LS c a b).getD (0,[])
def LN(c:Bool->Bool->Bool)(a b:LA):=(LQ c a b).snd
def LP(c:Bool->Bool->Bool)(a b:LA):=(LQ c a b).fst
def GW{T:Type}(c:Bool->Bool->Bool)(a b:LA)(δ:T)(κ:LA->T):T:=br ((Kx a b).isSome) (br ((LS c a b).isSome) (br (decide (0+LP c a b<=(LN c a b).length)&&true) (κ (List.take (LP c a b) (List.drop 0 (LN c a b)))) δ) δ) δ
def yW(c:Bool->Bool->Bool)(a b:LA):=GW c a b none some
end Go.Sim.M
namespace Go.Sim.M
open Go.RowKit Go.Proofs
open Go.IntKind (i64 u64 u8)
def tK(a b:Bool):Bool:=((a))
def xDV{T:Type}(a b:Bool)(δ:T)(κ:Bool->T):T:=κ (a)
def xLv:EO:=xLr.fT Tryz.func93 6 0 [] [] lk0 (λ(a,b,_)=>xDV a b none) (u2 (sEq kX) (sEq kX)) (λ(a,b,_)=>tK a b) (λ _ p=>(AV.bool p))
def tq(a b:Bool):Bool:=(br (a) ((!b)) ((false)))
def xv9{T:Type}(a b:Bool)(δ:T)(κ:Bool->T):T:=br (a) (κ (!b)) (κ (false))
def Gx:EO:=xLv.fT Tryz.func98 10 0 [] [] lk0 (λ(a,b,_)=>xv9 a b none) (u2 (sEq kX) (sEq kX)) (λ(a,b,_)=>tq a b) (λ _ p=>(AV.bool p))
def Bz:cZ:=Gx.E.fn 92 0 (dQ []) (iS [])
def xvK:di P0 (xQa.at 0) Bz:=Gx.ok.fn
def xth:cV P0 (xQa.at Bz.pin) Bz (gE Tryz.f92 1):=oI Θ
def ZJ{T:Type}(l:LA)(b:Nat)(c d e i:Int)(a:LA)(δ:T)(κl:(Int×Int×Int×LA)->T)(κr:(Int×Int×Int×LA)->T):T:=CH l b c d e i a δ κl κr
def HP(l:LA)(a:Nat)(b:Int):(Int×Int×Int×LA)->Option ((Int×Int×Int×LA)⊕(Int×Int×Int×LA)):=tD l a b
def uN(l:LA)(b:Nat)(c:Int):(Int×Int×Int×LA)->LA×List aC:=λ(d,e,i,a)=>([AV.func 93 [],AV.list 3 l,AV.osl 0 0 0 b,AV.int .i64 d,AV.int .i64 e,AV.int .i64 i,AV.int .i64 c],[⟨0,2,52,a,false,true⟩])
def AT(l:LA)(a:Nat)(b:Int):(Int×Int×Int×LA)->LR:=λ p=>(.leaf (.exit 2) [AV.func 93 [],AV.list 3 l,AV.osl 0 0 0 a,AV.int .i64 p.1,AV.int .i64 p.2.1,AV.int .i64 p.2.2.1,AV.int .i64 b] [⟨0,2,52,p.2.2.2,false,true⟩])
abbrev ZI(a:LA)(H:List aC):=XR P0 Bz [2,7,8,9,10,11,12] [2,7,8,9,10,11,12] [(8,2,52)] (gE Tryz.f92 1) a H
def xwb(l:LA)(a:Nat)(b:Int)(s:Int×Int×Int×LA):cU (encR (uN l a b) (AT l a b)) (HP l a b s) (ZI (uN l a b s).1 (uN l a b s).2):=by(obtain⟨d,e,i,c⟩:=s;have h:ZI (uN l a b (d,e,i,c)).1 (uN l a b (d,e,i,c)).2=ZJ l a b d e i c none (λ s=>some (encR (uN l a b) (AT l a b) (.inl s))) (λ p=>some (encR (uN l a b) (AT l a b) (.inr p))):=by kernel_rfl);rw[h];unfold HP ZJ;repeat' (first|refine cU.br ?_ ?_|exact cU.none|exact cU.some rfl)
def O8:Lp:=mG [2,7,8,9,10,11,12] [2,7,8,9,10,11,12] [(8,2,52)] (aZ (ez 93 bO) (aZ (qM 3 bB) (aZ (cC 0 0 0) (aZ (pInt .i64) (aZ (pInt .i64) (aZ (pInt .i64) (aZ (pInt .i64) bO))))))) (aZ (fu 0 2 52 false true bB) bO) λ(_,(l,(a,(d,(e,(i,(c,_))))))) (b,_)=>((aB (HP l a c) (d,e,i,b)).isSome,AT l a c ((aB (HP l a c) (d,e,i,b)).getD (0,0,0,[])))
def Zh:dp P0 (xQa.at Bz.pin) Bz.nt (gE Tryz.f92 1) (O8):=CW λ e f k g=>by obtain⟨_,⟨l,⟨a,⟨h,⟨j,⟨i,⟨b,_⟩⟩⟩⟩⟩⟩⟩:=e;obtain⟨c,_⟩:=f;obtain⟨d,rfl⟩:=Prod.mk.inj g;exact Ct xPD (xPE P0 _) rfl xvK xth (uN l a b) (AT l a b) (λ p=>by simp only[AT,LR.eval];first|(simp;done)|(repeat' split<;>simp)) (xwb l a b) (s:=(h,j,i,c)) (nP d)
def BA:cZ:=Gx.E.fn 92 0 (dQ []) (iS [(6,O8)])
def xvL:di P0 (xQa.at 0) BA:=Gx.ok.fn
def xti:cV P0 (xQa.at BA.pin) BA (gE Tryz.f92 0):=r7 (ls:=[gE Tryz.f92 1]) Θ (fe Zh kr)
def ZH{T:Type}(l:LA)(b:Nat)(d e i c:Int)(a:LA)(δ:T)(κl:(Nat×Int×Int×Int×Int×LA)->T)(κr:(Nat×LA)->T):T:=vL tK l b d e i c a δ κl κr
def HO(l:LA):(Nat×Int×Int×Int×Int×LA)->Option ((Nat×Int×Int×Int×Int×LA)⊕(Nat×LA)):=rX tK l
def uM(l:LA):(Nat×Int×Int×Int×Int×LA)->LA×List aC:=λ(b,d,e,i,c,a)=>([AV.func 93 [],AV.list 3 l,AV.osl 0 0 0 b,AV.int .i64 d,AV.int .i64 e,AV.int .i64 i,AV.int .i64 c],[⟨0,2,52,a,false,true⟩])
def AS(l:LA):(Nat×LA)->LR:=λ p=>(.leaf (.exit 0) [AV.osl 0 0 0 p.1] [⟨0,2,52,p.2,false,true⟩])
abbrev ZG(a:LA)(H:List aC):=XR P0 BA [2,7,8,9,10,11,12] [8] [(8,2,52)] (gE Tryz.f92 0) a H
def xwa(l:LA)(s:Nat×Int×Int×Int×Int×LA):cU (encR (uM l) (AS l)) (HO l s) (ZG (uM l s).1 (uM l s).2):=by(obtain⟨b,d,e,i,c,a⟩:=s;have h:ZG (uM l (b,d,e,i,c,a)).1 (uM l (b,d,e,i,c,a)).2=ZH l b d e i c a none (λ s=>some (encR (uM l) (AS l) (.inl s))) (λ p=>some (encR (uM l) (AS l) (.inr p))):=by kernel_rfl);rw[h];unfold HO ZH;repeat' (first|refine cU.br ?_ ?_|exact cU.none|exact cU.some rfl)
def Zq:Lp:=mG [2,7,8,9,10,11,12] [8] [(8,2,52)] (aZ (ez 93 bO) (aZ (qM 3 bB) (aZ (cC 0 0 0) (aZ (pInt .i64) (aZ (pInt .i64) (aZ (pInt .i64) (aZ (pInt .i64) bO))))))) (aZ (fu 0 2 52 false true bB) bO) λ(_,(l,(b,(d,(e,(i,(c,_))))))) (a,_)=>((aB (HO l) (b,d,e,i,c,a)).isSome,AS l ((aB (HO l) (b,d,e,i,c,a)).getD (0,[])))
def xuW:dp P0 (xQa.at BA.pin) BA.nt (gE Tryz.f92 0) (Zq):=CW λ e f k g=>by obtain⟨_,⟨l,⟨b,⟨h,⟨j,⟨i,⟨c,_⟩⟩⟩⟩⟩⟩⟩:=e;obtain⟨a,_⟩:=f;obtain⟨d,rfl⟩:=Prod.mk.inj g;exact Ct xPD (xPE P0 _) rfl xvL xti (uM l) (AS l) (λ p=>by simp only[AS,LR.eval];first|(simp;done)|(repeat' split<;>simp)) (xwa l) (s:=(b,h,j,i,c,a)) (nP d)
def xAh{T:Type}(a b:LA)(δ:T)(κ:LA->T):T:=GW tK a b δ κ
def Ru(a b:LA):Option (LA):=yW tK a b
def xLw:EO:=Gx.f Tryz.func92 92 0 [] [(6,O8),(5,Zq)] (l7 (fe xuW (fe Zh kr))) (u3 (uL 2) (uL 2) (sEq (ez (93:FuncId) bO))) (λ(a,b,_,_) _=>xAh a b) (λ _ p=>AV.list 2 p) []
def Sq{T:Type}(l:LA)(δ:T)(κ:LA->T):T:=br ((Ru l []).isSome) (κ ((Ru l []).getD [])) δ
def r9(l:LA):=Sq l none some
def Gy:EO:=xLw.f Tryz.func61 5 0 [] [] lk0 (u1 (uL 2)) (λ(l,_) _=>Sq l) (λ _ p=>AV.list 2 p) []
def BB:cZ:=Gy.E.fn 92 0 (dQ []) (iS [])
def xvM:di P0 (xQa.at 0) BB:=Gy.ok.fn
def xtj:cV P0 (xQa.at BB.pin) BB (gE Tryz.f92 1):=oI Θ
def ZN{T:Type}(l:LA)(b:Nat)(c d e i:Int)(a:LA)(δ:T)(κl:(Int×Int×Int×LA)->T)(κr:(Int×Int×Int×LA)->T):T:=CH l b c d e i a δ κl κr
def HS(l:LA)(a:Nat)(b:Int):(Int×Int×Int×LA)->Option ((Int×Int×Int×LA)⊕(Int×Int×Int×LA)):=tD l a b
def uP(l:LA)(b:Nat)(c:Int):(Int×Int×Int×LA)->LA×List aC:=λ(d,e,i,a)=>([AV.func 98 [],AV.list 3 l,AV.osl 0 0 0 b,AV.int .i64 d,AV.int .i64 e,AV.int .i64 i,AV.int .i64 c],[⟨0,2,52,a,false,true⟩])
def AW(l:LA)(a:Nat)(b:Int):(Int×Int×Int×LA)->LR:=λ p=>(.leaf (.exit 2) [AV.func 98 [],AV.list 3 l,AV.osl 0 0 0 a,AV.int .i64 p.1,AV.int .i64 p.2.1,AV.int .i64 p.2.2.1,AV.int .i64 b] [⟨0,2,52,p.2.2.2,false,true⟩])
abbrev ZM(a:LA)(H:List aC):=XR P0 BB [2,7,8,9,10,11,12] [2,7,8,9,10,11,12] [(8,2,52)] (gE Tryz.f92 1) a H
def xwd(l:LA)(a:Nat)(b:Int)(s:Int×Int×Int×LA):cU (encR (uP l a b) (AW l a b)) (HS l a b s) (ZM (uP l a b s).1 (uP l a b s).2):=by(obtain⟨d,e,i,c⟩:=s;have h:ZM (uP l a b (d,e,i,c)).1 (uP l a b (d,e,i,c)).2=ZN l a b d e i c none (λ s=>some (encR (uP l a b) (AW l a b) (.inl s))) (λ p=>some (encR (uP l a b) (AW l a b) (.inr p))):=by kernel_rfl);rw[h];unfold HS ZN;repeat' (first|refine cU.br ?_ ?_|exact cU.none|exact cU.some rfl)
def O9:Lp:=mG [2,7,8,9,10,11,12] [2,7,8,9,10,11,12] [(8,2,52)] (aZ (ez 98 bO) (aZ (qM 3 bB) (aZ (cC 0 0 0) (aZ (pInt .i64) (aZ (pInt .i64) (aZ (pInt .i64) (aZ (pInt .i64) bO))))))) (aZ (fu 0 2 52 false true bB) bO) λ(_,(l,(a,(d,(e,(i,(c,_))))))) (b,_)=>((aB (HS l a c) (d,e,i,b)).isSome,AW l a c ((aB (HS l a c) (d,e,i,b)).getD (0,0,0,[])))
def Zi:dp P0 (xQa.at BB.pin) BB.nt (gE Tryz.f92 1) (O9):=CW λ e f k g=>by obtain⟨_,⟨l,⟨a,⟨h,⟨j,⟨i,⟨b,_⟩⟩⟩⟩⟩⟩⟩:=e;obtain⟨c,_⟩:=f;obtain⟨d,rfl⟩:=Prod.mk.inj g;exact Ct xPD (xPE P0 _) rfl xvM xtj (uP l a b) (AW l a b) (λ p=>by simp only[AW,LR.eval];first|(simp;done)|(repeat' split<;>simp)) (xwd l a b) (s:=(h,j,i,c)) (nP d)
def BC:cZ:=Gy.E.fn 92 0 (dQ []) (iS [(6,O9)])
def xvN:di P0 (xQa.at 0) BC:=Gy.ok.fn
def xtk:cV P0 (xQa.at BC.pin) BC (gE Tryz.f92 0):=r7 (ls:=[gE Tryz.f92 1]) Θ (fe Zi kr)
def ZL{T:Type}(l:LA)(b:Nat)(d e i c:Int)(a:LA)(δ:T)(κl:(Nat×Int×Int×Int×Int×LA)->T)(κr:(Nat×LA)->T):T:=vL tq l b d e i c a δ κl κr
def HQ(l:LA):(Nat×Int×Int×Int×Int×LA)->Option ((Nat×Int×Int×Int×Int×LA)⊕(Nat×LA)):=rX tq l
def uO(l:LA):(Nat×Int×Int×Int×Int×LA)->LA×List aC:=λ(b,d,e,i,c,a)=>([AV.func 98 [],AV.list 3 l,AV.osl 0 0 0 b,AV.int .i64 d,AV.int .i64 e,AV.int .i64 i,AV.int .i64 c],[⟨0,2,52,a,false,true⟩])
def AU(l:LA):(Nat×LA)->LR:=λ p=>(.leaf (.exit 0) [AV.osl 0 0 0 p.1] [⟨0,2,52,p.2,false,true⟩])
abbrev ZK(a:LA)(H:List aC):=XR P0 BC [2,7,8,9,10,11,12] [8] [(8,2,52)] (gE Tryz.f92 0) a H
def xwc(l:LA)(s:Nat×Int×Int×Int×Int×LA):cU (encR (uO l) (AU l)) (HQ l s) (ZK (uO l s).1 (uO l s).2):=by(obtain⟨b,d,e,i,c,a⟩:=s;have h:ZK (uO l (b,d,e,i,c,a)).1 (uO l (b,d,e,i,c,a)).2=ZL l b d e i c a none (λ s=>some (encR (uO l) (AU l) (.inl s))) (λ p=>some (encR (uO l) (AU l) (.inr p))):=by kernel_rfl);rw[h];unfold HQ ZL;repeat' (first|refine cU.br ?_ ?_|exact cU.none|exact cU.some rfl)
def Zr:Lp:=mG [2,7,8,9,10,11,12] [8] [(8,2,52)] (aZ (ez 98 bO) (aZ (qM 3 bB) (aZ (cC 0 0 0) (aZ (pInt .i64) (aZ (pInt .i64) (aZ (pInt .i64) (aZ (pInt .i64) bO))))))) (aZ (fu 0 2 52 false true bB) bO) λ(_,(l,(b,(d,(e,(i,(c,_))))))) (a,_)=>((aB (HQ l) (b,d,e,i,c,a)).isSome,AU l ((aB (HQ l) (b,d,e,i,c,a)).getD (0,[])))
def xuX:dp P0 (xQa.at BC.pin) BC.nt (gE Tryz.f92 0) (Zr):=CW λ e f k g=>by obtain⟨_,⟨l,⟨b,⟨h,⟨j,⟨i,⟨c,_⟩⟩⟩⟩⟩⟩⟩:=e;obtain⟨a,_⟩:=f;obtain⟨d,rfl⟩:=Prod.mk.inj g;exact Ct xPD (xPE P0 _) rfl xvN xtk (uO l) (AU l) (λ p=>by simp only[AU,LR.eval];first|(simp;done)|(repeat' split<;>simp)) (xwc l) (s:=(b,h,j,i,c,a)) (nP d)
def xAi{T:Type}(a b:LA)(δ:T)(κ:LA->T):T:=GW tq a b δ κ
def Rv(a b:LA):Option (LA):=yW tq a b
def xLy:EO:=Gy.f Tryz.func92 92 0 [] [(6,O9),(5,Zr)] (l7 (fe xuX (fe Zi kr))) (u3 (uL 2) (uL 2) (sEq (ez (98:FuncId) bO))) (λ(a,b,_,_) _=>xAi a b) (λ _ p=>AV.list 2 p) []
def Qu{T:Type}(a b:LA)(δ:T)(κ:LA->T):T:=br ((Rv a b).isSome) (κ ((Rv a b).getD [])) δ
def yn(a b:LA):=Qu a b none some
def Ny:EO:=xLy.f Tryz.func63 8 0 [] [] lk0 (u2 (uL 2) (uL 2)) (λ(a,b,_) _=>Qu a b) (λ _ p=>AV.list 2 p) []
def HC{T:Type}(h:LA)(i j:Int)(e:LA)(f:Int)(d:Nat)(c:Int)(a b g:LA)(δ:T)(κl:(Nat×Int×LA×LA×LA)->T)(κr:(Nat×LA)->T):T:=br (decide (c<f)) (br (bU e c) (br (jh e c 2 [Sh.int .i64,Sh.int .i64] 0) (br (decide (b.length*32<=140737488355328)&&decide (b.length<=4611686018427387904)) (br (decide (0+b.length<=b.length)&&true&&true&&true&&true) (br (gz d a 1 40) (κl (d+1,i64.wrap (c+1),a++[AV.agg [AV.list 3 (List.take b.length (List.drop 0 b)),AV.int .i64 (gC e c 0).toInt,AV.int .i64 (gC e c 1).toInt]],b,g)) δ) δ) δ) δ) δ) (κr (d,a))
def Az(c:LA)(d e:Int)(f:LA)(g:Int):cS (Nat×Int×LA×LA×LA) (Nat×LA):=λ(b,h,a,i,j)=>HC c d e f g b h a i j none inL inR
def HH:=Ny.l 38 0 [54] [] Tryz.f89 1 lk0 [1,5,7,11,12,13,20,21,22] [1,5,11,12,13] [(5,3,54)] (q9 (ez 115 bO) (cC 0 0 0) (dL 1 0 0 0) (qL 2) qI qI (qL 2) qI qI) (q2 (qB 0 3 54 bB) (qB 0 2 148 (q1 (iE (q2 (qL 3) (qL 2)))))) (λ(_,b,_,c,d,e,f,g,h,_) (a,((i,j,_),_),_)=>(Az c d e f g,(b,h,a,i,j),λ p=>(.leaf (.exit 2) [AV.func 115 [],AV.osl 0 0 0 p.1,AV.list 2 c,AV.int .i64 d,AV.int .i64 e] [bF 0 3 54 p.2]))) (0,[]) λ(_,_,_,c,d,e,f,g,_,_) _ (b,h,a,i,j)=>((((),b,(),c,d,e,f,g,h,()),(a,((i,j,()),()),())),HC c d e f g b h a i j none)
def HG(a:LA)(e:Int)(d:Nat)(b:Int)(c:LA):=aB (Az a e b ((yl (gC a b 1).toList).getD []) (↑((yl (gC a b 1).toList).getD []).length:Int)) (d,0,c,(gC a b 0).toList,(gC a b 1).toList)
def HB{T:Type}(d:LA)(e:Int)(c:Nat)(b:Int)(a:LA)(δ:T)(κl:(Nat×Int×LA)->T)(κr:(Nat×LA)->T):T:=br (decide (b<e)) (br (bU d b) (br (jh d b 2 [Sh.list 3,Sh.list 2] 0) (br ((yl (gC d b 1).toList).isSome) (br ((HG d e c b a).isSome) (κl (((HG d e c b a).getD (0,[])).fst,i64.wrap (b+1),((HG d e c b a).getD (0,[])).snd)) δ) δ) δ) δ) (κr (c,a))
def DS(c:LA)(d:Int):cS (Nat×Int×LA) (Nat×LA):=λ(b,e,a)=>HB c d b e a none inL inR
def YV:=Ny.l 38 0 [54] [(6,HH.lp)] Tryz.f89 0 (fc HH.ok) [1,5,11,12,13] [5] [(5,3,54)] (q5 (ez 115 bO) (cC 0 0 0) (qL 2) qI qI) (q1 (qB 0 3 54 bB)) (λ(_,b,c,d,e,_) (a,_)=>(DS c d,(b,e,a),λ p=>(.leaf (.exit 0) [AV.osl 0 0 0 p.1] [bF 0 3 54 p.2]))) (0,[]) λ(_,_,c,d,_,_) _ (b,e,a)=>((((),b,c,d,e,()),(a,())),HB c d b e a none)
def OE(l:LA):=aB (DS ((uW l).getD []) (↑((uW l).getD []).length:Int)) (0,0,[])
def D9(l:LA):=(OE l).getD (0,[])
def ON{T:Type}(l:LA)(δ:T)(κ:LA->T):T:=br ((uW l).isSome) (br ((OE l).isSome) (br (decide (0+((D9 l).fst)<=((D9 l).snd).length)&&true) (κ (List.take ((D9 l).fst) (List.drop 0 ((D9 l).snd)))) δ) δ) δ
def Pp(l:LA):=ON l none some
def xLs:EO:=Ny.f Tryz.func89 38 0 [54] [(6,HH.lp),(3,YV.lp)] (l7 (fe YV.ok (fe HH.ok kr))) (u2 (uL 3) (sEq (ez (115:FuncId) bO))) (λ(l,_,_) _=>ON l) (λ _ p=>AV.list 3 p) []
def P4{T:Type}(l:LA)(δ:T)(κ:LA->T):T:=br ((Pp l).isSome) (κ ((Pp l).getD [])) δ
def pd(l:LA):=P4 l none some
def Nx:EO:=xLs.f Tryz.func78 5 0 [] [] lk0 (u1 (uL 3)) (λ(l,_) _=>P4 l) (λ _ p=>AV.list 3 p) []
def Y4{T:Type}(h:LA)(i j:Int)(e:LA)(f:Int)(d:Nat)(c:Int)(a b g:LA)(δ:T)(κl:(Nat×Int×LA×LA×LA)->T)(κr:(Nat×LA)->T):T:=br (decide (c<f)) (br (bU e c) (br (jh e c 2 [Sh.int .i64,Sh.int .i64] 0) (br (decide (b.length*32<=140737488355328)&&decide (b.length<=4611686018427387904)) (br (decide (0+b.length<=b.length)&&true&&true&&true&&true) (br (gz d a 1 40) (κl (d+1,i64.wrap (c+1),a++[AV.agg [AV.list 3 (List.take b.length (List.drop 0 b)),AV.int .i64 (gC e c 0).toInt,AV.int .i64 (gC e c 1).toInt]],b,g)) δ) δ) δ) δ) δ) (κr (d,a))
def Ox(c:LA)(d e:Int)(f:LA)(g:Int):cS (Nat×Int×LA×LA×LA) (Nat×LA):=λ(b,h,a,i,j)=>Y4 c d e f g b h a i j none inL inR
def HJ:=Nx.l 38 0 [54] [] Tryz.f89 1 lk0 [1,5,7,11,12,13,20,21,22] [1,5,11,12,13] [(5,3,54)] (q9 (ez 61 bO) (cC 0 0 0) (dL 1 0 0 0) (qL 2) qI qI (qL 2) qI qI) (q2 (qB 0 3 54 bB) (qB 0 2 148 (q1 (iE (q2 (qL 3) (qL 2)))))) (λ(_,b,_,c,d,e,f,g,h,_) (a,((i,j,_),_),_)=>(Ox c d e f g,(b,h,a,i,j),λ p=>(.leaf (.exit 2) [AV.func 61 [],AV.osl 0 0 0 p.1,AV.list 2 c,AV.int .i64 d,AV.int .i64 e] [bF 0 3 54 p.2]))) (0,[]) λ(_,_,_,c,d,e,f,g,_,_) _ (b,h,a,i,j)=>((((),b,(),c,d,e,f,g,h,()),(a,((i,j,()),()),())),Y4 c d e f g b h a i j none)
def HI(a:LA)(e:Int)(d:Nat)(b:Int)(c:LA):=aB (Ox a e b ((r9 (gC a b 1).toList).getD []) (↑((r9 (gC a b 1).toList).getD []).length:Int)) (d,0,c,(gC a b 0).toList,(gC a b 1).toList)
def HD{T:Type}(d:LA)(e:Int)(c:Nat)(b:Int)(a:LA)(δ:T)(κl:(Nat×Int×LA)->T)(κr:(Nat×LA)->T):T:=br (decide (b<e)) (br (bU d b) (br (jh d b 2 [Sh.list 3,Sh.list 2] 0) (br ((r9 (gC d b 1).toList).isSome) (br ((HI d e c b a).isSome) (κl (((HI d e c b a).getD (0,[])).fst,i64.wrap (b+1),((HI d e c b a).getD (0,[])).snd)) δ) δ) δ) δ) (κr (c,a))
def DT(c:LA)(d:Int):cS (Nat×Int×LA) (Nat×LA):=λ(b,e,a)=>HD c d b e a none inL inR
def YW:=Nx.l 38 0 [54] [(6,HJ.lp)] Tryz.f89 0 (fc HJ.ok) [1,5,11,12,13] [5] [(5,3,54)] (q5 (ez 61 bO) (cC 0 0 0) (qL 2) qI qI) (q1 (qB 0 3 54 bB)) (λ(_,b,c,d,e,_) (a,_)=>(DT c d,(b,e,a),λ p=>(.leaf (.exit 0) [AV.osl 0 0 0 p.1] [bF 0 3 54 p.2]))) (0,[]) λ(_,_,c,d,_,_) _ (b,e,a)=>((((),b,c,d,e,()),(a,())),HD c d b e a none)
def OF(l:LA):=aB (DT ((uW l).getD []) (↑((uW l).getD []).length:Int)) (0,0,[])
def Ec(l:LA):=(OF l).getD (0,[])
def OO{T:Type}(l:LA)(δ:T)(κ:LA->T):T:=br ((uW l).isSome) (br ((OF l).isSome) (br (decide (0+((Ec l).fst)<=((Ec l).snd).length)&&true) (κ (List.take ((Ec l).fst) (List.drop 0 ((Ec l).snd)))) δ) δ) δ
def Pq(l:LA):=OO l none some
def xLt:EO:=Nx.f Tryz.func89 38 0 [54] [(6,HJ.lp),(3,YW.lp)] (l7 (fe YW.ok (fe HJ.ok kr))) (u2 (uL 3) (sEq (ez (61:FuncId) bO))) (λ(l,_,_) _=>OO l) (λ _ p=>AV.list 3 p) []
def P5{T:Type}(l:LA)(δ:T)(κ:LA->T):T:=br ((Pq l).isSome) (κ ((Pq l).getD [])) δ
def Cf(l:LA):=P5 l none some
def xLu:EO:=xLt.f Tryz.func55 5 0 [] [] lk0 (u1 (uL 3)) (λ(l,_) _=>P5 l) (λ _ p=>AV.list 3 p) []
def F0(a b:Int):Int:=((a))
def xDc{T:Type}(a b:Int)(δ:T)(κ:Int->T):T:=κ (a)
def WW:EO:=xLu.fT Tryz.func118 5 0 [] [] lk0 (λ((a,b,_),_)=>xDc a b none) (u1 (fP (u2 uI uI))) (λ((a,b,_),_)=>F0 a b) (λ _ p=>(AV.int .i64 p))
def ZP(b:Nat)(a:LA):=decide (0+(i64.wrap ((↑b:Int) - 1)).toNat<a.length)&&dw (Sh.int .i64) ((a.getD (0+(i64.wrap ((↑b:Int) - 1)).toNat) .top).cells.getD 0 .top)
def ZQ(a:Nat):=decide (0<=i64.wrap ((↑a:Int) - 1))&&decide (i64.wrap ((↑a:Int) - 1)<(↑a:Int))
def IH(b:LA)(k:Int):=decide (k.toNat<b.length)&&((b.getD k.toNat .top).cells.length==2&&ew [Sh.int .i64,Sh.int .i64] (b.getD k.toNat .top).cells 0)
def II(a:LA)(i:Int):=decide (i.toNat<a.length)&&((a.getD i.toNat .top).cells.length==2&&ew [Sh.int .i64,Sh.int .i64] (a.getD i.toNat .top).cells 0)
def IJ(b:LA)(k:Int):=bU b k
def IK(a:LA)(i:Int):=bU a i
def ZR(a:Nat):=(↑a:Int)==0
def Ei(b:LA)(k:Int):=F0 (gC b k 0).toInt (gC b k 1).toInt
def Ej(a:LA)(i:Int):=F0 (gC a i 0).toInt (gC a i 1).toInt
def PD(a:LA)(c:Nat)(i:Int)(b:LA):=((b.getD (0+(i64.wrap ((↑c:Int) - 1)).toNat) .top).cells.getD 0 .top).toInt !=Ej a i
def PF(b:LA)(c:Nat)(k:Int)(a:LA):=((a.getD (0+(i64.wrap ((↑c:Int) - 1)).toNat) .top).cells.getD 0 .top).toInt !=Ei b k
def EE(a b:LA)(i k:Int):=decide (Ej a i<=Ei b k)
def Eg{T:Type}(a:LA)(c:Nat)(i k:Int)(b:LA)(δ:T)(κl:(Nat×Int×Int×LA)->T):T:=br (gz c b 1 8) (κl (c+1,i64.wrap (i+1),k,b++[AV.int .i64 (Ej a i)])) δ
def Ee{T:Type}(a:LA)(b:Nat)(i k:Int)(c:LA)(δ:T)(κl:(Nat×Int×Int×LA)->T):T:=br (IK a i) (br (II a i) (br (ZR b) (Eg a b i k c δ κl) (br (ZQ b) (br (ZP b c) (br (PD a b i c) (Eg a b i k c δ κl) (κl (b,i64.wrap (i+1),k,c))) δ) δ)) δ) δ
def Eh{T:Type}(b:LA)(c:Nat)(i k:Int)(a:LA)(δ:T)(κl:(Nat×Int×Int×LA)->T):T:=br (gz c a 1 8) (κl (c+1,i,i64.wrap (k+1),a++[AV.int .i64 (Ei b k)])) δ
def Ef{T:Type}(b:LA)(a:Nat)(i k:Int)(c:LA)(δ:T)(κl:(Nat×Int×Int×LA)->T):T:=br (IJ b k) (br (IH b k) (br (ZR a) (Eh b a i k c δ κl) (br (ZQ a) (br (ZP a c) (br (PF b a k c) (Eh b a i k c δ κl) (κl (a,i,i64.wrap (k+1),c))) δ) δ)) δ) δ
def Ed{T:Type}(a b:LA)(d:Nat)(i k:Int)(c:LA)(δ:T)(κl:(Nat×Int×Int×LA)->T):T:=br (k==(↑b.length:Int)) (Ee a d i k c δ κl) (br (decide (i<a.length)) (br (IK a i) (br (II a i) (br (IJ b k) (br (IH b k) (br (EE a b i k) (Ee a d i k c δ κl) (Ef b d i k c δ κl)) δ) δ) δ) δ) (Ef b d i k c δ κl))
def Eu{T:Type}(a b:LA)(d:Nat)(i k:Int)(c:LA)(δ:T)(κl:(Nat×Int×Int×LA)->T)(κr:(Nat×LA)->T):T:=br (decide (i<a.length)) (Ed a b d i k c δ κl) (br (decide (k<b.length)) (Ed a b d i k c δ κl) (κr (d,c)))
def s6(a b:LA):cS (Nat×Int×Int×LA) (Nat×LA):=λ(d,i,k,c)=>Eu a b d i k c none inL inR
def ZO:=WW.l 83 0 [] [] Tryz.f117 0 lk0 [0,1,2,3,9,10,11] [9] [(9,1,3)] (q7 (qL 2) (qL 2) (ez 118 bO) (ez 118 bO) (cC 0 0 0) qI qI) (q1 (qB 0 1 3 bB)) (λ(a,b,_,_,d,i,k,_) (c,_)=>(s6 a b,(d,i,k,c),λ p=>(.leaf (.exit 0) [AV.osl 0 0 0 p.1] [bF 0 1 3 p.2]))) (0,[]) λ(a,b,_,_,_,_,_,_) _ (d,i,k,c)=>(((a,b,(),(),d,i,k,()),(c,())),Eu a b d i k c none)
def B4(a b:LA):=aB (s6 a b) (0,0,0,[])
def QC{T:Type}(a b:LA)(δ:T)(κ:LA->T):T:=br ((B4 a b).isSome) (br (decide (0+(((B4 a b).getD (0,[])).fst)<=(((B4 a b).getD (0,[])).snd).length)&&true) (κ (List.take (((B4 a b).getD (0,[])).fst) (List.drop 0 (((B4 a b).getD (0,[])).snd)))) δ) δ
def nU(a b:LA):=QC a b none some
def xLb:EO:=WW.f Tryz.func117 83 0 [] [(3,ZO.lp)] (fc ZO.ok) (u4 (uL 2) (uL 2) (sEq (ez (118:FuncId) bO)) (sEq (ez (118:FuncId) bO))) (λ(a,b,_,_,_) _=>QC a b) (λ _ p=>AV.list 1 p) []
def yr(a b t:Int):Int:=((pI a t))
def xBF{T:Type}(a b t:Int)(δ:T)(κ:Int->T):T:=κ (pI a t)
def WX:EO:=xLb.fT Tryz.func170 9 0 [] [] lk0 (λ((a,b,_),t,_)=>xBF a b t none) (u2 (fP (u2 uI uI)) uI) (λ((a,b,_),t,_)=>yr a b t) (λ _ p=>(AV.int .i64 p))
def uq(i j:Int):=i64.wrap ((u64.wrap (i64.wrap (i+j))).fdiv 2)
def Ap(x:LA)(i j:Int):=(x.getD (uq i j).toNat .top).cells
def Ab{T:Type}(x:LA)(a n i j:Int)(δ:T)(κl:(Int×Int)->T)(κr:(Int)->T):T:=br (decide (i<j)) (br (decide (0<=uq i j)&&decide (uq i j<x.length)) (br (decide ((uq i j).toNat<x.length)&&((Ap x i j).length==2&&ew [Sh.int .i64,Sh.int .i64] (Ap x i j) 0)) (br (decide (yr ((Ap x i j).getD 0 .top).toInt ((Ap x i j).getD 1 .top).toInt a<0)) (κl (i64.wrap (uq i j+1),j)) (κl (i,uq i j))) δ) δ) (κr (i))
def rD(x:LA)(a n:Int):cS (Int×Int) (Int):=λ(i,j)=>Ab x a n i j none inL inR
def YJ:=WX.l 49 0 [] [] Tryz.f169 0 lk0 [0,1,2,8,9,10] [0,1,2,8,9] [] (q6 (qL 2) qI (ez 170 bO) qI qI qI) bO (λ(x,a,_,n,i,j,_) _=>(rD x a n,(i,j),λ p=>(.leaf (.exit 0) [AV.list 2 x,AV.int .i64 a,AV.func 170 [],AV.int .i64 n,AV.int .i64 p] []))) 0 λ(x,a,_,n,_,_,_) _ (i,j)=>(((x,a,(),n,i,j,()),()),Ab x a n i j none)
def sS(l:LA)(t:Int):=(aB (rD l t (↑l.length:Int)) (0,(↑l.length:Int))).getD 0
def Aa(l:LA)(t:Int):=(l.getD (sS l t).toNat .top).cells
def Hz{T:Type}(l:LA)(t:Int)(δ:T)(κ:Int×Bool->T):T:=br ((aB (rD l t (↑l.length:Int)) (0,(↑l.length:Int))).isSome) (br (decide (sS l t<l.length)) (br (decide (0<=sS l t)&&decide (sS l t<l.length)) (br (decide ((sS l t).toNat<l.length)&&((Aa l t).length==2&&ew [Sh.int .i64,Sh.int .i64] (Aa l t) 0)) (κ (sS l t,yr ((Aa l t).getD 0 .top).toInt ((Aa l t).getD 1 .top).toInt t==0)) δ) δ) (κ (sS l t,false))) δ
def At(l:LA)(t:Int):=Hz l t none some
def xLc:EO:=WX.f Tryz.func169 49 0 [] [(3,YJ.lp)] (fc YJ.ok) (u3 (uL 2) uI (sEq (ez (170:FuncId) bO))) (λ(l,t,_,_) _=>Hz l t) (λ _ p=>AV.tuple [AV.int .i64 p.1,AV.bool p.2]) (0,false)
def Kj{T:Type}(l:LA)(t:Int)(δ:T)(κ:Int->T):T:=br ((At l t).isSome) (br (((At l t).getD (0,false)).snd) (κ (((At l t).getD (0,false)).fst)) (κ (i64.wrap (((At l t).getD (0,false)).fst - 1)))) δ
def rf(l:LA)(t:Int):=Kj l t none some
def xLd:EO:=xLc.f Tryz.func140 17 0 [] [] lk0 (u2 (uL 2) uI) (λ(l,t,_) _=>Kj l t) (λ _ p=>AV.int .i64 p) 0
def Ky{T:Type}(l:LA)(t:Int)(δ:T)(κ:Int->T):T:=br (decide (t<0)) (κ (0)) (br (decide (t>=1099511627776)) (κ (0)) (br ((rf l t).isSome) (br (decide ((rf l t).getD 0<0)) (κ (0)) (br (decide (0<=(rf l t).getD 0)&&decide ((rf l t).getD 0<(↑l.length:Int))) (br (decide (((rf l t).getD 0).toNat<l.length)&&dw (Sh.int .i64) ((l.getD ((rf l t).getD 0).toNat .top).cells.getD 1 .top)) (κ (((l.getD ((rf l t).getD 0).toNat .top).cells.getD 1 .top).toInt)) δ) δ)) δ))
def kR(l:LA)(t:Int):=Ky l t none some
def xLe:EO:=xLd.f Tryz.func119 22 0 [] [] lk0 (u2 (uL 2) uI) (λ(l,t,_) _=>Ky l t) (λ _ p=>AV.int .i64 p) 0
def FW(x y:Int):Int:=((i64.wrap (x+y)))
def xC9{T:Type}(x y:Int)(δ:T)(κ:Int->T):T:=κ (i64.wrap (x+y))
def xLf:EO:=xLe.fT Tryz.func80 8 0 [] [] lk0 (λ(x,y,_)=>xC9 x y none) (u2 uI uI) (λ(x,y,_)=>FW x y) (λ _ p=>(AV.int .i64 p))
def FZ(x y:Int):Int:=((i64.wrap (x - y)))
def xDb{T:Type}(x y:Int)(δ:T)(κ:Int->T):T:=κ (i64.wrap (x - y))
def xLg:EO:=xLf.fT Tryz.func82 8 0 [] [] lk0 (λ(x,y,_)=>xDb x y none) (u2 uI uI) (λ(x,y,_)=>FZ x y) (λ _ p=>(AV.int .i64 p))
def FY(x y:Int):Int:=((if y<x then y else x))
def xDa{T:Type}(x y:Int)(δ:T)(κ:Int->T):T:=κ (if y<x then y else x)
def xLh:EO:=xLg.fT Tryz.func88 8 0 [] [] lk0 (λ(x,y,_)=>xDa x y none) (u2 uI uI) (λ(x,y,_)=>FY x y) (λ _ p=>(AV.int .i64 p))
def FL(x a:Int):Int:=((if 0>x then 0 else x))
def xBE{T:Type}(x a:Int)(δ:T)(κ:Int->T):T:=κ (if 0>x then 0 else x)
def WY:EO:=xLh.fT Tryz.func81 7 0 [] [] lk0 (λ(x,a,_)=>xBE x a none) (u2 uI uI) (λ(x,a,_)=>FL x a) (λ _ p=>(AV.int .i64 p))
def OJ(a b c:LA)(f:Nat)(d:Int)(e:LA):=kI f (gC c d 0).toInt (FW ((kR a (gC c d 0).toInt).getD 0) ((kR b (gC c d 0).toInt).getD 0)) e
def xw(a b e:LA)(d:Nat)(f:Int)(c:LA):=(OJ a b e d f c).getD (false,(0,[]),0,[])
def HT{T:Type}(a b f:LA)(g:Int)(d:Nat)(e:Int)(c:LA)(δ:T)(κl:(Nat×Int×LA)->T)(κr:(Nat×LA)->T):T:=br (decide (e<g)) (br (bU f e) (br (dJ f e (Sh.int .i64) 0) (br ((kR a (gC f e 0).toInt).isSome) (br ((kR b (gC f e 0).toInt).isSome) (br ((OJ a b f d e c).isSome) (κl (br ((xw a b f d e c).fst) (((xw a b f d e c).snd).fst).fst (((xw a b f d e c).snd).snd).fst,i64.wrap (e+1),br ((xw a b f d e c).fst) (((xw a b f d e c).snd).fst).snd (((xw a b f d e c).snd).snd).snd)) δ) δ) δ) δ) δ) (κr (d,c))
def Av(a b e:LA)(f:Int):cS (Nat×Int×LA) (Nat×LA):=λ(d,g,c)=>HT a b e f d g c none inL inR
def Y9:=WY.l 38 0 [] [] Tryz.f79 0 lk0 [0,1,2,7,12,13,14] [2,7] [(7,2,132)] (q7 (qL 2) (qL 2) (ez 80 bO) (cC 0 0 0) (qL 1) qI qI) (q1 (qB 0 2 132 bB)) (λ(a,b,_,d,e,f,g,_) (c,_)=>(Av a b e f,(d,g,c),λ p=>(.leaf (.exit 0) [AV.func 80 [],AV.osl 0 0 0 p.1] [bF 0 2 132 p.2]))) (0,[]) λ(a,b,_,_,e,f,_,_) _ (d,g,c)=>(((a,b,(),d,e,f,g,()),(c,())),HT a b e f d g c none)
def Pc(a b:LA):=aB (Av a b ((nU a b).getD []) (↑((nU a b).getD []).length:Int)) (0,0,[])
def Bv(a b:LA):=(Pc a b).getD (0,[])
def Pz{T:Type}(a b:LA)(δ:T)(κ:LA->T):T:=br ((nU a b).isSome) (br ((Pc a b).isSome) (br ((↑((Bv a b).fst):Int)==0) (κ ([AV.agg [AV.int .i64 0,AV.int .i64 0]])) (br (decide (0+((Bv a b).fst)<=((Bv a b).snd).length)&&true) (κ (List.take ((Bv a b).fst) (List.drop 0 ((Bv a b).snd)))) δ)) δ) δ
def I8(a b:LA):=Pz a b none some
def WZ:EO:=WY.f Tryz.func79 38 0 [] [(3,Y9.lp)] (fc Y9.ok) (u3 (uL 2) (uL 2) (sEq (ez (80:FuncId) bO))) (λ(a,b,_,_) _=>Pz a b) (λ _ p=>AV.list 2 p) []
def OM(a b c:LA)(f:Nat)(d:Int)(e:LA):=kI f (gC c d 0).toInt (FZ ((kR a (gC c d 0).toInt).getD 0) ((kR b (gC c d 0).toInt).getD 0)) e
def xA(a b e:LA)(d:Nat)(f:Int)(c:LA):=(OM a b e d f c).getD (false,(0,[]),0,[])
def HW{T:Type}(a b f:LA)(g:Int)(d:Nat)(e:Int)(c:LA)(δ:T)(κl:(Nat×Int×LA)->T)(κr:(Nat×LA)->T):T:=br (decide (e<g)) (br (bU f e) (br (dJ f e (Sh.int .i64) 0) (br ((kR a (gC f e 0).toInt).isSome) (br ((kR b (gC f e 0).toInt).isSome) (br ((OM a b f d e c).isSome) (κl (br ((xA a b f d e c).fst) (((xA a b f d e c).snd).fst).fst (((xA a b f d e c).snd).snd).fst,i64.wrap (e+1),br ((xA a b f d e c).fst) (((xA a b f d e c).snd).fst).snd (((xA a b f d e c).snd).snd).snd)) δ) δ) δ) δ) δ) (κr (d,c))
def Ay(a b e:LA)(f:Int):cS (Nat×Int×LA) (Nat×LA):=λ(d,g,c)=>HW a b e f d g c none inL inR
def Zc:=WZ.l 38 0 [] [] Tryz.f79 0 lk0 [0,1,2,7,12,13,14] [2,7] [(7,2,132)] (q7 (qL 2) (qL 2) (ez 82 bO) (cC 0 0 0) (qL 1) qI qI) (q1 (qB 0 2 132 bB)) (λ(a,b,_,d,e,f,g,_) (c,_)=>(Ay a b e f,(d,g,c),λ p=>(.leaf (.exit 0) [AV.func 82 [],AV.osl 0 0 0 p.1] [bF 0 2 132 p.2]))) (0,[]) λ(a,b,_,_,e,f,_,_) _ (d,g,c)=>(((a,b,(),d,e,f,g,()),(c,())),HW a b e f d g c none)
def Pf(a b:LA):=aB (Ay a b ((nU a b).getD []) (↑((nU a b).getD []).length:Int)) (0,0,[])
def By(a b:LA):=(Pf a b).getD (0,[])
def PC{T:Type}(a b:LA)(δ:T)(κ:LA->T):T:=br ((nU a b).isSome) (br ((Pf a b).isSome) (br ((↑((By a b).fst):Int)==0) (κ ([AV.agg [AV.int .i64 0,AV.int .i64 0]])) (br (decide (0+((By a b).fst)<=((By a b).snd).length)&&true) (κ (List.take ((By a b).fst) (List.drop 0 ((By a b).snd)))) δ)) δ) δ
def Ja(a b:LA):=PC a b none some
def W0:EO:=WZ.f Tryz.func79 38 0 [] [(3,Zc.lp)] (fc Zc.ok) (u3 (uL 2) (uL 2) (sEq (ez (82:FuncId) bO))) (λ(a,b,_,_) _=>PC a b) (λ _ p=>AV.list 2 p) []
def OL(a b c:LA)(f:Nat)(d:Int)(e:LA):=kI f (gC c d 0).toInt (FY ((kR a (gC c d 0).toInt).getD 0) ((kR b (gC c d 0).toInt).getD 0)) e
def xz(a b e:LA)(d:Nat)(f:Int)(c:LA):=(OL a b e d f c).getD (false,(0,[]),0,[])
def HV{T:Type}(a b f:LA)(g:Int)(d:Nat)(e:Int)(c:LA)(δ:T)(κl:(Nat×Int×LA)->T)(κr:(Nat×LA)->T):T:=br (decide (e<g)) (br (bU f e) (br (dJ f e (Sh.int .i64) 0) (br ((kR a (gC f e 0).toInt).isSome) (br ((kR b (gC f e 0).toInt).isSome) (br ((OL a b f d e c).isSome) (κl (br ((xz a b f d e c).fst) (((xz a b f d e c).snd).fst).fst (((xz a b f d e c).snd).snd).fst,i64.wrap (e+1),br ((xz a b f d e c).fst) (((xz a b f d e c).snd).fst).snd (((xz a b f d e c).snd).snd).snd)) δ) δ) δ) δ) δ) (κr (d,c))
def Ax(a b e:LA)(f:Int):cS (Nat×Int×LA) (Nat×LA):=λ(d,g,c)=>HV a b e f d g c none inL inR
def Zb:=W0.l 38 0 [] [] Tryz.f79 0 lk0 [0,1,2,7,12,13,14] [2,7] [(7,2,132)] (q7 (qL 2) (qL 2) (ez 88 bO) (cC 0 0 0) (qL 1) qI qI) (q1 (qB 0 2 132 bB)) (λ(a,b,_,d,e,f,g,_) (c,_)=>(Ax a b e f,(d,g,c),λ p=>(.leaf (.exit 0) [AV.func 88 [],AV.osl 0 0 0 p.1] [bF 0 2 132 p.2]))) (0,[]) λ(a,b,_,_,e,f,_,_) _ (d,g,c)=>(((a,b,(),d,e,f,g,()),(c,())),HV a b e f d g c none)
def Pe(a b:LA):=aB (Ax a b ((nU a b).getD []) (↑((nU a b).getD []).length:Int)) (0,0,[])
def Bx(a b:LA):=(Pe a b).getD (0,[])
def PB{T:Type}(a b:LA)(δ:T)(κ:LA->T):T:=br ((nU a b).isSome) (br ((Pe a b).isSome) (br ((↑((Bx a b).fst):Int)==0) (κ ([AV.agg [AV.int .i64 0,AV.int .i64 0]])) (br (decide (0+((Bx a b).fst)<=((Bx a b).snd).length)&&true) (κ (List.take ((Bx a b).fst) (List.drop 0 ((Bx a b).snd)))) δ)) δ) δ
def I9(a b:LA):=PB a b none some
def W1:EO:=W0.f Tryz.func79 38 0 [] [(3,Zb.lp)] (fc Zb.ok) (u3 (uL 2) (uL 2) (sEq (ez (88:FuncId) bO))) (λ(a,b,_,_) _=>PB a b) (λ _ p=>AV.list 2 p) []
def OK(a b c:LA)(f:Nat)(d:Int)(e:LA):=kI f (gC c d 0).toInt (FL ((kR a (gC c d 0).toInt).getD 0) ((kR b (gC c d 0).toInt).getD 0)) e
def xy(a b e:LA)(d:Nat)(f:Int)(c:LA):=(OK a b e d f c).getD (false,(0,[]),0,[])
def HU{T:Type}(a b f:LA)(g:Int)(d:Nat)(e:Int)(c:LA)(δ:T)(κl:(Nat×Int×LA)->T)(κr:(Nat×LA)->T):T:=br (decide (e<g)) (br (bU f e) (br (dJ f e (Sh.int .i64) 0) (br ((kR a (gC f e 0).toInt).isSome) (br ((kR b (gC f e 0).toInt).isSome) (br ((OK a b f d e c).isSome) (κl (br ((xy a b f d e c).fst) (((xy a b f d e c).snd).fst).fst (((xy a b f d e c).snd).snd).fst,i64.wrap (e+1),br ((xy a b f d e c).fst) (((xy a b f d e c).snd).fst).snd (((xy a b f d e c).snd).snd).snd)) δ) δ) δ) δ) δ) (κr (d,c))
def Aw(a b e:LA)(f:Int):cS (Nat×Int×LA) (Nat×LA):=λ(d,g,c)=>HU a b e f d g c none inL inR
def Za:=W1.l 38 0 [] [] Tryz.f79 0 lk0 [0,1,2,7,12,13,14] [2,7] [(7,2,132)] (q7 (qL 2) (qL 2) (ez 81 bO) (cC 0 0 0) (qL 1) qI qI) (q1 (qB 0 2 132 bB)) (λ(a,b,_,d,e,f,g,_) (c,_)=>(Aw a b e f,(d,g,c),λ p=>(.leaf (.exit 0) [AV.func 81 [],AV.osl 0 0 0 p.1] [bF 0 2 132 p.2]))) (0,[]) λ(a,b,_,_,e,f,_,_) _ (d,g,c)=>(((a,b,(),d,e,f,g,()),(c,())),HU a b e f d g c none)
def Pd(a b:LA):=aB (Aw a b ((nU a b).getD []) (↑((nU a b).getD []).length:Int)) (0,0,[])
def Bw(a b:LA):=(Pd a b).getD (0,[])
def PA{T:Type}(a b:LA)(δ:T)(κ:LA->T):T:=br ((nU a b).isSome) (br ((Pd a b).isSome) (br ((↑((Bw a b).fst):Int)==0) (κ ([AV.agg [AV.int .i64 0,AV.int .i64 0]])) (br (decide (0+((Bw a b).fst)<=((Bw a b).snd).length)&&true) (κ (List.take ((Bw a b).fst) (List.drop 0 ((Bw a b).snd)))) δ)) δ) δ
def Fe(a b:LA):=PA a b none some
def xLi:EO:=W1.f Tryz.func79 38 0 [] [(3,Za.lp)] (fc Za.ok) (u3 (uL 2) (uL 2) (sEq (ez (81:FuncId) bO))) (λ(a,b,_,_) _=>PA a b) (λ _ p=>AV.list 2 p) []
def RZ{T:Type}(a b:LA)(δ:T)(κ:LA->T):T:=br ((I8 a b).isSome) (κ ((I8 a b).getD [])) δ
def F2(a b:LA):=RZ a b none some
def xLj:EO:=xLi.f Tryz.func43 8 0 [] [] lk0 (u2 (uL 2) (uL 2)) (λ(a,b,_) _=>RZ a b) (λ _ p=>AV.list 2 p) []
def R5{T:Type}(a b:LA)(δ:T)(κ:LA->T):T:=br ((Ja a b).isSome) (κ ((Ja a b).getD [])) δ
def F4(a b:LA):=R5 a b none some
def xJR:EO:=xLj.f Tryz.func47 8 0 [] [] lk0 (u2 (uL 2) (uL 2)) (λ(a,b,_) _=>R5 a b) (λ _ p=>AV.list 2 p) []
def R0{T:Type}(a b:LA)(δ:T)(κ:LA->T):T:=br ((I9 a b).isSome) (κ ((I9 a b).getD [])) δ
def F3(a b:LA):=R0 a b none some
def xJS:EO:=xJR.f Tryz.func53 8 0 [] [] lk0 (u2 (uL 2) (uL 2)) (λ(a,b,_) _=>R0 a b) (λ _ p=>AV.list 2 p) []
def Rw{T:Type}(l:LA)(δ:T)(κ:LA->T):T:=br ((Fe l []).isSome) (κ ((Fe l []).getD [])) δ
def Kz(l:LA):=Rw l none some
def xJT:EO:=xJS.f Tryz.func46 5 0 [] [] lk0 (u1 (uL 2)) (λ(l,_) _=>Rw l) (λ _ p=>AV.list 2 p) []
def Pm{T:Type}(x y:LA)(δ:T)(κ:LA->T):T:=br ((F4 x y).isSome) (br ((Kz ((F4 x y).getD [])).isSome) (κ ((Kz ((F4 x y).getD [])).getD [])) δ) δ
def Fo(x y:LA):=Pm x y none some
def Tm:EO:=xJT.f Tryz.func45 9 0 [] [] lk0 (u2 (uL 2) (uL 2)) (λ(x,y,_) _=>Pm x y) (λ _ p=>AV.list 2 p) []
def vq(b a:Bool):Int:=(br (b) (((-1))) (br (a) ((1)) ((0))))
def xCW{T:Type}(b a:Bool)(δ:T)(κ:Int->T):T:=br (b) (κ ((-1))) (br (a) (κ (1)) (κ (0)))
def xLz:EO:=Tm.fT Tryz.func134 7 0 [] [] lk0 (λ(b,a,_)=>xCW b a none) (u2 (sEq kX) (sEq kX)) (λ(b,a,_)=>vq b a) (λ _ p=>(AV.int .i64 p))
def Cc(a b:Int)(c:List UInt8)(d e:Int)(f:List UInt8):Int:=(br (a !=d) ((vq (decide (a<d)) (decide (a>d)))) (br (b !=e) ((vq (decide (b<e)) (decide (b>e)))) ((vq (Op.bytesLess c f) !(Op.bytesLess c f || c==f)))))
def xzd{T:Type}(a b:Int)(c:List UInt8)(d e:Int)(f:List UInt8)(δ:T)(κ:Int->T):T:=br (a !=d) (κ (vq (decide (a<d)) (decide (a>d)))) (br (b !=e) (κ (vq (decide (b<e)) (decide (b>e)))) (κ (vq (Op.bytesLess c f) !(Op.bytesLess c f || c==f))))
def W6:EO:=xLz.fT Tryz.func103 48 0 [] [] lk0 (λ((a,b,c,_),(d,e,f,_),_)=>xzd a b c d e f none) (u2 (fP (u3 uI uI (sEq pStr))) (fP (u3 uI uI (sEq pStr)))) (λ((a,b,c,_),(d,e,f,_),_)=>Cc a b c d e f) (λ _ p=>(AV.int .i64 p))
def AP(a b:LA)(i:Int):=Cc (gC a i 0).toInt (gC a i 1).toInt (gC a i 2).toStr (gC b i 0).toInt (gC b i 1).toInt (gC b i 2).toStr
def AH{T:Type}(a b:LA)(i:Int)(δ:T)(κl:(Int)->T)(κr:(Bool×(Int)×(Unit))->T):T:=br (decide (i<a.length)) (br (decide (i<b.length)) (br (bU a i) (br (jh a i 3 [Sh.int .i64,Sh.int .i64,Sh.str] 0) (br (bU b i) (br (jh b i 3 [Sh.int .i64,Sh.int .i64,Sh.str] 0) (br (AP a b i !=0) (κr (true,(AP a b i),())) (κl (i64.wrap (i+1)))) δ) δ) δ) δ) (κr (false,0,()))) (κr (false,0,()))
def s7(a b:LA):cS (Int) (Bool×(Int)×(Unit)):=λ(i)=>AH a b i none inL inR
def Zf:=W6.l 41 0 [] [] Tryz.f73 0 lk0 [0,1,5] [0,1,4] [] (q3 (qL 3) (qL 3) qI) bO (λ(a,b,i,_) _=>(s7 a b,(i),λ p=>(.node p.1 (.leaf .ret [AV.list 3 a,AV.list 3 b,AV.int .i64 p.2.1] []) (.leaf (.exit 0) [AV.list 3 a,AV.list 3 b,.top] [])))) (false,0,()) λ(a,b,_,_) _ (i)=>(((a,b,i,()),()),AH a b i none)
def PK{T:Type}(a b:LA)(δ:T)(κ:Int->T):T:=br ((aB (s7 a b) 0).isSome) (br (((aB (s7 a b) 0).getD (false,0,())).fst) (κ (((aB (s7 a b) 0).getD (false,0,())).snd.fst)) (br (decide ((↑a.length:Int)<(↑b.length:Int))) (κ ((-1))) (br (decide ((↑a.length:Int)>(↑b.length:Int))) (κ (1)) (κ (0))))) δ
def ni(a b:LA):=PK a b none some
def xLA:EO:=W6.f Tryz.func73 41 0 [] [(2,Zf.lp)] (fc Zf.ok) (u2 (uL 3) (uL 3)) (λ(a,b,_) _=>PK a b) (λ _ p=>AV.int .i64 p) 0
def QN{T:Type}(a b:LA)(δ:T)(κ:Bool->T):T:=br ((ni a b).isSome) (κ ((ni a b).getD 0==0)) δ
def vj(a b:LA):=QN a b none some
def W7:EO:=xLA.f Tryz.func71 9 0 [] [] lk0 (u2 (uL 3) (uL 3)) (λ(a,b,_) _=>QN a b) (λ _ p=>AV.bool p) false
def H6{T:Type}(a b:LA)(i:Int)(δ:T)(κl:(Int)->T)(κr:(Bool×(Bool)×(Unit))->T):T:=br (decide (i<a.length)) (br (bU a i) (br (jh a i 3 [Sh.int .i64,Sh.int .i64] 1) (br (bU b i) (br (jh b i 3 [Sh.int .i64,Sh.int .i64] 1) (br (!((gC a i 1).toInt==(gC b i 1).toInt&&((gC a i 2).toInt==(gC b i 2).toInt&&true))) (κr (true,(false),())) (br (bU a i) (br (dJ a i (Sh.list 3) 0) (br (bU b i) (br (dJ b i (Sh.list 3) 0) (br ((ni (gC a i 0).toList (gC b i 0).toList).isSome) (br ((ni (gC a i 0).toList (gC b i 0).toList).getD 0 !=0) (κr (true,(false),())) (κl (i64.wrap (i+1)))) δ) δ) δ) δ) δ)) δ) δ) δ) δ) (κr (false,false,()))
def xj(a b:LA):cS (Int) (Bool×(Bool)×(Unit)):=λ(i)=>H6 a b i none inL inR
def Y8:=W7.l 42 0 [] [] Tryz.f35 0 lk0 [0,1,5] [4] [] (q3 (qL 3) (qL 3) qI) bO (λ(a,b,i,_) _=>(xj a b,(i),λ p=>(.node p.1 (.leaf .ret [AV.bool p.2.1] []) (.leaf (.exit 0) [.top] [])))) (false,false,()) λ(a,b,_,_) _ (i)=>(((a,b,i,()),()),H6 a b i none)
def O2{T:Type}(a b:LA)(δ:T)(κ:Bool->T):T:=br ((↑a.length:Int) !=(↑b.length:Int)) (κ (false)) (br ((aB (xj a b) 0).isSome) (br (((aB (xj a b) 0).getD (false,false,())).fst) (κ (((aB (xj a b) 0).getD (false,false,())).snd.fst)) (κ (true))) δ)
def qQ(a b:LA):=O2 a b none some
def W8:EO:=W7.f Tryz.func35 42 0 [] [(4,Y8.lp)] (fc Y8.ok) (u2 (uL 3) (uL 3)) (λ(a,b,_) _=>O2 a b) (λ _ p=>AV.bool p) false
def Br(a b:LA)(i k:Int):=decide ((ni (gC b k 0).toList (gC a i 0).toList).getD 0<0)
def Bs(a:LA)(i:Int):=decide (i.toNat<a.length)&&((a.getD i.toNat .top).cells.length==3&&ew [Sh.list 3,Sh.int .i64,Sh.int .i64] (a.getD i.toNat .top).cells 0)
def Bt(b:LA)(k:Int):=decide (k.toNat<b.length)&&((b.getD k.toNat .top).cells.length==3&&ew [Sh.list 3,Sh.int .i64,Sh.int .i64] (b.getD k.toNat .top).cells 0)
def xV{T:Type}(b:LA)(c:Nat)(i k:Int)(a:LA)(δ:T)(κl:(Nat×Int×Int×LA)->T):T:=br (bU b k) (br (Bt b k) (br (gz c a 1 40) (κl (c+1,i,i64.wrap (k+1),a++[AV.agg [AV.list 3 (gC b k 0).toList,AV.int .i64 (gC b k 1).toInt,AV.int .i64 (gC b k 2).toInt]])) δ) δ) δ
def xW{T:Type}(a:LA)(c:Nat)(i k:Int)(b:LA)(δ:T)(κl:(Nat×Int×Int×LA)->T):T:=br (bU a i) (br (Bs a i) (br (gz c b 1 40) (κl (c+1,i64.wrap (i+1),k,b++[AV.agg [AV.list 3 (gC a i 0).toList,AV.int .i64 (gC a i 1).toInt,AV.int .i64 (gC a i 2).toInt]])) δ) δ) δ
def xU{T:Type}(a b:LA)(d:Nat)(i k:Int)(c:LA)(δ:T)(κl:(Nat×Int×Int×LA)->T):T:=br (i==(↑a.length:Int)) (xV b d i k c δ κl) (br (decide (k<b.length)) (br (bU b k) (br (dJ b k (Sh.list 3) 0) (br (bU a i) (br (dJ a i (Sh.list 3) 0) (br ((ni (gC b k 0).toList (gC a i 0).toList).isSome) (br (Br a b i k) (xV b d i k c δ κl) (xW a d i k c δ κl)) δ) δ) δ) δ) δ) (xW a d i k c δ κl))
def xY{T:Type}(a b:LA)(d:Nat)(i k:Int)(c:LA)(δ:T)(κl:(Nat×Int×Int×LA)->T)(κr:(Nat×LA)->T):T:=br (decide (i<a.length)) (xU a b d i k c δ κl) (br (decide (k<b.length)) (xU a b d i k c δ κl) (κr (d,c)))
def sU(a b:LA):cS (Nat×Int×Int×LA) (Nat×LA):=λ(d,i,k,c)=>xY a b d i k c none inL inR
def Zn:=W8.l 61 0 [] [] Tryz.f135 0 lk0 [0,1,5,6,7] [5] [(5,3,54)] (q5 (qL 3) (qL 3) (cC 0 0 0) qI qI) (q1 (qB 0 3 54 bB)) (λ(a,b,d,i,k,_) (c,_)=>(sU a b,(d,i,k,c),λ p=>(.leaf (.exit 0) [AV.osl 0 0 0 p.1] [bF 0 3 54 p.2]))) (0,[]) λ(a,b,_,_,_,_) _ (d,i,k,c)=>(((a,b,d,i,k,()),(c,())),xY a b d i k c none)
def Qm(a b:LA):=aB (sU a b) (0,0,0,[])
def EH(a b:LA):=(Qm a b).getD (0,[])
def Qx{T:Type}(a b:LA)(δ:T)(κ:LA->T):T:=br ((Qm a b).isSome) (br (decide (0+((EH a b).fst)<=((EH a b).snd).length)&&true) (κ (List.take ((EH a b).fst) (List.drop 0 ((EH a b).snd)))) δ) δ
def Rl(a b:LA):=Qx a b none some
def LH:EO:=W8.f Tryz.func135 61 0 [] [(3,Zn.lp)] (fc Zn.ok) (u2 (uL 3) (uL 3)) (λ(a,b,_) _=>Qx a b) (λ _ p=>AV.list 3 p) []
def O6(R:LA->Option (LA)):LA->Option (Bool×AV):=kw (cT (mc 3 bB) iU) λ(l,_)=>((R l).isSome,AV.list 3 ((R l).getD []))
def Ip(R:LA->Option (LA)):Prop:=ga P0 xQa 104 (O6 R)
def BW(R:LA->Option (LA)):cZ:=(LH.E.with 104 (O6 R)).fn 20 0 (dQ []) (iS [])
def xuU(R:LA->Option (LA))(a:Ip R):di P0 (xQa.at 0) (BW R):=(LH.ok.with a).fn
def xtc(R:LA->Option (LA))(a:Ip R):cV P0 (xQa.at (BW R).pin) (BW R) (Tryz.f104.body.getD .skip):=oI Θ
def Pi(l:LA):=decide (0<=i64.wrap ((↑l.length:Int).tdiv 2))&&decide (i64.wrap ((↑l.length:Int).tdiv 2)<=(↑l.length:Int))
def Pj(R:LA->Option (LA))(l:LA):Option (LA):=R (List.take (l.length - (i64.wrap ((↑l.length:Int).tdiv 2)).toNat) (List.drop (i64.wrap ((↑l.length:Int).tdiv 2)).toNat l))
def Ph(R:LA->Option (LA))(l:LA):Option (LA):=Rl ((R (List.take ((i64.wrap ((↑l.length:Int).tdiv 2)).toNat - 0) (List.drop 0 l))).getD []) ((Pj R l).getD [])
def B0{T:Type}(R:LA->Option (LA))(l:LA)(δ:T)(κ:LA->T):T:=br (decide ((↑l.length:Int)<2)) (κ (l)) (br (Pi l&&true) (br ((R (List.take ((i64.wrap ((↑l.length:Int).tdiv 2)).toNat - 0) (List.drop 0 l))).isSome) (br (Pi l) (br ((Pj R l).isSome) (br ((Ph R l).isSome) (κ ((Ph R l).getD [])) δ) δ) δ) δ) δ)
def qS(R:LA->Option (LA))(l:LA):=B0 R l none some
def xzh(R:LA->Option (LA))(l:LA):cU (λ(p:LA)=>((AV.list 3 p):AV)) (qS R l) (XF P0 (BW R) Tryz.f104 (Tryz.f104.body.getD .skip) [AV.list 3 l]):=by(have h:XF P0 (BW R) Tryz.f104 (Tryz.f104.body.getD .skip) [AV.list 3 l]=B0 R l none (λ(p:LA)=>some ((AV.list 3 p):AV)):=by kernel_rfl);rw[h];unfold qS B0;repeat' (first|refine cU.br ?_ ?_|exact cU.none|exact cU.some rfl)
def xzg(R:LA->Option (LA)):LA->Option (Bool×AV):=kw (cT (mc 3 bB) iU) λ(l,_)=>((qS R l).isSome,(AV.list 3 ((qS R l).getD [])))
def xzf(R:LA->Option (LA))(a:Ip R):ga P0 xQa 104 (xzg R):=tP λ e g f=>by obtain⟨l,_⟩:=e;obtain⟨b,c⟩:=Prod.mk.inj f;refine yD (p:=(BW R).pin) (CL xPD (xPE P0 _) rfl (xuU R a) Tryz.func104 rfl Θ (xtc R a) ((xzh R _ _ (nP (d:=[]) b)).trans ?_));exact congrArg some c
def qU:Nat->LA->Option (LA)|0=>λ _=>none|fu_+1=>λ l=>qS (qU fu_) l
def Zo:∀n,Ip (qU n)|0=>tP λ _ _ h=>absurd (Prod.mk.inj h).1 Bool.false_ne_true|fu_+1=>λ a r h=>xzf (qU fu_) (Zo fu_) a r h
def W9:cZ:=LH.E.with 104 (O6 (qU 100))
def xGt:di P0 xQa W9:=LH.ok.with (Zo _)
def xGs:EO:=EO.mk W9 xGt
def vh(a b:Int):Bool:=(br (decide (a>=0)) (br (decide (a<b)) ((decide (b<=1099511627776))) ((false))) ((false)))
def xBw{T:Type}(a b:Int)(δ:T)(κ:Bool->T):T:=br (decide (a>=0)) (br (decide (a<b)) (κ (decide (b<=1099511627776))) (κ (false))) (κ (false))
def xLB:EO:=xGs.fT Tryz.func83 18 0 [] [] lk0 (λ((a,b,_),_)=>xBw a b none) (u1 (fP (u2 uI uI))) (λ((a,b,_),_)=>vh a b) (λ _ p=>(AV.bool p))
def ET(a b t:Int):Bool:=(br (vh a b) (br (decide (a<=t)) ((decide (t<b))) ((false))) ((false)))
def xyc{T:Type}(a b t:Int)(δ:T)(κ:Bool->T):T:=br (vh a b) (br (decide (a<=t)) (κ (decide (t<b))) (κ (false))) (κ (false))
def xLC:EO:=xLB.fT Tryz.func72 19 0 [] [] lk0 (λ((a,b,_),t,_)=>xyc a b t none) (u2 (fP (u2 uI uI)) uI) (λ((a,b,_),t,_)=>ET a b t) (λ _ p=>(AV.bool p))
def J5(a b c d:Int):Int:=(br (a==c&&(b==d&&true)) ((0)) (br (decide (a<c)) (((-1))) (br (a==c) (br (decide (b<d)) (((-1))) ((1))) ((1)))))
def xzb{T:Type}(a b c d:Int)(δ:T)(κ:Int->T):T:=br (a==c&&(b==d&&true)) (κ (0)) (br (decide (a<c)) (κ ((-1))) (br (a==c) (br (decide (b<d)) (κ ((-1))) (κ (1))) (κ (1))))
def xJU:EO:=xLC.fT Tryz.func125 27 0 [] [] lk0 (λ((a,b,_),(c,d,_),_)=>xzb a b c d none) (u2 (fP (u2 uI uI)) (fP (u2 uI uI))) (λ((a,b,_),(c,d,_),_)=>J5 a b c d) (λ _ p=>(AV.int .i64 p))
def xFV:Int×Int×List UInt8:=((0,0,[]))
def xCV{T:Type}(δ:T)(κ:Int×Int×List UInt8->T):T:=κ (0,0,[])
def xJV:EO:=xJU.fT Tryz.func203 2 0 [] [] lk0 (λ _=>xCV none) iU (λ _=>xFV) (λ _ p=>(AV.agg [AV.int .i64 p.1,AV.int .i64 p.2.1,AV.str p.2.2]))
def xze{T:Type}(a:LA)(i:Int)(δ:T)(κ:Int×Int×List UInt8->T):T:=br (decide (i<0)) (κ (0,0,[])) (br (decide (i>=a.length)) (κ (0,0,[])) (br (bU a i) (br (jh a i 3 [Sh.int .i64,Sh.int .i64,Sh.str] 0) (κ ((gC a i 0).toInt,(gC a i 1).toInt,(gC a i 2).toStr)) δ) δ))
def Lb(a:LA)(i:Int):=xze a i none some
def Vz:EO:=xJV.f Tryz.func179 18 0 [] [] lk0 (u2 (uL 3) uI) (λ(a,i,_) _=>xze a i) (λ _ p=>AV.agg [AV.int .i64 p.1,AV.int .i64 p.2.1,AV.str p.2.2]) (0,0,[])
def O4(b o:LA)(i:Int):=(Lb b (gC o i 0).toInt).getD (0,0,[])
def O5(a o:LA)(i:Int):=(Lb a (gC o i 0).toInt).getD (0,0,[])
def Zx(a b o:LA)(i:Int):=Cc (O5 a o i).fst ((O5 a o i).snd).fst ((O5 a o i).snd).snd (O4 b o i).fst ((O4 b o i).snd).fst ((O4 b o i).snd).snd
def OY{T:Type}(a b o:LA)(i:Int)(δ:T)(κl:(Int)->T)(κr:(Bool×(Bool)×(Unit))->T):T:=br (decide (i<o.length)) (br (bU o i) (br (dJ o i (Sh.int .i64) 0) (br ((Lb a (gC o i 0).toInt).isSome) (br (bU o i) (br (dJ o i (Sh.int .i64) 0) (br ((Lb b (gC o i 0).toInt).isSome) (br (Zx a b o i !=0) (br (bU o i) (br (decide (i.toNat<o.length)&&dw Sh.bool (gC o i 1)) (κr (true,(!decide (Zx a b o i<0)==(gC o i 1).toBool),())) δ) δ) (κl (i64.wrap (i+1)))) δ) δ) δ) δ) δ) δ) (κr (false,false,()))
def AY(a b o:LA):cS (Int) (Bool×(Bool)×(Unit)):=λ(i)=>OY a b o i none inL inR
def Zw:=Vz.l 44 0 [] [] Tryz.f150 0 lk0 [0,1,2,7] [0,1,6] [] (q4 (qL 3) (qL 3) (qL 2) qI) bO (λ(a,b,o,i,_) _=>(AY a b o,(i),λ p=>(.node p.1 (.leaf .ret [AV.list 3 a,AV.list 3 b,AV.bool p.2.1] []) (.leaf (.exit 0) [AV.list 3 a,AV.list 3 b,.top] [])))) (false,false,()) λ(a,b,o,_,_) _ (i)=>(((a,b,o,i,()),()),OY a b o i none)
def Qd{T:Type}(a b o:LA)(δ:T)(κ:Bool->T):T:=br ((aB (AY a b o) 0).isSome) (br (((aB (AY a b o) 0).getD (false,false,())).fst) (κ (((aB (AY a b o) 0).getD (false,false,())).snd.fst)) (br ((ni a b).isSome) (κ (decide ((ni a b).getD 0<0))) δ)) δ
def J6(a b o:LA):=Qd a b o none some
def VA:EO:=Vz.f Tryz.func150 44 0 [] [(2,Zw.lp)] (fc Zw.ok) (u3 (uL 3) (uL 3) (uL 2)) (λ(a,b,o,_) _=>Qd a b o) (λ _ p=>AV.bool p) false
def xR{T:Type}(b:LA)(c:Nat)(i k:Int)(a:LA)(δ:T)(κl:(Nat×Int×Int×LA)->T):T:=br (bU b k) (br (dJ b k (Sh.list 3) 0) (br (gz c a 1 24) (κl (c+1,i,i64.wrap (k+1),a++[AV.list 3 (gC b k 0).toList])) δ) δ) δ
def xS{T:Type}(a:LA)(c:Nat)(i k:Int)(b:LA)(δ:T)(κl:(Nat×Int×Int×LA)->T):T:=br (bU a i) (br (dJ a i (Sh.list 3) 0) (br (gz c b 1 24) (κl (c+1,i64.wrap (i+1),k,b++[AV.list 3 (gC a i 0).toList])) δ) δ) δ
def xQ{T:Type}(a b o:LA)(d:Nat)(i k:Int)(c:LA)(δ:T)(κl:(Nat×Int×Int×LA)->T):T:=br (i==(↑a.length:Int)) (xR b d i k c δ κl) (br (decide (k<b.length)) (br (bU b k) (br (dJ b k (Sh.list 3) 0) (br (bU a i) (br (dJ a i (Sh.list 3) 0) (br ((J6 (gC b k 0).toList (gC a i 0).toList o).isSome) (br ((J6 (gC b k 0).toList (gC a i 0).toList o).getD false) (xR b d i k c δ κl) (xS a d i k c δ κl)) δ) δ) δ) δ) δ) (xS a d i k c δ κl))
def xX{T:Type}(a b o:LA)(d:Nat)(i k:Int)(c:LA)(δ:T)(κl:(Nat×Int×Int×LA)->T)(κr:(Nat×LA)->T):T:=br (decide (i<a.length)) (xQ a b o d i k c δ κl) (br (decide (k<b.length)) (xQ a b o d i k c δ κl) (κr (d,c)))
def ta(a b o:LA):cS (Nat×Int×Int×LA) (Nat×LA):=λ(d,i,k,c)=>xX a b o d i k c none inL inR
def Zy:=VA.l 62 0 [] [] Tryz.f133 0 lk0 [0,1,2,7,8,9] [7] [(7,1,47)] (q6 (qL 1) (qL 1) (qL 2) (cC 0 0 0) qI qI) (q1 (qB 0 1 47 bB)) (λ(a,b,o,d,i,k,_) (c,_)=>(ta a b o,(d,i,k,c),λ p=>(.leaf (.exit 0) [AV.osl 0 0 0 p.1] [bF 0 1 47 p.2]))) (0,[]) λ(a,b,o,_,_,_,_) _ (d,i,k,c)=>(((a,b,o,d,i,k,()),(c,())),xX a b o d i k c none)
def BH(a b o:LA):=aB (ta a b o) (0,0,0,[])
def Qe{T:Type}(a b o:LA)(δ:T)(κ:LA->T):T:=br ((BH a b o).isSome) (br (decide (0+(((BH a b o).getD (0,[])).fst)<=(((BH a b o).getD (0,[])).snd).length)&&true) (κ (List.take (((BH a b o).getD (0,[])).fst) (List.drop 0 (((BH a b o).getD (0,[])).snd)))) δ) δ
def Ri(a b o:LA):=Qe a b o none some
def Lv:EO:=VA.f Tryz.func133 62 0 [] [(3,Zy.lp)] (fc Zy.ok) (u3 (uL 1) (uL 1) (uL 2)) (λ(a,b,o,_) _=>Qe a b o) (λ _ p=>AV.list 1 p) []
def Pw(R:LA->LA->Option (LA)):LA->Option (Bool×AV):=kw (cT (mc 1 bB) (cT (mc 2 bB) iU)) λ(l,(o,_))=>((R l o).isSome,AV.list 1 ((R l o).getD []))
def Iy(R:LA->LA->Option (LA)):Prop:=ga P0 xQa 101 (Pw R)
def B2(R:LA->LA->Option (LA)):cZ:=(Lv.E.with 101 (Pw R)).fn 34 0 (dQ []) (iS [])
def xv7(R:LA->LA->Option (LA))(a:Iy R):di P0 (xQa.at 0) (B2 R):=(Lv.ok.with a).fn
def xud(R:LA->LA->Option (LA))(a:Iy R):cV P0 (xQa.at (B2 R).pin) (B2 R) (Tryz.f101.body.getD .skip):=oI Θ
def E9(l:LA):=decide (0<=i64.wrap ((↑l.length:Int).tdiv 2))&&decide (i64.wrap ((↑l.length:Int).tdiv 2)<=(↑l.length:Int))
def yi(l:LA):Nat:=0+((l.getD 0 .top).cells.getD 0 .top).toList.length
def Fl(R:LA->LA->Option (LA))(l o:LA):Option (LA):=R (List.take (l.length - (i64.wrap ((↑l.length:Int).tdiv 2)).toNat) (List.drop (i64.wrap ((↑l.length:Int).tdiv 2)).toNat l)) o
def E8(R:LA->LA->Option (LA))(l o:LA):Option (LA):=Ri ((R (List.take ((i64.wrap ((↑l.length:Int).tdiv 2)).toNat - 0) (List.drop 0 l)) o).getD []) ((Fl R l o).getD []) o
def uZ{T:Type}(R:LA->LA->Option (LA))(l o:LA)(δ:T)(κ:LA->T):T:=br ((↑l.length:Int)==0) (κ ([])) (br ((↑l.length:Int)==1) (br (decide (0<(↑l.length:Int))) (br (decide (0<l.length)&&dw (Sh.list 3) ((l.getD 0 .top).cells.getD 0 .top)) (br (decide (yi l*32<=140737488355328)&&decide (yi l<=4611686018427387904)) (br (decide (0+yi l<=([]++((l.getD 0 .top).cells.getD 0 .top).toList).length)&&true&&true&&true) (κ ([AV.list 3 (List.take (yi l) (List.drop 0 ([]++((l.getD 0 .top).cells.getD 0 .top).toList)))])) δ) δ) δ) δ) (br (E9 l&&true) (br ((R (List.take ((i64.wrap ((↑l.length:Int).tdiv 2)).toNat - 0) (List.drop 0 l)) o).isSome) (br (E9 l) (br ((Fl R l o).isSome) (br ((E8 R l o).isSome) (κ ((E8 R l o).getD [])) δ) δ) δ) δ) δ))
def oE(R:LA->LA->Option (LA))(l o:LA):=uZ R l o none some
def xBA(R:LA->LA->Option (LA))(l o:LA):cU (λ(p:LA)=>((AV.list 1 p):AV)) (oE R l o) (XF P0 (B2 R) Tryz.f101 (Tryz.f101.body.getD .skip) [AV.list 1 l,AV.list 2 o]):=by(have h:XF P0 (B2 R) Tryz.f101 (Tryz.f101.body.getD .skip) [AV.list 1 l,AV.list 2 o]=uZ R l o none (λ(p:LA)=>some ((AV.list 1 p):AV)):=by kernel_rfl);rw[h];unfold oE uZ;repeat' (first|refine cU.br ?_ ?_|exact cU.none|exact cU.some rfl)
def xBz(R:LA->LA->Option (LA)):LA->Option (Bool×AV):=kw (cT (mc 1 bB) (cT (mc 2 bB) iU)) λ(l,(o,_))=>((oE R l o).isSome,(AV.list 1 ((oE R l o).getD [])))
def xBy(R:LA->LA->Option (LA))(a:Iy R):ga P0 xQa 101 (xBz R):=tP λ e g f=>by obtain⟨l,⟨o,_⟩⟩:=e;obtain⟨b,c⟩:=Prod.mk.inj f;refine yD (p:=(B2 R).pin) (CL xPD (xPE P0 _) rfl (xv7 R a) Tryz.func101 rfl Θ (xud R a) ((xBA R _ _ _ (nP (d:=[]) b)).trans ?_));exact congrArg some c
def pG:Nat->LA->LA->Option (LA)|0=>λ _ _=>none|fu_+1=>λ l o=>oE (pG fu_) l o
def ZX:∀n,Iy (pG n)|0=>tP λ _ _ h=>absurd (Prod.mk.inj h).1 Bool.false_ne_true|fu_+1=>λ a r h=>xBy (pG fu_) (ZX fu_) a r h
def VB:cZ:=Lv.E.with 101 (Pw (pG 1000))
def xFd:di P0 xQa VB:=Lv.ok.with (ZX _)
def xFc:EO:=EO.mk VB xFd
def Rh{T:Type}(l:LA)(δ:T)(κ:LA->T):T:=br ((pG 1000 l []).isSome) (κ ((pG 1000 l []).getD [])) δ
def rY(l:LA):=Rh l none some
def VC:EO:=xFc.f Tryz.func67 5 0 [] [] lk0 (u1 (uL 1)) (λ(l,_) _=>Rh l) (λ _ p=>AV.list 1 p) []
def H3(a:LA)(i:Int):=vj ((a.getD (i64.wrap (i - 1)).toNat .top).cells.getD 0 .top).toList (gC a i 0).toList
def DY{T:Type}(c:LA)(b:Nat)(i:Int)(a:LA)(δ:T)(κl:(Nat×Int×LA)->T):T:=br (bU c i) (br (dJ c i (Sh.list 3) 0) (br (gz b a 1 24) (κl (b+1,i64.wrap (i+1),a++[AV.list 3 (gC c i 0).toList])) δ) δ) δ
def D5{T:Type}(a:LA)(c:Nat)(i:Int)(b:LA)(δ:T)(κl:(Nat×Int×LA)->T)(κr:(Nat×LA)->T):T:=br (decide (i<a.length)) (br (i==0) (DY a c i b δ κl) (br (decide (0<=i64.wrap (i - 1))&&decide (i64.wrap (i - 1)<(↑a.length:Int))) (br (decide ((i64.wrap (i - 1)).toNat<a.length)&&dw (Sh.list 3) ((a.getD (i64.wrap (i - 1)).toNat .top).cells.getD 0 .top)) (br (bU a i) (br (dJ a i (Sh.list 3) 0) (br ((H3 a i).isSome) (br (!(H3 a i).getD false) (DY a c i b δ κl) (κl (c,i64.wrap (i+1),b))) δ) δ) δ) δ) δ)) (κr (c,b))
def xH(c:LA):cS (Nat×Int×LA) (Nat×LA):=λ(b,i,a)=>D5 c b i a none inL inR
def YY:=VC.l 38 0 [] [] Tryz.f70 0 lk0 [3,4,5] [4] [(4,1,47)] (q3 (qL 1) (cC 0 0 0) qI) (q1 (qB 0 1 47 bB)) (λ(c,b,i,_) (a,_)=>(xH c,(b,i,a),λ p=>(.leaf (.exit 0) [AV.osl 0 0 0 p.1] [bF 0 1 47 p.2]))) (0,[]) λ(c,_,_,_) _ (b,i,a)=>(((c,b,i,()),(a,())),D5 c b i a none)
def Ex(l:LA):=(aB (xH ((rY l).getD [])) (0,0,[])).getD (0,[])
def Pv{T:Type}(l:LA)(δ:T)(κ:LA->T):T:=br ((rY l).isSome) (br ((aB (xH ((rY l).getD [])) (0,0,[])).isSome) (br (decide (0+((Ex l).fst)<=((Ex l).snd).length)&&true) (κ (List.take ((Ex l).fst) (List.drop 0 ((Ex l).snd)))) δ) δ) δ
def EZ(l:LA):=Pv l none some
def VD:EO:=VC.f Tryz.func70 38 0 [] [(4,YY.lp)] (fc YY.ok) (u1 (uL 1)) (λ(l,_) _=>Pv l) (λ _ p=>AV.list 1 p) []
def Jz{T:Type}(l:LA)(b:Nat)(i:Int)(a:LA)(δ:T)(κl:(Nat×Int×LA)->T)(κr:(Nat×LA)->T):T:=br (decide (i<l.length)) (br (bU l i) (br (jh l i 3 [Sh.int .i64,Sh.int .i64] 1) (br (vh (gC l i 1).toInt (gC l i 2).toInt) (br (bU l i) (br (dJ l i (Sh.list 3) 0) (br (gz b a 1 24) (κl (b+1,i64.wrap (i+1),a++[AV.list 3 (gC l i 0).toList])) δ) δ) δ) (κl (b,i64.wrap (i+1),a))) δ) δ) (κr (b,a))
def AL(l:LA):cS (Nat×Int×LA) (Nat×LA):=λ(b,i,a)=>Jz l b i a none inL inR
def ZY:=VD.l 27 0 [] [] Tryz.f48 0 lk0 [0,3,4] [3] [(3,1,47)] (q3 (qL 3) (cC 0 0 0) qI) (q1 (qB 0 1 47 bB)) (λ(l,b,i,_) (a,_)=>(AL l,(b,i,a),λ p=>(.leaf (.exit 0) [AV.osl 0 0 0 p.1] [bF 0 1 47 p.2]))) (0,[]) λ(l,_,_,_) _ (b,i,a)=>(((l,b,i,()),(a,())),Jz l b i a none)
def Fi(l:LA):=(aB (AL l) (0,0,[])).getD (0,[])
def QQ(l:LA):=EZ (List.take ((Fi l).fst) (List.drop 0 ((Fi l).snd)))
def Rk{T:Type}(l:LA)(δ:T)(κ:LA->T):T:=br ((aB (AL l) (0,0,[])).isSome) (br (decide (0+((Fi l).fst)<=((Fi l).snd).length)&&true) (br ((QQ l).isSome) (κ ((QQ l).getD [])) δ) δ) δ
def KI(l:LA):=Rk l none some
def To:EO:=VD.f Tryz.func48 27 0 [] [(3,ZY.lp)] (fc ZY.ok) (u1 (uL 3)) (λ(l,_) _=>Rk l) (λ _ p=>AV.list 1 p) []
def Ca:cZ:=To.E.fn 51 1 (dQ []) (iS [])
def xyd:di P0 (xQa.at 1) Ca:=To.ok.fn
def xuT:cV P0 (xQa.at Ca.pin) Ca (Tryz.f124.body.getD .skip):=oI Θ
def tx(k:Nat)(a:LA):=(List.take ((i64.wrap ((↑k:Int) - 1)).toNat - 0) (List.drop 0 a)).length
def JU(k:Nat)(a:LA):=decide (0+(i64.wrap ((↑k:Int) - 1)).toNat<a.length)
def Fg(k:Nat)(a:LA):=((a.getD (0+(i64.wrap ((↑k:Int) - 1)).toNat) .top).cells.getD 1 .top).toInt
def JV(k:Nat):=decide (0<=i64.wrap ((↑k:Int) - 1))
def Ff(k:Nat):=JV k&&decide (i64.wrap ((↑k:Int) - 1)<(↑k:Int))
def JT(k:Nat)(a:LA):=JU k a&&dw (Sh.int .i64) ((a.getD (0+(i64.wrap ((↑k:Int) - 1)).toNat) .top).cells.getD 1 .top)
def EU{T:Type}(k:Nat)(a b:Int)(c:LA)(δ:T)(κ:Bool×(Nat×LA×LA)×(Nat×LA)->T):T:=br (gz k c 1 16) (κ (false,(0,[],[]),(k+1,c++[AV.agg [AV.int .i64 a,AV.int .i64 b]]))) δ
def Fx{T:Type}(k:Nat)(b c:Int)(a:LA)(δ:T)(κ:Bool×(Nat×LA×LA)×(Nat×LA)->T):T:=br (decide ((↑k:Int)>0)) (br (Ff k) (br (JT k a) (br (decide (Fg k a>=b)) (br (JV k&&decide (i64.wrap ((↑k:Int) - 1)<=(↑k:Int))&&true) (br (decide (0+((i64.wrap ((↑k:Int) - 1)).toNat - 0)<=a.length)&&(decide (tx k a*16<=140737488355328)&&decide (tx k a<=4611686018427387904))) (br (Ff k) (br (JU k a&&dw (Sh.int .i64) ((a.getD (0+(i64.wrap ((↑k:Int) - 1)).toNat) .top).cells.getD 0 .top)) (br (Ff k) (br (JT k a) (br (tx k a==tx k a&&(decide ((tx k a+1)*16<=140737488355328)&&decide (tx k a+1<=4611686018427387904))) (κ (true,(tx k a+1,a,List.take ((i64.wrap ((↑k:Int) - 1)).toNat - 0) (List.drop 0 a)++[AV.agg [AV.int .i64 ((a.getD (0+(i64.wrap ((↑k:Int) - 1)).toNat) .top).cells.getD 0 .top).toInt,AV.int .i64 (if c>Fg k a then c else Fg k a)]]),(0,[]))) δ) δ) δ) δ) δ) δ) δ) (EU k b c a δ κ)) δ) δ) (EU k b c a δ κ)
def nj(k:Nat)(a b:Int)(c:LA):=Fx k a b c none some
def xCU(k:Nat)(a b:Int)(xs:LA):cU (λ(p:Bool×(Nat×LA×LA)×(Nat×LA))=>((br p.1 ((AV.osl 1 0 0 p.2.1.1,([⟨0,2,52,p.2.1.2.1,false,true⟩,⟨0,2,52,p.2.1.2.2,false,true⟩]:List aC))) ((AV.osl 0 1 0 p.2.2.1,([⟨1,2,52,p.2.2.2,false,true⟩]:List aC)))):(AV×List aC))) (nj k a b xs) (l6 P0 Ca Tryz.f124 (Tryz.f124.body.getD .skip) [AV.osl (0:Id) 0 0 k,AV.agg [AV.int .i64 a,AV.int .i64 b]] [{ver:=0,sz:=2,ty:=(52:TypeId),xs:=xs,frz:=false,pm:=true}]):=by(have h:l6 P0 Ca Tryz.f124 (Tryz.f124.body.getD .skip) [AV.osl (0:Id) 0 0 k,AV.agg [AV.int .i64 a,AV.int .i64 b]] [{ver:=0,sz:=2,ty:=(52:TypeId),xs:=xs,frz:=false,pm:=true}]=Fx k a b xs none (λ(p:Bool×(Nat×LA×LA)×(Nat×LA))=>some ((br p.1 ((AV.osl 1 0 0 p.2.1.1,([⟨0,2,52,p.2.1.2.1,false,true⟩,⟨0,2,52,p.2.1.2.2,false,true⟩]:List aC))) ((AV.osl 0 1 0 p.2.2.1,([⟨1,2,52,p.2.2.2,false,true⟩]:List aC)))):(AV×List aC))):=by kernel_rfl);rw[h];unfold nj Fx EU;repeat' (first|refine cU.br ?_ ?_|exact cU.none|exact cU.some rfl)
def xCT:LA->List aC->Option (Bool×AV×List aC):=jl (cT (sEq (cC 0 0 0)) (cT (fP (cT (sEq (pInt .i64)) (cT (sEq (pInt .i64)) iU))) iU)) (aZ (fu 0 2 (52:TypeId) false true bB) bO) λ(k,((a,(b,_)),_)) (c,_)=>((nj k a b c).isSome,(AV.osl 1 0 0 (br ((nj k a b c).getD (false,(0,[],[]),(0,[]))).1 ((nj k a b c).getD (false,(0,[],[]),(0,[]))).2.1.1 ((nj k a b c).getD (false,(0,[],[]),(0,[]))).2.2.1),([⟨2,2,52,[],false,true⟩,⟨0,2,52,br ((nj k a b c).getD (false,(0,[],[]),(0,[]))).1 ((nj k a b c).getD (false,(0,[],[]),(0,[]))).2.1.2.2 ((nj k a b c).getD (false,(0,[],[]),(0,[]))).2.2.2,false,true⟩]:List aC)))
def xCS:fJ P0 xQa 124 (xCT):=pR λ e f j h g=>by obtain⟨k,⟨⟨c,⟨i,_⟩⟩,_⟩⟩:=e;obtain⟨l,_⟩:=f;obtain⟨b,a⟩:=Prod.mk.inj g;have hx:=xCU _ _ _ _ _ (nP (d:=(false,(0,[],[]),(0,[]))) b);revert hx a;generalize ((nj _ _ _ _).getD (false,(0,[],[]),(0,[])))=p;intro a hx;obtain⟨rfl,rfl⟩:=Prod.mk.inj a;obtain⟨t,⟨m,n,o⟩,q,r⟩:=p;have hg:bG P0 xQa 124 _ _ _ _:=vB (p:=Ca.pin) (vA xPD (xPE P0 _) rfl xyd rfl Tryz.func124 rfl Θ xuT hx);cases t;exact bG.move0 rfl (by decide) hg;exact bG.drop0 rfl (by decide) hg
def NX:EO:=To.wM xCS
def Ew{T:Type}(l:LA)(n:Int)(b:Nat)(i:Int)(a:LA)(δ:T)(κl:(Nat×Int×LA)->T)(κr:(Nat×Int×LA)->T):T:=br (decide (i<l.length)) (br (bU l i) (br (dJ l i (Sh.int .i64) 0) (br (decide ((gC l i 0).toInt<n)) (br (bU l i) (br (dJ l i (Sh.int .i64) 0) (br (gz b a 1 8) (κl (b+1,i64.wrap (i+1),a++[AV.int .i64 (gC l i 0).toInt])) δ) δ) δ) (κr (b,i,a))) δ) δ) (κr (b,i,a))
def xC(l:LA)(n:Int):cS (Nat×Int×LA) (Nat×Int×LA):=λ(b,i,a)=>Ew l n b i a none inL inR
def O3:=NX.l 58 0 [] [] Tryz.f120 0 lk0 [0,1,5,6] [0,1,5,6] [(5,1,3)] (q4 (qL 1) qI (cC 0 0 0) qI) (q1 (qB 0 1 3 bB)) (λ(l,n,b,i,_) (a,_)=>(xC l n,(b,i,a),λ p=>(.leaf (.exit 0) [AV.list 1 l,AV.int .i64 n,AV.osl 0 0 0 p.1,AV.int .i64 p.2.1] [bF 0 1 3 p.2.2]))) (0,0,[]) λ(l,n,_,_,_) _ (b,i,a)=>(((l,n,b,i,()),(a,())),Ew l n b i a none)
def Iu{T:Type}(l:LA)(b:Nat)(i:Int)(a:LA)(δ:T)(κl:(Nat×Int×LA)->T)(κr:(Nat×LA)->T):T:=br (decide (i<l.length)) (br (bU l i) (br (dJ l i (Sh.int .i64) 0) (br (gz b a 1 8) (κl (b+1,i64.wrap (i+1),a++[AV.int .i64 (gC l i 0).toInt])) δ) δ) δ) (κr (b,a))
def xD(l:LA):cS (Nat×Int×LA) (Nat×LA):=λ(b,i,a)=>Iu l b i a none inL inR
def Zu:=NX.l 58 0 [] [(3,O3.lp)] Tryz.f120 1 lk0 [0,5,6] [5] [(5,1,3)] (q3 (qL 1) (cC 0 0 0) qI) (q1 (qB 0 1 3 bB)) (λ(l,b,i,_) (a,_)=>(xD l,(b,i,a),λ p=>(.leaf (.exit 2) [AV.osl 0 0 0 p.1] [bF 0 1 3 p.2]))) (0,[]) λ(l,_,_,_) _ (b,i,a)=>(((l,b,i,()),(a,())),Iu l b i a none)
def rQ(l:LA)(n:Int):=(aB (xC l n) (0,0,[])).getD (0,0,[])
def qO(l:LA)(n:Int):=((rQ l n).snd).fst
def BO(l:LA)(n:Int):=((rQ l n).fst)+1
def EN(l:LA)(n:Int):=aB (xD l) (BO l n,qO l n,(((rQ l n).snd).snd)++[AV.int .i64 n])
def EP(l:LA)(n:Int):=aB (xD l) (((rQ l n).fst),qO l n,(((rQ l n).snd).snd))
def IW(l:LA)(n:Int):=((rQ l n).fst)==(((rQ l n).snd).snd).length
def yf(l:LA)(n:Int):=(EN l n).getD (0,[])
def yg(l:LA)(n:Int):=(EP l n).getD (0,[])
def Pu{T:Type}(l:LA)(n:Int)(δ:T)(κ:LA->T):T:=br (IW l n&&(decide (BO l n*8<=140737488355328)&&decide (BO l n<=4611686018427387904))) (br ((EN l n).isSome) (br (decide (0+((yf l n).fst)<=((yf l n).snd).length)&&true) (κ (List.take ((yf l n).fst) (List.drop 0 ((yf l n).snd)))) δ) δ) δ
def P7{T:Type}(l:LA)(n:Int)(δ:T)(κ:LA->T):T:=br ((aB (xC l n) (0,0,[])).isSome) (br (qO l n==(↑l.length:Int)) (Pu l n δ κ) (br (decide (0<=qO l n)&&decide (qO l n<l.length)) (br (decide ((qO l n).toNat<l.length)&&dw (Sh.int .i64) ((l.getD (qO l n).toNat .top).cells.getD 0 .top)) (br (decide (((l.getD (qO l n).toNat .top).cells.getD 0 .top).toInt>n)) (Pu l n δ κ) (br ((EP l n).isSome) (br (decide (0+((yg l n).fst)<=((yg l n).snd).length)&&true) (κ (List.take ((yg l n).fst) (List.drop 0 ((yg l n).snd)))) δ) δ)) δ) δ)) δ
def yj(l:LA)(n:Int):=P7 l n none some
def Nz:EO:=NX.f Tryz.func120 58 0 [] [(3,O3.lp),(8,Zu.lp)] (l7 (fe O3.ok (fe Zu.ok kr))) (u2 (uL 1) uI) (λ(l,n,_) _=>P7 l n) (λ _ p=>AV.list 1 p) []
def Ce:cZ:=Nz.E.fn 28 1 (dQ []) (iS [])
def xzc:di P0 (xQa.at 1) Ce:=Nz.ok.fn
def xvz:cV P0 (xQa.at Ce.pin) Ce (Tryz.f121.body.getD .skip):=oI Θ
def Cb{T:Type}(k:Nat)(a n:Int)(b:LA)(δ:T)(κ:Bool×(Nat×LA)×(Nat×LA)->T):T:=br (gz k b 1 16) (κ (false,(0,[]),(k+1,b++[AV.agg [AV.int .i64 a,AV.int .i64 n]]))) δ
def Ci{T:Type}(k:Nat)(a n:Int)(b:LA)(δ:T)(κ:Bool×(Nat×LA)×(Nat×LA)->T):T:=br (decide ((↑k:Int)>0)) (br (decide (0<=i64.wrap ((↑k:Int) - 1))&&decide (i64.wrap ((↑k:Int) - 1)<(↑k:Int))) (br (decide (0+(i64.wrap ((↑k:Int) - 1)).toNat<b.length)&&dw (Sh.int .i64) ((b.getD (0+(i64.wrap ((↑k:Int) - 1)).toNat) .top).cells.getD 1 .top)) (br (((b.getD (0+(i64.wrap ((↑k:Int) - 1)).toNat) .top).cells.getD 1 .top).toInt==n) (κ (true,(k,b),(0,[]))) (Cb k a n b δ κ)) δ) δ) (Cb k a n b δ κ)
def nW(k:Nat)(a n:Int)(b:LA):=Ci k a n b none some
def xDO(k:Nat)(a n:Int)(xs:LA):cU (λ(p:Bool×(Nat×LA)×(Nat×LA))=>((br p.1 ((AV.osl 0 0 0 p.2.1.1,([⟨0,2,132,p.2.1.2,false,true⟩]:List aC))) ((AV.osl 0 1 0 p.2.2.1,([⟨1,2,132,p.2.2.2,false,true⟩]:List aC)))):(AV×List aC))) (nW k a n xs) (l6 P0 Ce Tryz.f121 (Tryz.f121.body.getD .skip) [AV.osl (0:Id) 0 0 k,AV.int .i64 a,AV.int .i64 n] [{ver:=0,sz:=2,ty:=(132:TypeId),xs:=xs,frz:=false,pm:=true}]):=by(have h:l6 P0 Ce Tryz.f121 (Tryz.f121.body.getD .skip) [AV.osl (0:Id) 0 0 k,AV.int .i64 a,AV.int .i64 n] [{ver:=0,sz:=2,ty:=(132:TypeId),xs:=xs,frz:=false,pm:=true}]=Ci k a n xs none (λ(p:Bool×(Nat×LA)×(Nat×LA))=>some ((br p.1 ((AV.osl 0 0 0 p.2.1.1,([⟨0,2,132,p.2.1.2,false,true⟩]:List aC))) ((AV.osl 0 1 0 p.2.2.1,([⟨1,2,132,p.2.2.2,false,true⟩]:List aC)))):(AV×List aC))):=by kernel_rfl);rw[h];unfold nW Ci Cb;repeat' (first|refine cU.br ?_ ?_|exact cU.none|exact cU.some rfl)
def xDN:LA->List aC->Option (Bool×AV×List aC):=jl (cT (sEq (cC 0 0 0)) (cT (sEq (pInt .i64)) (cT (sEq (pInt .i64)) iU))) (aZ (fu 0 2 (132:TypeId) false true bB) bO) λ(k,(a,(n,_))) (b,_)=>((nW k a n b).isSome,(AV.osl 0 1 0 (br ((nW k a n b).getD (false,(0,[]),(0,[]))).1 ((nW k a n b).getD (false,(0,[]),(0,[]))).2.1.1 ((nW k a n b).getD (false,(0,[]),(0,[]))).2.2.1),([⟨1,2,132,(br ((nW k a n b).getD (false,(0,[]),(0,[]))).1 ((nW k a n b).getD (false,(0,[]),(0,[]))).2.1.2 ((nW k a n b).getD (false,(0,[]),(0,[]))).2.2.2),false,true⟩]:List aC)))
def xDM:fJ P0 xQa 121 (xDN):=pR λ e f j i g=>by obtain⟨k,⟨b,⟨n,_⟩⟩⟩:=e;obtain⟨h,_⟩:=f;obtain⟨c,a⟩:=Prod.mk.inj g;have hx:=xDO _ _ _ _ _ (nP (d:=(false,(0,[]),(0,[]))) c);revert hx a;generalize ((nW k b n h).getD (false,(0,[]),(0,[])))=p;intro a hx;obtain⟨rfl,rfl⟩:=Prod.mk.inj a;obtain⟨t,⟨l,m⟩,o,q⟩:=p;have hg:bG P0 xQa 121 _ _ _ _:=vB (p:=Ce.pin) (vA xPD (xPE P0 _) rfl xzc rfl Tryz.func121 rfl Θ xvz hx);cases t;exact hg;exact bG.bump1 rfl (by decide) hg
def LI:EO:=Nz.wM xDM
def JW{T:Type}(l a:LA)(i:Int)(δ:T)(κl:(LA×Int)->T)(κr:(LA)->T):T:=br (decide (i<l.length)) (br (bU l i) (br (jh l i 3 [Sh.int .i64,Sh.int .i64] 0) (br (vh (gC l i 0).toInt (gC l i 1).toInt) (br (bU l i) (br (dJ l i (Sh.int .i64) 0) (br ((yj a (gC l i 0).toInt).isSome) (br (bU l i) (br (dJ l i (Sh.int .i64) 1) (br ((yj ((yj a (gC l i 0).toInt).getD []) (gC l i 1).toInt).isSome) (κl ((yj ((yj a (gC l i 0).toInt).getD []) (gC l i 1).toInt).getD [],i64.wrap (i+1))) δ) δ) δ) δ) δ) δ) (κl (a,i64.wrap (i+1)))) δ) δ) (κr (a))
def BP(l:LA):cS (LA×Int) (LA):=λ(a,i)=>JW l a i none inL inR
def JM:=LI.l 82 0 [] [] Tryz.f85 0 lk0 [0,3,4] [0,3] [(3,1,1073741824)] (q3 (qL 3) (qL 1) qI) bO (λ(l,a,i,_) _=>(BP l,(a,i),λ p=>(.leaf (.exit 0) [AV.list 3 l,AV.list 1 p] []))) [] λ(l,_,_,_) _ (a,i)=>(((l,a,i,()),()),JW l a i none)
def JX{T:Type}(l b:LA)(c:Nat)(k n i:Int)(a:LA)(δ:T)(κl:(Int×Int×LA)->T)(κr:(Int×LA)->T):T:=br (decide (i<l.length)) (br (bU l i) (br (jh l i 3 [Sh.int .i64,Sh.int .i64] 0) (br (bU b k) (br (dJ b k (Sh.int .i64) 0) (br (ET (gC l i 0).toInt (gC l i 1).toInt (gC b k 0).toInt) (br (bU l i) (br (dJ l i (Sh.int .i64) 2) (κl (i64.wrap (n+(gC l i 2).toInt),i64.wrap (i+1),a)) δ) δ) (κl (n,i64.wrap (i+1),a))) δ) δ) δ) δ) (κr (n,a))
def BR(l c:LA)(b:Nat)(k:Int):cS (Int×Int×LA) (Int×LA):=λ(n,i,a)=>JX l c b k n i a none inL inR
def JN:=LI.l 82 0 [] [(3,JM.lp)] Tryz.f85 2 lk0 [0,3,5,6,7,8] [0,3,5,6,7] [(5,2,132),(3,1,1073741824)] (q6 (qL 3) (qL 1) (cC 0 0 0) qI qI qI) (q1 (qB 0 2 132 bB)) (λ(l,c,a,k,n,i,_) (b,_)=>(BR l c a k,(n,i,b),λ p=>(.leaf (.exit 4) [AV.list 3 l,AV.list 1 c,AV.osl 0 0 0 a,AV.int .i64 k,AV.int .i64 p.1] [bF 0 2 132 p.2]))) (0,[]) λ(l,c,a,k,_,_,_) _ (n,i,b)=>(((l,c,a,k,n,i,()),(b,())),JX l c a k n i b none)
def EW(l c:LA)(b:Nat)(k:Int)(a:LA):=(aB (BR l c b k) (0,0,a)).getD (0,[])
def EV(l c:LA)(a:Nat)(k:Int)(b:LA):=nW a (gC c k 0).toInt (EW l c a k b).fst (EW l c a k b).snd
def to(l c:LA)(b:Nat)(k:Int)(a:LA):=(EV l c b k a).getD (false,(0,[]),0,[])
def Fh{T:Type}(l c:LA)(b:Nat)(k:Int)(a:LA)(δ:T)(κl:(Nat×Int×LA)->T)(κr:(Nat×LA)->T):T:=br (decide (k<c.length)) (br (bU c k) (br (dJ c k (Sh.int .i64) 0) (br (decide ((gC c k 0).toInt<1099511627776)) (br ((aB (BR l c b k) (0,0,a)).isSome) (br (bU c k) (br (dJ c k (Sh.int .i64) 0) (br ((EV l c b k a).isSome) (κl (br ((to l c b k a).fst) (((to l c b k a).snd).fst).fst (((to l c b k a).snd).snd).fst,i64.wrap (k+1),br ((to l c b k a).fst) (((to l c b k a).snd).fst).snd (((to l c b k a).snd).snd).snd)) δ) δ) δ) δ) (κr (b,a))) δ) δ) (κr (b,a))
def BQ(l c:LA):cS (Nat×Int×LA) (Nat×LA):=λ(b,k,a)=>Fh l c b k a none inL inR
def Z0:=LI.l 82 0 [] [(3,JM.lp),(14,JN.lp)] Tryz.f85 1 (fc JN.ok) [0,3,5,6] [5] [(5,2,132),(3,1,1073741824)] (q4 (qL 3) (qL 1) (cC 0 0 0) qI) (q1 (qB 0 2 132 bB)) (λ(l,c,b,k,_) (a,_)=>(BQ l c,(b,k,a),λ p=>(.leaf (.exit 2) [AV.osl 0 0 0 p.1] [bF 0 2 132 p.2]))) (0,[]) λ(l,c,_,_,_) _ (b,k,a)=>(((l,c,b,k,()),(a,())),Fh l c b k a none)
def Q8(l:LA):=aB (BQ l ((aB (BP l) ([AV.int .i64 0],0)).getD [])) (0,0,[])
def FJ(l:LA):=(Q8 l).getD (0,[])
def Sd{T:Type}(l:LA)(δ:T)(κ:LA->T):T:=br ((aB (BP l) ([AV.int .i64 0],0)).isSome) (br ((Q8 l).isSome) (br (decide (0+((FJ l).fst)<=((FJ l).snd).length)&&true) (κ (List.take ((FJ l).fst) (List.drop 0 ((FJ l).snd)))) δ) δ) δ
def S6(l:LA):=Sd l none some
def Xa:EO:=LI.f Tryz.func85 82 0 [] [(3,JM.lp),(14,JN.lp),(10,Z0.lp)] (l7 (fe JM.ok (fe Z0.ok (fe JN.ok kr)))) (u1 (uL 3)) (λ(l,_) _=>Sd l) (λ _ p=>AV.list 2 p) []
def IA{T:Type}(l c:LA)(b:Nat)(i:Int)(a:LA)(δ:T)(κl:(Nat×Int×LA)->T)(κr:(Nat×LA)->T):T:=br (decide (i<l.length)) (br (bU l i) (br (dJ l i (Sh.list 3) 0) (br ((ni (gC l i 0).toList c).isSome) (br ((ni (gC l i 0).toList c).getD 0==0) (br (bU l i) (br (jh l i 3 [Sh.int .i64,Sh.int .i64] 1) (br (gz b a 1 24) (κl (b+1,i64.wrap (i+1),a++[AV.agg [AV.int .i64 (gC l i 1).toInt,AV.int .i64 (gC l i 2).toInt,AV.int .i64 1]])) δ) δ) δ) (κl (b,i64.wrap (i+1),a))) δ) δ) δ) (κr (b,a))
def Bc(l b:LA):cS (Nat×Int×LA) (Nat×LA):=λ(c,i,a)=>IA l b c i a none inL inR
def Zk:=Xa.l 32 0 [] [] Tryz.f50 0 lk0 [0,1,5,6] [5] [(5,3,100)] (q4 (qL 3) (qL 3) (cC 0 0 0) qI) (q1 (qB 0 3 100 bB)) (λ(l,b,c,i,_) (a,_)=>(Bc l b,(c,i,a),λ p=>(.leaf (.exit 0) [AV.osl 0 0 0 p.1] [bF 0 3 100 p.2]))) (0,[]) λ(l,b,_,_,_) _ (c,i,a)=>(((l,b,c,i,()),(a,())),IA l b c i a none)
def ER(l a:LA):=(aB (Bc l a) (0,0,[])).getD (0,[])
def Qk(l a:LA):=S6 (List.take ((ER l a).fst) (List.drop 0 ((ER l a).snd)))
def Qh{T:Type}(l a:LA)(δ:T)(κ:LA->T):T:=br ((aB (Bc l a) (0,0,[])).isSome) (br (decide (0+((ER l a).fst)<=((ER l a).snd).length)&&true) (br ((Qk l a).isSome) (κ ((Qk l a).getD [])) δ) δ) δ
def J7(l a:LA):=Qh l a none some
def LJ:EO:=Xa.f Tryz.func50 32 0 [] [(3,Zk.lp)] (fc Zk.ok) (u2 (uL 3) (uL 3)) (λ(l,a,_) _=>Qh l a) (λ _ p=>AV.list 2 p) []
def EA{T:Type}(a:LA)(c:Nat)(i k:Int)(b:LA)(δ:T)(κl:(Int×LA)->T)(κr:(Int×LA)->T):T:=br (decide (k<a.length)) (br (bU a k) (br (dJ a k (Sh.list 3) 0) (br (bU a i) (br (dJ a i (Sh.list 3) 0) (br ((ni (gC a k 0).toList (gC a i 0).toList).isSome) (br ((ni (gC a k 0).toList (gC a i 0).toList).getD 0==0) (κl (i64.wrap (k+1),b)) (κr (k,b))) δ) δ) δ) δ) δ) (κr (k,b))
def uG(c:LA)(b:Nat)(i:Int):cS (Int×LA) (Int×LA):=λ(k,a)=>EA c b i k a none inL inR
def Em:=LJ.l 66 0 [] [] Tryz.f74 1 lk0 [3,4,5,6] [3,4,5,6] [(4,2,85)] (q4 (qL 3) (cC 0 0 0) qI qI) (q1 (qB 0 2 85 bB)) (λ(c,a,i,k,_) (b,_)=>(uG c a i,(k,b),λ p=>(.leaf (.exit 2) [AV.list 3 c,AV.osl 0 0 0 a,AV.int .i64 i,AV.int .i64 p.1] [bF 0 2 85 p.2]))) (0,[]) λ(c,a,i,_,_) _ (k,b)=>(((c,a,i,k,()),(b,())),EA c a i k b none)
def EB{T:Type}(d:LA)(i k:Int)(a:LA)(c:Nat)(n:Int)(b:LA)(δ:T)(κl:(Nat×Int×LA)->T)(κr:(Nat×LA)->T):T:=br (decide (n<a.length)) (br (bU a n) (br (dJ a n (Sh.list 3) 0) (br (decide (0<=k)&&decide (k<=d.length)&&(decide (0<=i)&&decide (i<=(↑k.toNat:Int)))) (br (bU a n) (br (dJ a n (Sh.list 3) 0) (br ((J7 (List.take (k.toNat - i.toNat) (List.drop i.toNat d)) (gC a n 0).toList).isSome) (br (gz c b 1 48) (κl (c+1,i64.wrap (n+1),b++[AV.agg [AV.list 3 (gC a n 0).toList,AV.list 2 ((J7 (List.take (k.toNat - i.toNat) (List.drop i.toNat d)) (gC a n 0).toList).getD [])]])) δ) δ) δ) δ) δ) δ) δ) (κr (c,b))
def Be(d:LA)(i k:Int)(c:LA):cS (Nat×Int×LA) (Nat×LA):=λ(b,n,a)=>EB d i k c b n a none inL inR
def Iq:=LJ.l 66 0 [] [(6,Em.lp)] Tryz.f74 2 lk0 [3,4,5,6,7,8] [3,4,6] [(4,2,85)] (q6 (qL 3) (cC 0 0 0) qI qI (qL 1) qI) (q1 (qB 0 2 85 bB)) (λ(d,b,i,k,c,n,_) (a,_)=>(Be d i k c,(b,n,a),λ p=>(.leaf (.exit 4) [AV.list 3 d,AV.osl 0 0 0 p.1,AV.int .i64 k] [bF 0 2 85 p.2]))) (0,[]) λ(d,_,i,k,c,_,_) _ (b,n,a)=>(((d,b,i,k,c,n,()),(a,())),EB d i k c b n a none)
def uD(c:LA)(b:Nat)(i:Int)(a:LA):=((aB (uG c b i) (i,a)).getD (0,[])).fst
def Ig(c:LA)(a:Nat)(i:Int)(b:LA):=aB (Be c i (uD c a i b) ((KI (List.take ((uD c a i b).toNat - i.toNat) (List.drop i.toNat c))).getD [])) (a,0,((aB (uG c a i) (i,b)).getD (0,[])).snd)
def IC{T:Type}(c:LA)(b:Nat)(i:Int)(a:LA)(δ:T)(κl:(Nat×Int×LA)->T)(κr:(Nat×LA)->T):T:=br (decide (i<c.length)) (br ((aB (uG c b i) (i,a)).isSome) (br (decide (0<=uD c b i a)&&decide (uD c b i a<=c.length)&&(decide (0<=i)&&decide (i<=(↑(uD c b i a).toNat:Int)))) (br ((KI (List.take ((uD c b i a).toNat - i.toNat) (List.drop i.toNat c))).isSome) (br ((Ig c b i a).isSome) (κl (((Ig c b i a).getD (0,[])).fst,uD c b i a,((Ig c b i a).getD (0,[])).snd)) δ) δ) δ) δ) (κr (b,a))
def Bd(c:LA):cS (Nat×Int×LA) (Nat×LA):=λ(b,i,a)=>IC c b i a none inL inR
def Zm:=LJ.l 66 0 [] [(6,Em.lp),(10,Iq.lp)] Tryz.f74 0 (l7 (fe Em.ok (fe Iq.ok kr))) [3,4,5] [4] [(4,2,85)] (q3 (qL 3) (cC 0 0 0) qI) (q1 (qB 0 2 85 bB)) (λ(c,b,i,_) (a,_)=>(Bd c,(b,i,a),λ p=>(.leaf (.exit 0) [AV.osl 0 0 0 p.1] [bF 0 2 85 p.2]))) (0,[]) λ(c,_,_,_) _ (b,i,a)=>(((c,b,i,()),(a,())),IC c b i a none)
def Ql(l:LA):=aB (Bd ((qU 100 l).getD [])) (0,0,[])
def EF(l:LA):=(Ql l).getD (0,[])
def Qj{T:Type}(l:LA)(δ:T)(κ:LA->T):T:=br ((qU 100 l).isSome) (br ((Ql l).isSome) (br (decide (0+((EF l).fst)<=((EF l).snd).length)&&true) (κ (List.take ((EF l).fst) (List.drop 0 ((EF l).snd)))) δ) δ) δ
def FA(l:LA):=Qj l none some
def Xb:EO:=LJ.f Tryz.func74 66 0 [] [(6,Em.lp),(10,Iq.lp),(4,Zm.lp)] (l7 (fe Zm.ok (fe Em.ok (fe Iq.ok kr)))) (u1 (uL 3)) (λ(l,_) _=>Qj l) (λ _ p=>AV.list 2 p) []
def AO(l:LA)(n i:Int):=decide ((gC l i 1).toInt>=n)
def rJ(l:LA)(b:Nat)(i:Int)(a:LA):=(nj b (gC l i 0).toInt 1099511627776 a).getD (false,(0,[],[]),0,[])
def AD(l:LA)(b:Nat)(i:Int)(a:LA):=nj b (gC l i 0).toInt ((l.getD (i64.wrap (i+1)).toNat .top).cells.getD 0 .top).toInt a
def AE(l:LA)(i:Int):=decide (i64.wrap (i+1)<(↑l.length:Int))
def rK(l:LA)(b:Nat)(i:Int)(a:LA):=(AD l b i a).getD (false,(0,[],[]),0,[])
def xL{T:Type}(l:LA)(n:Int)(b:Nat)(i:Int)(a:LA)(δ:T)(κl:(Nat×Int×LA)->T)(κr:(Nat×LA)->T):T:=br (decide (i<l.length)) (br (AE l i) (br (decide (0<=i64.wrap (i+1))&&AE l i) (br (decide ((i64.wrap (i+1)).toNat<l.length)&&dw (Sh.int .i64) ((l.getD (i64.wrap (i+1)).toNat .top).cells.getD 0 .top)) (br (bU l i) (br (dJ l i (Sh.int .i64) 1) (br (AO l n i) (br (bU l i) (br (dJ l i (Sh.int .i64) 0) (br ((AD l b i a).isSome) (κl (br ((rK l b i a).fst) (((rK l b i a).snd).fst).fst (((rK l b i a).snd).snd).fst,i64.wrap (i+1),br ((rK l b i a).fst) (((rK l b i a).snd).fst).snd.snd (((rK l b i a).snd).snd).snd)) δ) δ) δ) (κl (b,i64.wrap (i+1),a))) δ) δ) δ) δ) (br (bU l i) (br (dJ l i (Sh.int .i64) 1) (br (AO l n i) (br (bU l i) (br (dJ l i (Sh.int .i64) 0) (br ((nj b (gC l i 0).toInt 1099511627776 a).isSome) (κl (br ((rJ l b i a).fst) (((rJ l b i a).snd).fst).fst (((rJ l b i a).snd).snd).fst,i64.wrap (i+1),br ((rJ l b i a).fst) (((rJ l b i a).snd).fst).snd.snd (((rJ l b i a).snd).snd).snd)) δ) δ) δ) (κl (b,i64.wrap (i+1),a))) δ) δ)) (κr (b,a))
def rG(l:LA)(n:Int):cS (Nat×Int×LA) (Nat×LA):=λ(b,i,a)=>xL l n b i a none inL inR
def Ze:=Xb.l 42 0 [] [] Tryz.f86 0 lk0 [0,1,5,6] [5] [(5,2,52)] (q4 (qL 2) qI (cC 0 0 0) qI) (q1 (qB 0 2 52 bB)) (λ(l,n,b,i,_) (a,_)=>(rG l n,(b,i,a),λ p=>(.leaf (.exit 0) [AV.osl 0 0 0 p.1] [bF 0 2 52 p.2]))) (0,[]) λ(l,n,_,_,_) _ (b,i,a)=>(((l,n,b,i,()),(a,())),xL l n b i a none)
def Ep(l:LA)(n:Int):=(aB (rG l n) (0,0,[])).getD (0,[])
def PI{T:Type}(l:LA)(n:Int)(δ:T)(κ:LA->T):T:=br ((aB (rG l n) (0,0,[])).isSome) (br (decide (0+((Ep l n).fst)<=((Ep l n).snd).length)&&true) (κ (List.take ((Ep l n).fst) (List.drop 0 ((Ep l n).snd)))) δ) δ
def uY(l:LA)(n:Int):=PI l n none some
def Xc:EO:=Xb.f Tryz.func86 42 0 [] [(3,Ze.lp)] (fc Ze.ok) (u2 (uL 2) uI) (λ(l,n,_) _=>PI l n) (λ _ p=>AV.list 2 p) []
def Ix(l:LA)(i:Int):=decide (i.toNat<l.length)&&((l.getD i.toNat .top).cells.length==2&&ew [Sh.int .i64,Sh.int .i64] (l.getD i.toNat .top).cells 0)
def Er{T:Type}(l:LA)(b:Nat)(i c d:Int)(a:LA)(δ:T)(κl:(Nat×Int×Int×Int×LA)->T)(κr:(Nat×Int×Int×Int×LA)->T):T:=br (decide (i<l.length)) (br (bU l i) (br (Ix l i) (br (decide (J5 (gC l i 0).toInt (gC l i 1).toInt c d<=0)) (br (bU l i) (br (Ix l i) (br (gz b a 1 16) (κl (b+1,i64.wrap (i+1),c,d,a++[AV.agg [AV.int .i64 (gC l i 0).toInt,AV.int .i64 (gC l i 1).toInt]])) δ) δ) δ) (κr (b,i,c,d,a))) δ) δ) (κr (b,i,c,d,a))
def xP(l:LA):cS (Nat×Int×Int×Int×LA) (Nat×Int×Int×Int×LA):=λ(b,i,c,d,a)=>Er l b i c d a none inL inR
def Zj:=Xc.l 38 0 [] [] Tryz.f87 0 lk0 [0,3,5,6] [0,3,5,6] [(5,2,52)] (q4 (qL 2) (dL 0 0 0 0) (cC 1 0 0) qI) (q2 (qB 0 2 52 (q1 (iE (q2 qI qI)))) (qB 0 2 52 bB)) (λ(l,_,b,i,_) (((c,d,_),_),a,_)=>(xP l,(b,i,c,d,a),λ p=>(.leaf (.exit 0) [AV.list 2 l,AV.own 0 0 0 0,AV.osl 1 0 0 p.1,AV.int .i64 p.2.1] [bF 0 2 52 [AV.agg [AV.int .i64 p.2.2.1,AV.int .i64 p.2.2.2.1]],bF 0 2 52 p.2.2.2.2]))) (0,0,0,0,[]) λ(l,_,_,_,_) _ (b,i,c,d,a)=>(((l,(),b,i,()),(((c,d,()),()),a,())),Er l b i c d a none)
def PJ(l:LA)(a b:Int):=aB (xP l) (0,0,a,b,[])
def qP(l:LA)(a b:Int):=(PJ l a b).getD (0,0,0,0,[])
def EY(l:LA)(a b:Int):=((qP l a b).fst)+1
def Qb(l:LA)(a b:Int):=List.take (l.length - (((qP l a b).snd).fst).toNat) (List.drop (((qP l a b).snd).fst).toNat l)
def EX(l:LA)(a b:Int):=EY l a b+(Qb l a b).length
def Qa(l:LA)(a b:Int):=(((((qP l a b).snd).snd).snd).snd)++[AV.agg [AV.int .i64 (((qP l a b).snd).snd).fst,AV.int .i64 ((((qP l a b).snd).snd).snd).fst]]
def P9(l:LA)(a b:Int):=Qa l a b++Qb l a b
def QL{T:Type}(l:LA)(a b:Int)(δ:T)(κ:LA->T):T:=br ((PJ l a b).isSome) (br (((qP l a b).fst)==(((((qP l a b).snd).snd).snd).snd).length&&(decide (EY l a b*16<=140737488355328)&&decide (EY l a b<=4611686018427387904))) (br (decide (0<=(((qP l a b).snd).fst))&&decide ((((qP l a b).snd).fst)<=(↑l.length:Int))) (br (EY l a b==(Qa l a b).length&&(decide (EX l a b*16<=140737488355328)&&decide (EX l a b<=4611686018427387904))) (br (decide (0+EX l a b<=(P9 l a b).length)&&true) (κ (List.take (EX l a b) (List.drop 0 (P9 l a b)))) δ) δ) δ) δ) δ
def Ko(l:LA)(a b:Int):=QL l a b none some
def NA:EO:=Xc.f Tryz.func87 38 0 [] [(3,Zj.lp)] (fc Zj.ok) (u2 (uL 2) (fP (u2 uI uI))) (λ(l,(a,b,_),_) _=>QL l a b) (λ _ p=>AV.list 2 p) []
def Iw{T:Type}(l:LA)(n:Int)(a b:LA)(i:Int)(δ:T)(κl:(LA×Int)->T)(κr:(LA)->T):T:=br (decide (i<a.length)) (br (bU a i) (br (jh a i 2 [Sh.int .i64,Sh.int .i64] 0) (br ((Ko b (gC a i 0).toInt (gC a i 1).toInt).isSome) (κl ((Ko b (gC a i 0).toInt (gC a i 1).toInt).getD [],i64.wrap (i+1))) δ) δ) δ) (κr (b))
def xF(l:LA)(n:Int)(b:LA):cS (LA×Int) (LA):=λ(a,i)=>Iw l n b a i none inL inR
def Ia:=NA.l 31 0 [] [] Tryz.f52 1 lk0 [0,3,4,5,6] [0,3,4] [(3,2,1073741824)] (q5 (qL 2) (qL 2) qI (qL 2) qI) bO (λ(l,a,n,b,i,_) _=>(xF l n b,(a,i),λ p=>(.leaf (.exit 2) [AV.list 2 l,AV.list 2 p,AV.int .i64 n] []))) [] λ(l,_,n,b,_,_) _ (a,i)=>(((l,a,n,b,i,()),()),Iw l n b a i none)
def Iv{T:Type}(l a:LA)(n:Int)(δ:T)(κl:(LA×Int)->T)(κr:(Bool×(LA×LA)×(LA))->T):T:=br (decide (n<=1048576)) (br ((uY l n).isSome) (br ((↑((uY l n).getD []).length:Int)==0) (κr (true,(a,a),[])) (br ((aB (xF l n ((uY l n).getD [])) (a,0)).isSome) (κl ((aB (xF l n ((uY l n).getD [])) (a,0)).getD [],i64.wrap (n+1))) δ)) δ) (κr (false,([],[]),(a)))
def xE(l:LA):cS (LA×Int) (Bool×(LA×LA)×(LA)):=λ(a,n)=>Iv l a n none inL inR
def Zv:=NA.l 31 0 [] [(9,Ia.lp)] Tryz.f52 0 (fc Ia.ok) [0,3,4] [2,3] [(3,2,1073741824)] (q3 (qL 2) (qL 2) qI) bO (λ(l,a,n,_) _=>(xE l,(a,n),λ p=>(.node p.1 (.leaf .ret [AV.list 2 p.2.1.1,AV.list 2 p.2.1.2] []) (.leaf (.exit 0) [.top,AV.list 2 p.2.2] [])))) (false,([],[]),[]) λ(l,_,_,_) _ (a,n)=>(((l,a,n,()),()),Iv l a n none)
def Jt(l:LA):=(aB (xE l) ([],1)).getD (false,([],[]),[])
def P8{T:Type}(l:LA)(δ:T)(κ:LA->T):T:=br ((aB (xE l) ([],1)).isSome) (br ((Jt l).fst) (κ (((Jt l).snd).fst.fst)) (κ (((Jt l).snd).snd))) δ
def tB(l:LA):=P8 l none some
def Xd:EO:=NA.f Tryz.func52 31 0 [] [(9,Ia.lp),(3,Zv.lp)] (l7 (fe Zv.ok (fe Ia.ok kr))) (u1 (uL 2)) (λ(l,_) _=>P8 l) (λ _ p=>AV.list 2 p) []
def IB{T:Type}(d c:LA)(b:Nat)(i:Int)(a:LA)(δ:T)(κl:(Nat×Int×LA)->T)(κr:(Nat×LA)->T):T:=br (decide (i<c.length)) (br (bU c i) (br (jh c i 2 [Sh.int .i64,Sh.int .i64] 0) (br (gz b a 1 40) (κl (b+1,i64.wrap (i+1),a++[AV.agg [AV.list 3 d,AV.int .i64 (gC c i 0).toInt,AV.int .i64 (gC c i 1).toInt]])) δ) δ) δ) (κr (b,a))
def xu(c d:LA):cS (Nat×Int×LA) (Nat×LA):=λ(b,i,a)=>IB c d b i a none inL inR
def Zl:=Xd.l 23 0 [] [] Tryz.f51 0 lk0 [0,1,5,6] [5] [(5,3,54)] (q4 (qL 3) (qL 2) (cC 0 0 0) qI) (q1 (qB 0 3 54 bB)) (λ(c,d,b,i,_) (a,_)=>(xu c d,(b,i,a),λ p=>(.leaf (.exit 0) [AV.osl 0 0 0 p.1] [bF 0 3 54 p.2]))) (0,[]) λ(c,d,_,_,_) _ (b,i,a)=>(((c,d,b,i,()),(a,())),IB c d b i a none)
def ES(a b:LA):=(aB (xu a b) (0,0,[])).getD (0,[])
def Qi{T:Type}(a b:LA)(δ:T)(κ:LA->T):T:=br ((aB (xu a b) (0,0,[])).isSome) (br (decide (0+((ES a b).fst)<=((ES a b).snd).length)&&true) (κ (List.take ((ES a b).fst) (List.drop 0 ((ES a b).snd)))) δ) δ
def Fz(a b:LA):=Qi a b none some
def Xe:EO:=Xd.f Tryz.func51 23 0 [] [(3,Zl.lp)] (fc Zl.ok) (u2 (uL 3) (uL 2)) (λ(a,b,_) _=>Qi a b) (λ _ p=>AV.list 3 p) []
def Jy(g:LA)(a:Nat)(i:Int):=a+((Fz (gC g i 0).toList ((tB (gC g i 1).toList).getD [])).getD []).length
def JQ{T:Type}(g:LA)(a:Nat)(i:Int)(b:LA)(δ:T)(κl:(Nat×Int×LA)->T)(κr:(Nat×LA)->T):T:=br (decide (i<g.length)) (br (bU g i) (br (dJ g i (Sh.list 3) 0) (br (bU g i) (br (dJ g i (Sh.list 2) 1) (br ((tB (gC g i 1).toList).isSome) (br ((Fz (gC g i 0).toList ((tB (gC g i 1).toList).getD [])).isSome) (br (a==b.length&&(decide (Jy g a i*40<=140737488355328)&&decide (Jy g a i<=4611686018427387904))) (κl (Jy g a i,i64.wrap (i+1),b++(Fz (gC g i 0).toList ((tB (gC g i 1).toList).getD [])).getD [])) δ) δ) δ) δ) δ) δ) δ) (κr (a,b))
def Bp(g:LA):cS (Nat×Int×LA) (Nat×LA):=λ(b,i,a)=>JQ g b i a none inL inR
def ZU:=Xe.l 29 0 [] [] Tryz.f36 0 lk0 [3,4,5] [4] [(4,3,54)] (q3 (qL 2) (cC 0 0 0) qI) (q1 (qB 0 3 54 bB)) (λ(g,b,i,_) (a,_)=>(Bp g,(b,i,a),λ p=>(.leaf (.exit 0) [AV.osl 0 0 0 p.1] [bF 0 3 54 p.2]))) (0,[]) λ(g,_,_,_) _ (b,i,a)=>(((g,b,i,()),(a,())),JQ g b i a none)
def Fy(l:LA):=(aB (Bp ((FA l).getD [])) (0,0,[])).getD (0,[])
def RS{T:Type}(l:LA)(δ:T)(κ:LA->T):T:=br ((FA l).isSome) (br ((aB (Bp ((FA l).getD [])) (0,0,[])).isSome) (br (decide (0+((Fy l).fst)<=((Fy l).snd).length)&&true) (κ (List.take ((Fy l).fst) (List.drop 0 ((Fy l).snd)))) δ) δ) δ
def Gd(l:LA):=RS l none some
def xLD:EO:=Xe.f Tryz.func36 29 0 [] [(4,ZU.lp)] (fc ZU.ok) (u1 (uL 3)) (λ(l,_) _=>RS l) (λ _ p=>AV.list 3 p) []
def O1{T:Type}(l:LA)(δ:T)(κ:Bool->T):T:=br ((Gd l).isSome) (br ((qQ l ((Gd l).getD [])).isSome) (κ ((qQ l ((Gd l).getD [])).getD false)) δ) δ
def rN(l:LA):=O1 l none some
def WK:EO:=xLD.f Tryz.func26 7 0 [] [] lk0 (u1 (uL 3)) (λ(l,_) _=>O1 l) (λ _ p=>AV.bool p) false
def JY{T:Type}(l:LA)(t:Int)(b:Nat)(i:Int)(a:LA)(δ:T)(κl:(Nat×Int×LA)->T)(κr:(Nat×LA)->T):T:=br (decide (i<l.length)) (br (bU l i) (br (jh l i 3 [Sh.int .i64,Sh.int .i64] 1) (br (ET (gC l i 1).toInt (gC l i 2).toInt t) (br (bU l i) (br (dJ l i (Sh.list 3) 0) (br (gz b a 1 24) (κl (b+1,i64.wrap (i+1),a++[AV.list 3 (gC l i 0).toList])) δ) δ) δ) (κl (b,i64.wrap (i+1),a))) δ) δ) (κr (b,a))
def BT(l:LA)(t:Int):cS (Nat×Int×LA) (Nat×LA):=λ(b,i,a)=>JY l t b i a none inL inR
def Z4:=WK.l 30 0 [] [] Tryz.f33 0 lk0 [0,1,5,6] [5] [(5,1,47)] (q4 (qL 3) qI (cC 0 0 0) qI) (q1 (qB 0 1 47 bB)) (λ(l,t,b,i,_) (a,_)=>(BT l t,(b,i,a),λ p=>(.leaf (.exit 0) [AV.osl 0 0 0 p.1] [bF 0 1 47 p.2]))) (0,[]) λ(l,t,_,_,_) _ (b,i,a)=>(((l,t,b,i,()),(a,())),JY l t b i a none)
def FK(l:LA)(t:Int):=(aB (BT l t) (0,0,[])).getD (0,[])
def RR(l:LA)(t:Int):=rY (List.take ((FK l t).fst) (List.drop 0 ((FK l t).snd)))
def Sf{T:Type}(l:LA)(t:Int)(δ:T)(κ:LA->T):T:=br ((aB (BT l t) (0,0,[])).isSome) (br (decide (0+((FK l t).fst)<=((FK l t).snd).length)&&true) (br ((RR l t).isSome) (κ ((RR l t).getD [])) δ) δ) δ
def Lc(l:LA)(t:Int):=Sf l t none some
def WL:EO:=WK.f Tryz.func33 30 0 [] [(3,Z4.lp)] (fc Z4.ok) (u2 (uL 3) uI) (λ(l,t,_) _=>Sf l t) (λ _ p=>AV.list 1 p) []
def Ij{T:Type}(a b:LA)(i:Int)(δ:T)(κl:(Int)->T)(κr:(Bool×(Bool)×(Unit))->T):T:=br (decide (i<a.length)) (br (bU a i) (br (dJ a i (Sh.list 3) 0) (br (bU b i) (br (dJ b i (Sh.list 3) 0) (br ((vj (gC a i 0).toList (gC b i 0).toList).isSome) (br (!(vj (gC a i 0).toList (gC b i 0).toList).getD false) (κr (true,(false),())) (κl (i64.wrap (i+1)))) δ) δ) δ) δ) δ) (κr (false,false,()))
def xI(a b:LA):cS (Int) (Bool×(Bool)×(Unit)):=λ(i)=>Ij a b i none inL inR
def YZ:=WL.l 27 0 [] [] Tryz.f32 0 lk0 [0,1,5] [4] [] (q3 (qL 1) (qL 1) qI) bO (λ(a,b,i,_) _=>(xI a b,(i),λ p=>(.node p.1 (.leaf .ret [AV.bool p.2.1] []) (.leaf (.exit 0) [.top] [])))) (false,false,()) λ(a,b,_,_) _ (i)=>(((a,b,i,()),()),Ij a b i none)
def PH{T:Type}(a b:LA)(δ:T)(κ:Bool->T):T:=br ((↑a.length:Int) !=(↑b.length:Int)) (κ (false)) (br ((aB (xI a b) 0).isSome) (br (((aB (xI a b) 0).getD (false,false,())).fst) (κ (((aB (xI a b) 0).getD (false,false,())).snd.fst)) (κ (true))) δ)
def JP(a b:LA):=PH a b none some
def xLE:EO:=WL.f Tryz.func32 27 0 [] [(4,YZ.lp)] (fc YZ.ok) (u2 (uL 1) (uL 1)) (λ(a,b,_) _=>PH a b) (λ _ p=>AV.bool p) false
def Pg{T:Type}(b a:LA)(t:Int)(δ:T)(κ:LA×LA->T):T:=br ((Lc a t).isSome) (κ (b,(Lc a t).getD [])) δ
def mS(a b:LA)(t:Int):=Pg a b t none some
def Wh:EO:=xLE.f Tryz.func25 12 0 [] [] lk0 (u2 (fP (u2 (uL 1) (uL 3))) uI) (λ((a,b,_),t,_) _=>Pg a b t) (λ _ p=>AV.agg [AV.list 1 p.1,AV.list 1 p.2]) ([],[])
def AF{T:Type}(a:List UInt8)(i:Int)(δ:T)(κl:(Int)->T)(κr:(Bool×(Bool)×(Unit))->T):T:=br (decide (i<a.length)) (br (decide (0<=i)&&decide (i<a.length)) (br (decide ((↑(a.getD i.toNat (0:UInt8)).toNat:Int)<32)) (κr (true,(false),())) (br (decide (0<=i)&&decide (i<a.length)) (br (decide ((↑(a.getD i.toNat (0:UInt8)).toNat:Int)>126)) (κr (true,(false),())) (κl (i64.wrap (i+1)))) δ)) δ) (κr (false,false,()))
def rC(a:List UInt8):cS (Int) (Bool×(Bool)×(Unit)):=λ(i)=>AF a i none inL inR
def Y5:=Wh.l 20 0 [] [] Tryz.f145 0 lk0 [0,3] [2] [] (q2 pStr qI) bO (λ(a,i,_) _=>(rC a,(i),λ p=>(.node p.1 (.leaf .ret [AV.bool p.2.1] []) (.leaf (.exit 0) [.top] [])))) (false,false,()) λ(a,_,_) _ (i)=>(((a,i,()),()),AF a i none)
def OX{T:Type}(a:List UInt8)(δ:T)(κ:Bool->T):T:=br ((aB (rC a) 0).isSome) (br (((aB (rC a) 0).getD (false,false,())).fst) (κ (((aB (rC a) 0).getD (false,false,())).snd.fst)) (κ (true))) δ
def Ju(a:List UInt8):=OX a none some
def xLL:EO:=Wh.f Tryz.func145 20 0 [] [(2,Y5.lp)] (fc Y5.ok) (u1 (sEq pStr)) (λ(a,_) _=>OX a) (λ _ p=>AV.bool p) false
def QM{T:Type}(c a:Int)(b:List UInt8)(δ:T)(κ:Bool->T):T:=br (c==0) (br (a==0) (κ (b==[])) (κ (false))) (br (c==1) (br (b==[]) (br (decide (a>=(-1125899906842624))) (κ (decide (a<=1125899906842624))) (κ (false))) (κ (false))) (br (c==2) (br (a==0) (br (decide ((↑b.length:Int)<=200)) (br ((Ju b).isSome) (κ ((Ju b).getD false)) δ) (κ (false))) (κ (false))) (br (c==3) (br (b==[]) (br (a==0) (κ (true)) (κ (a==1))) (κ (false))) (κ (false)))))
def Q9(a b:Int)(c:List UInt8):=QM a b c none some
def WN:EO:=xLL.f Tryz.func127 61 0 [] [] lk0 (u1 (fP (u3 uI uI (sEq pStr)))) (λ((a,b,c,_),_) _=>QM a b c) (λ _ p=>AV.bool p) false
def BS(a:LA)(i:Int):=Q9 (gC a i 0).toInt (gC a i 1).toInt (gC a i 2).toStr
def yh{T:Type}(a b:LA)(i:Int)(δ:T)(κl:(Int)->T)(κr:(Bool×(Bool)×(Unit))->T):T:=br (decide (i<a.length)) (br (bU a i) (br (jh a i 3 [Sh.int .i64,Sh.int .i64,Sh.str] 0) (br ((BS a i).isSome) (br (!(BS a i).getD false) (κr (true,(false),())) (br (bU a i) (br (dJ a i (Sh.int .i64) 0) (br ((gC a i 0).toInt !=0) (br (bU a i) (br (dJ a i (Sh.int .i64) 0) (br (bU b i) (br (dJ b i (Sh.int .i64) 0) (br ((gC a i 0).toInt !=(gC b i 0).toInt) (κr (true,(false),())) (κl (i64.wrap (i+1)))) δ) δ) δ) δ) (κl (i64.wrap (i+1)))) δ) δ)) δ) δ) δ) (κr (false,false,()))
def qR(b a:LA):cS (Int) (Bool×(Bool)×(Unit)):=λ(i)=>yh b a i none inL inR
def ZC:=WN.l 43 0 [] [] Tryz.f90 0 lk0 [0,1,5] [4] [] (q3 (qL 3) (qL 1) qI) bO (λ(b,a,i,_) _=>(qR b a,(i),λ p=>(.node p.1 (.leaf .ret [AV.bool p.2.1] []) (.leaf (.exit 0) [.top] [])))) (false,false,()) λ(b,a,_,_) _ (i)=>(((b,a,i,()),()),yh b a i none)
def Rg{T:Type}(b a:LA)(δ:T)(κ:Bool->T):T:=br ((↑b.length:Int) !=(↑a.length:Int)) (κ (false)) (br ((aB (qR b a) 0).isSome) (br (((aB (qR b a) 0).getD (false,false,())).fst) (κ (((aB (qR b a) 0).getD (false,false,())).snd.fst)) (κ (true))) δ)
def KH(b a:LA):=Rg b a none some
def xLM:EO:=WN.f Tryz.func90 43 0 [] [(4,ZC.lp)] (fc ZC.ok) (u2 (uL 3) (uL 1)) (λ(b,a,_) _=>Rg b a) (λ _ p=>AV.bool p) false
def Se(k:Int):Bool:=(br (k==1) ((true)) (br (k==2) ((true)) ((k==3))))
def xCX{T:Type}(k:Int)(δ:T)(κ:Bool->T):T:=br (k==1) (κ (true)) (br (k==2) (κ (true)) (κ (k==3)))
def WO:EO:=xLM.fT Tryz.func128 13 0 [] [] lk0 (λ(k,_)=>xCX k none) (u1 uI) (λ(k,_)=>Se k) (λ _ p=>(AV.bool p))
def Es{T:Type}(l:LA)(i:Int)(δ:T)(κl:(Int)->T)(κr:(Bool×(Bool)×(Unit))->T):T:=br (decide (i<l.length)) (br (bU l i) (br (dJ l i (Sh.int .i64) 0) (br (!Se (gC l i 0).toInt) (κr (true,(false),())) (κl (i64.wrap (i+1)))) δ) δ) (κr (false,false,()))
def sW(l:LA):cS (Int) (Bool×(Bool)×(Unit)):=λ(i)=>Es l i none inL inR
def ZE:=WO.l 16 0 [] [] Tryz.f91 0 lk0 [0,3] [2] [] (q2 (qL 1) qI) bO (λ(l,i,_) _=>(sW l,(i),λ p=>(.node p.1 (.leaf .ret [AV.bool p.2.1] []) (.leaf (.exit 0) [.top] [])))) (false,false,()) λ(l,_,_) _ (i)=>(((l,i,()),()),Es l i none)
def QO{T:Type}(l:LA)(δ:T)(κ:Bool->T):T:=br ((aB (sW l) 0).isSome) (br (((aB (sW l) 0).getD (false,false,())).fst) (κ (((aB (sW l) 0).getD (false,false,())).snd.fst)) (κ (true))) δ
def Kp(l:LA):=QO l none some
def WP:EO:=WO.f Tryz.func91 16 0 [] [(2,ZE.lp)] (fc ZE.ok) (u1 (uL 1)) (λ(l,_) _=>QO l) (λ _ p=>AV.bool p) false
def BV{T:Type}(i:Int)(b a:LA)(δ:T)(κl:(Int×LA×LA)->T)(κr:(Bool×(Bool×LA×LA)×(LA×LA))->T):T:=br (decide (i<a.length)) (br (bU a i) (br (jh a i 3 [Sh.int .i64,Sh.int .i64] 1) (br (!vh (gC a i 1).toInt (gC a i 2).toInt) (κr (true,(false,b,a),([],[]))) (br (bU a i) (br (dJ a i (Sh.list 3) 0) (br ((KH (gC a i 0).toList b).isSome) (br (!(KH (gC a i 0).toList b).getD false) (κr (true,(false,b,a),([],[]))) (κl (i64.wrap (i+1),b,a))) δ) δ) δ)) δ) δ) (κr (false,(false,[],[]),(b,a)))
def sZ:cS (Int×LA×LA) (Bool×(Bool×LA×LA)×(LA×LA)):=λ(i,a,b)=>BV i a b none inL inR
def ZF:=WP.l 46 0 [] [] Tryz.f57 0 lk0 [1,3] [1,2] [] (q2 (dL 0 0 0 0) qI) (q1 (qB 0 2 25 (q1 (iE (q2 (qL 1) (qL 3)))))) (λ(_,i,_) (((a,b,_),_),_)=>(sZ,(i,a,b),λ p=>(.node p.1 (.leaf .ret [AV.own 0 0 0 0,AV.bool p.2.1.1] [bF 0 2 25 [AV.agg [AV.list 1 p.2.1.2.1,AV.list 3 p.2.1.2.2]]]) (.leaf (.exit 0) [AV.own 0 0 0 0,.top] [bF 0 2 25 [AV.agg [AV.list 1 p.2.2.1,AV.list 3 p.2.2.2]]])))) (false,(false,[],[]),([],[])) λ _ _ (i,a,b)=>((((),i,()),(((a,b,()),()),())),BV i a b none)
def vc(a b:LA):=(aB sZ (0,a,b)).getD (false,(false,[],[]),[],[])
def Fm(a b:LA):=(↑(((vc a b).snd).snd.fst).length:Int)
def QR{T:Type}(a b:LA)(δ:T)(κ:Bool->T):T:=br ((aB sZ (0,a,b)).isSome) (br ((vc a b).fst) (κ (((vc a b).snd).fst.fst)) (br (decide (Fm a b>0)) (br (decide (Fm a b<=48)) (br ((Kp (((vc a b).snd).snd.fst)).isSome) (κ ((Kp (((vc a b).snd).snd.fst)).getD false)) δ) (κ (false))) (κ (false)))) δ
def Kq(a b:LA):=QR a b none some
def WQ:EO:=WP.f Tryz.func57 46 0 [] [(2,ZF.lp)] (fc ZF.ok) (u1 (fP (u2 (uL 1) (uL 3)))) (λ((a,b,_),_) _=>QR a b) (λ _ p=>AV.bool p) false
def H5{T:Type}(a b:LA)(i:Int)(δ:T)(κl:(Int)->T)(κr:(Bool×(Bool)×(Unit))->T):T:=br (decide (i<a.length)) (br (bU a i) (br (dJ a i (Sh.int .i64) 0) (br (bU b i) (br (dJ b i (Sh.int .i64) 0) (br ((gC a i 0).toInt !=(gC b i 0).toInt) (κr (true,(false),())) (κl (i64.wrap (i+1)))) δ) δ) δ) δ) (κr (false,false,()))
def xr(a b:LA):cS (Int) (Bool×(Bool)×(Unit)):=λ(i)=>H5 a b i none inL inR
def Y7:=WQ.l 26 0 [] [] Tryz.f39 0 lk0 [0,1,5] [4] [] (q3 (qL 1) (qL 1) qI) bO (λ(a,b,i,_) _=>(xr a b,(i),λ p=>(.node p.1 (.leaf .ret [AV.bool p.2.1] []) (.leaf (.exit 0) [.top] [])))) (false,false,()) λ(a,b,_,_) _ (i)=>(((a,b,i,()),()),H5 a b i none)
def O0{T:Type}(a b:LA)(δ:T)(κ:Bool->T):T:=br ((↑a.length:Int) !=(↑b.length:Int)) (κ (false)) (br ((aB (xr a b) 0).isSome) (br (((aB (xr a b) 0).getD (false,false,())).fst) (κ (((aB (xr a b) 0).getD (false,false,())).snd.fst)) (κ (true))) δ)
def BJ(a b:LA):=O0 a b none some
def xLN:EO:=WQ.f Tryz.func39 26 0 [] [(4,Y7.lp)] (fc Y7.ok) (u2 (uL 1) (uL 1)) (λ(a,b,_) _=>O0 a b) (λ _ p=>AV.bool p) false
def PL{T:Type}(a b c d:LA)(δ:T)(κ:Bool->T):T:=br ((BJ a c).isSome) (br ((BJ a c).getD false) (br ((JP b d).isSome) (κ ((JP b d).getD false)) δ) (κ (false))) δ
def Cd(a b c d:LA):=PL a b c d none some
def Tp:EO:=xLN.f Tryz.func27 17 0 [] [] lk0 (u2 (fP (u2 (uL 1) (uL 1))) (fP (u2 (uL 1) (uL 1)))) (λ((a,b,_),(c,d,_),_) _=>PL a b c d) (λ _ p=>AV.bool p) false
def Q3{T:Type}(a b:LA)(δ:T)(κ:Bool->T):T:=br (decide ((↑b.length:Int)<=16)) (br (decide ((↑a.length:Int)<=48)) (br ((Kq a b).isSome) (κ ((Kq a b).getD false)) δ) (κ (false))) (κ (false))
def Cz(a b:LA):=Q3 a b none some
def xLk:EO:=Tp.f Tryz.func21 17 0 [] [] lk0 (u1 (fP (u2 (uL 1) (uL 3)))) (λ((a,b,_),_) _=>Q3 a b) (λ _ p=>AV.bool p) false
def QT{T:Type}(a c b d:LA)(δ:T)(κ:Bool->T):T:=br ((Cz a c).isSome) (br ((Cz a c).getD false) (br ((Cz b d).isSome) (br ((Cz b d).getD false) (br ((BJ a b).isSome) (κ ((BJ a b).getD false)) δ) (κ (false))) δ) (κ (false))) δ
def KF(a b c d:LA):=QT a b c d none some
def W3:EO:=xLk.f Tryz.func10 18 0 [] [] lk0 (u2 (fP (u2 (uL 1) (uL 3))) (fP (u2 (uL 1) (uL 3)))) (λ((a,b,_),(c,d,_),_) _=>QT a b c d) (λ _ p=>AV.bool p) false
end Go.Sim.M
