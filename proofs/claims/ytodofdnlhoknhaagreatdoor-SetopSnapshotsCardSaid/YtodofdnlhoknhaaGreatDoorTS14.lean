/- Part 14. -/
import Derived.Test.YtodofdnlhoknhaaGreatDoorTS13
import Derived.Deep.LoopGhost
import Derived.Lib.SliceRun
import Derived.Lib.AppendZerosOnto
set_option linter.all false
noncomputable section
namespace Go.Proofs
open Go.RowKit Go.Lib Go.Shelf
set_option maxHeartbeats 2000000 in
set_option maxRecDepth 100000 in
def Tryz.grow_zero(w:World):Calls Tryz.prog 132 #[.slice none 0 0,.int .i64 0] w λ e w'=>e=.returned (.slice none 0 0)/\w'=w:=by(have q:Tryz.prog.underlying 47=some (.slice 87):=by kernel_rfl);have u22:∀w,Sem.run Tryz.prog (underlying 47) w=.ok (TypeDesc.slice 87) w:=run_underlying q;go_enter Tryz.func132,Tryz.ntmps132;go_wp2;go_ret;exact⟨rfl,rfl⟩
set_option maxHeartbeats 4000000 in
set_option maxRecDepth 100000 in
def Tryz.grow_nil(i0:TypeInfo)(z:Value)(Q:Tryz.prog.info? 87=some i0)(V:i0.zero=some z)(W:0<i0.size)(n:Nat)(w:World)(hn:0<n)(O:n*i0.bytes<=140737488355328)(ab:n<=4611686018427387904):
  Calls Tryz.prog 132 #[.slice none 0 0,.int .i64 n] w λ e w'=>
   e=.returned (.slice (some ⟨w.heap.size,0,none⟩) 0 (grownCap w n 0 87))/\w'=w.drew.alloc (.cells (Builtin.zeroCells z.cells n++Builtin.zeroCells z.cells (grownCap w n 0 87 - n)) 87):=by
 have J:Tryz.prog.underlying 47=some (.slice 87):=by kernel_rfl
 have t3:Tryz.prog.underlying 3=some (.int .i64):=by kernel_rfl
 have u22:∀w,Sem.run Tryz.prog (underlying 47) w=.ok (TypeDesc.slice 87) w:=run_underlying J;have u3:∀w,Sem.run Tryz.prog (underlying 3) w=.ok (TypeDesc.int .i64) w:=run_underlying t3;have aa:∀w,(Go.sizeOf 87).run Tryz.prog w=.ok i0.size w:=λ w=>by simp[Go.sizeOf,typeInfo,Q]
 have h1:¬ ((n:Int)<0):=by omega
 have h2:wrap64 ((0:Int) - 0)=0:=by unfold wrap64;omega
 have h3:wrap64 ((n:Int) - 0)=(n:Int):=by unfold wrap64;omega
 have h4:(n:Int)>0:=by omega
 have q:∀ty,(Builtin.append_ #[47,3] ty #[.slice none 0 0,.int .i64 (n:Int)]).run Tryz.prog w=.ok (.slice (some ⟨w.heap.size,0,none⟩) n (grownCap w n 0 87)) (w.drew.alloc (.cells (Builtin.zeroCells z.cells n++Builtin.zeroCells z.cells (grownCap w n 0 87 - n)) 87)):=λ ty=>by
  have h:=Lib.run_append_grow_zeros w 47 3 ty 87 i0 z .i64 .i64 J t3 Q V none 0 0 [] (run_firstCells_none w.drew i0.size 0 0 0) n (by omega) W (by omega) (by omega) (by omega)
   (by rw[Nat.zero_add];exact growslice_fits hn O)
  simpa using h
 have Y:n<=grownCap w n 0 87:=grownCap_ge w _ _ _;obtain⟨G,hG⟩:∃G,G=grownCap w n 0 87:=⟨_,rfl⟩;rw[<-hG]at q Y|-;have Z:G<=9223372036854775807:=by
  have:=grownCap_le_maxLen w n 0 87 (by unfold maxLen;omega)
  rw[<-hG]at this;unfold maxLen at this;omega
 clear hG
 go_enter Tryz.func132,Tryz.ntmps132
 go_wp2_with (at_builtin;refine Lib.wpList_append_run _ rfl _ _ _ _ rfl _ _ rfl rfl _ _ (q _) ?_)
 all_goals (go_ret;exact⟨rfl,rfl⟩)
end Go.Proofs
namespace Go.Sim
open Go.RowKit Go.Proofs
def QA:List AV->List aC->Option (Bool×AV×List aC)|[.nils,.int .i64 n],[]=>some (decide (0<=n)&&decide (n<=4398046511104),.osl 0 0 0 0,[⟨0,3,87,[],false,true⟩])|_,_=>none
def xBC:fJ Tryz.prog xQa 132 QA:=λ xs H r H' h=>by
 unfold QA at h;split at h;rename_i n;simp only[Option.some.injEq,Prod.mk.injEq,Bool.and_eq_true,decide_eq_true_eq]at h;obtain⟨⟨ac,ad⟩,rfl,rfl⟩:=h;refine⟨xeZ Tryz.func132 rfl (by kernel_rfl),λ w0 w A M vs hI hB hR Y=>?_⟩;obtain⟨n,rfl⟩:=Int.eq_ofNat_of_zero_le ac;have ab:vs=[.slice none 0 0,.int .i64 n]:=by obtain⟨h1,h2⟩:=Y;match vs,h1 with|[v0,v1],_=>have g0:=h2 0 (by simp);have g1:=h2 1 (by simp);change aD w A M v0 .nils at g0;change aD w A M v1 (.int .i64 n)at g1;rw[g1.int_inv];cases g0;rfl
 subst ab;have J:∃ti,bN Tryz.prog 87=some ti/\ti.sz=3/\ti.bytes=32/\ti.zero.okElem 3=true:=by(have h:(match bN Tryz.prog 87 with|some ti=>(ti.sz==3)&&((ti.bytes==32)&&ti.zero.okElem 3)|none=>false)=true:=by kernel_rfl);split at h;rename_i ti J;simp only[Bool.and_eq_true,beq_iff_eq]at h;exact⟨ti,J,h.1,h.2.1,h.2.2⟩;simp at h
 obtain⟨ti,J,s1,s2,s3⟩:=J;obtain⟨i,z,g1,g2,g3,g4,g5,g6,_⟩:=me J;have aa:z.cells.size=3:=by(have Z:aD w A er z ti.zero:=by rw[g6];exact nX w A er z);rw[(Z.cells (lg s3)).1,jM s3]
 have hM:gH M 0:=hR.free_of_length (Nat.le_refl _);rcases Nat.eq_zero_or_pos n with rfl|hn;refine(Tryz.grow_zero w).mono ?_;rintro e w' ⟨rfl,rfl⟩;obtain⟨k1,k2,k3⟩:=hR.virt 3 87 true;exact⟨_,A,_,rfl,hB,λ _ _=>Iff.rfl,Ev.refl.step k2,k1,k3 none⟩;refine(Tryz.grow_nil i z g1 g3 (by omega) n w hn (by rw[<-g5,s2];omega) (by omega)).mono ?_;rintro e w' ⟨rfl,rfl⟩;have Q:=grownCap_ge w n 0 87;have V:=grownCap_le_maxLen w n 0 87 (show n<=maxLen by unfold maxLen;omega);generalize grownCap w n 0 87=cap at Q V|-;have hsz:(Builtin.zeroCells z.cells n++Builtin.zeroCells z.cells (cap - n)).size=cap*3:=by rw[Array.size_append,size_zeroCells,size_zeroCells,aa,<-Nat.add_mul,Nat.add_sub_cancel' Q]
 have hR':HR w.drew A M w0.heap.size [⟨0,3,87,[],false,true⟩]:=hR.drew.ext λ id m hm=>by simp at m
 obtain⟨k1,k2,k3,k4,k5⟩:=FO (nid:=0) (bx:=⟨0,3,87,[],false,true⟩) (c:=Builtin.zeroCells z.cells n++Builtin.zeroCells z.cells (cap - n)) (cap:=cap) hR' (by simpa using hB.size) hM rfl (by simp) V hsz (by simp) (by simp) (λ i j hi=>by simp at hi);have q:Below w.heap.size w (w.drew.alloc (.cells (Builtin.zeroCells z.cells n++Builtin.zeroCells z.cells (cap - n)) 87)):=((Below.refl _ _).drew).alloc (by simp) _;refine⟨_,jw A w.heap.size false,_,rfl,hB.trans (q.mono hB.size),λ b hb=>?_,?_,k4,.osl _ 0 0 0 0 _ k5 (Nat.le_refl _) rfl λ _=>⟨by simp,some ⟨w.heap.size,0,none⟩,by simp,λ _=>by simp⟩⟩;exact k2 b (Nat.lt_of_lt_of_le hb hB.size);refine Ev.refl.step ⟨q.size,λ b hb _=>q.block b hb,λ b hb h=>(k2 b hb).1 h,λ b hb h _=>(k2 b hb).2 h,k1,.of_new q λ id m' O=>?_⟩;by_cases W:id=.b 0;subst W;exact k3.2 m' O;rw[k3.1 id W]at O;exact .inl O;simp at h
end Go.Sim
