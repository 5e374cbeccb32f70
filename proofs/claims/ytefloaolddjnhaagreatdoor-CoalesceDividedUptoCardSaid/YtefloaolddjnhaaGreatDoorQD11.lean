/- Part 11 of the proof: Clone, Pat, E0, PatN, K1, K2, K3, KG. -/
import Derived.Test.YtefloaolddjnhaaGreatDoorQD10
import Derived.Deep.LoopGhost
import Derived.Lib.SliceRun
set_option linter.unusedVariables false
set_option linter.unusedSimpArgs false
set_option linter.unnecessarySimpa false
set_option linter.unusedSectionVars false
noncomputable section
namespace Go.Proofs
open Go.RowKit Go.Lib Go.Shelf
set_option maxHeartbeats 2000000 in
set_option maxRecDepth 100000 in
theorem Tryz.clone_nil (n c:Nat) (w:World) :
  Calls Tryz.prog 111 #[.slice none n c] w fun e w'=>e=.returned (.slice none 0 0)∧w'=w:=by
 have q22:∀ (w:World) (a:Option Addr) (n c n' c':Nat),(binOp .eql 40 (.slice a n c) (.slice none n' c')).run Tryz.prog w=.ok (.bool a.isNone) w:=fun w a n c n' c'=>Lib.run_eql_slice_nil w 40 73 a n c n' c' (by kernel_rfl)
 go_enter Tryz.func111,Tryz.ntmps111
 go_wp2
 go_ret
 exact ⟨rfl,rfl⟩
set_option maxHeartbeats 2000000 in
set_option maxRecDepth 100000 in
theorem Tryz.clone_some (i0:TypeInfo) (z:Value) (hi:Tryz.prog.info? 73=some i0) (hz0:i0.zero=some z) (hz1:i0.size=3) (hz2:i0.bytes=32) (hzs:z.cells.size=3)
  (a:Addr) (n c:Nat) (news:List Value) (w:World) (hl:news.length=n*3) (hn:n≤maxLen) (hbig:n*32≤140737488355328)
  (hc:∀ j u,news[j]?=some u→w.cell? (a.add j)=some u) (h1:∀ u∈news,u.oneCell'=true) :
  Calls Tryz.prog 111 #[.slice (some a) n c] w fun e w'=>∃ v',e=.returned v'∧w'.ownsRow w.heap.size 73 3 v' n news∧Below w.heap.size w w':=by
 have t22:Tryz.prog.underlying 40=some (.slice 73):=by kernel_rfl
 have q22:∀ (w:World) (a:Option Addr) (n c n' c':Nat),(binOp .eql 40 (.slice a n c) (.slice none n' c')).run Tryz.prog w=.ok (.bool a.isNone) w:=fun w a n c n' c'=>Lib.run_eql_slice_nil w 40 73 a n c n' c' t22
 have u22:∀ w,Sem.run Tryz.prog (underlying 40) w=.ok (TypeDesc.slice 73) w:=run_underlying t22
 have A:Aside (∀ j u,news[j]?=some u→w.cell? (a.add j)=some u):=hc
 clear hc
 go_enter Tryz.func111,Tryz.ntmps111
 go_wp2_with (at_builtin;refine wpList_append_own _ rfl _ _ 40 rfl w.heap.size 73 i0 z 3 32 t22 hi hz0 hz1 hz2 hzs (by decide) _ _ _ rfl (World.ownsRow_made w #[] 0 (Nat.le_refl _) (Nat.zero_le _) (by simp)) a n c news rfl ?qc1 ?qc2 ?qc3 ?qc4 ?qc5 ?qc6 ?_)
 case qc1=>exact hl
 case qc2 =>
  intro j u hj
  exact Lib.cell?_alloc_some _ (A.out j u hj)
 case qc3=>exact h1
 case qc4=>rw [Nat.zero_add];exact hn
 case qc5=>rw [Nat.zero_add];exact hbig
 case qc6=>simp
 intro v' w1 hown hgrow hnil
 go_wp2
 go_ret
 refine ⟨v',rfl,by simpa using hown,?_⟩
 exact ((Below.refl _ w).alloc (Nat.le_refl _) _).grown hgrow (by simp) (by intro k hk;simp [Value.ownBlock] at hk;omega)
end Go.Proofs
namespace Go.Sim
open Go.RowKit Go.Proofs
def xnO:List AV→Option (Bool×AV)
 | [.list 3 xs]=>some (decide (xs.length≤4398046511104),.list 3 xs)
 | _=>none
theorem xtx {w w':World} {A:Nat→Prop} {e:TypeId} {sz:Nat} {v:Value} {xs:List AV} {news:List Value} (hl:∀ b,A b→b<w.heap.size) (hown:w'.ownsRow w.heap.size e sz v xs.length news) (hok:∀ x,x∈xs→x.okElem sz=true)
  (hr:∀ i j,i<xs.length→j<sz→Rel w' A noBox (news.getD (i*sz+j) undef) ((xs.getD i .top).cells.getD j .top)):Rel w' A noBox v (.list sz xs):=by
 obtain ⟨hlen,h⟩:=hown
 rcases h with ⟨rfl,h0⟩|⟨g,cap,cur,rfl,hg,hh,hle,hcm,hcs,htk⟩
 · have:xs=[]:=List.eq_nil_of_length_eq_zero h0
   subst this
   exact .list0 _ _ _
 · by_cases hne:xs=[]
   · subst hne;exact .list0 _ _ _
   · have hgl:g<w'.heap.size:=by
      rcases Nat.lt_or_ge g w'.heap.size with h|h
      · exact h
      · rw [Array.getElem?_eq_none h] at hh;simp at hh
     have hcell:∀ i j,i<xs.length→j<sz→w'.cell? ⟨g,0+i*sz+j,none⟩=some (news.getD (i*sz+j) undef):=fun i j hi hj=>by
      have hk:i*sz+j<xs.length*sz:=xee hi hj
      have hk2:i*sz+j<cur.size:=by
       rw [hcs];exact Nat.lt_of_lt_of_le hk (Nat.mul_le_mul_right _ hle)
      have e1:news.getD (i*sz+j) undef=cur[i*sz+j]:=by
       rw [←htk];simp [List.getD_eq_getElem?_getD,List.getElem?_take,hk,hk2]
      rw [e1,Nat.zero_add]
      simp [World.cell?,hh,hk2]
     exact .list g 0 cap sz xs (fun i j=>news.getD (i*sz+j) undef) (fun hA=>by have:=hl g hA;omega) hgl hne hle hok hcell hr
theorem xyU:OcOk Tryz.prog ITryz 111 xnO:=fun xs r h=>by
 unfold xnO at h;split at h
 · rename_i xs
   simp only [Option.some.injEq,Prod.mk.injEq,decide_eq_true_eq] at h;obtain ⟨hle,rfl⟩:=h
   refine ⟨xdT Tryz.func111 rfl (by kernel_rfl),fun w A vs hI hA hrc=>?_⟩
   obtain ⟨v,rfl,h1⟩:=rc1 hrc
   have hti:∃ ti,tinfo Tryz.prog 73=some ti∧ti.sz=3∧ti.bytes=32∧ti.zero.okElem 3=true:=by
    have h:(match tinfo Tryz.prog 73 with|some ti=>(ti.sz==3)&&((ti.bytes==32)&&ti.zero.okElem 3)|none=>false)=true:=by kernel_rfl
    split at h
    · rename_i ti hti
      simp only [Bool.and_eq_true,beq_iff_eq] at h
      exact ⟨ti,hti,h.1,h.2.1,h.2.2⟩
    · simp at h
   obtain ⟨ti,hti,s1,s2,s3⟩:=hti
   obtain ⟨i,z,g1,g2,g3,g4,g5,g6,_⟩:=xca hti
   have hzs:z.cells.size=3:=by
    have hrz:Rel w A noBox z ti.zero:=by rw [g6];exact xeh w A noBox z
    rw [(hrz.cells (xbt s3)).1,xa0 s3]
   have hnil:∀ n c,v=.slice none n c→xs=[]→Calls Tryz.prog 111 [v].toArray w fun e w'=>∃ v,e=.returned v∧Below w.heap.size w w'∧Rel w' A noBox v (.list 3 xs):=by
    rintro n c rfl rfl
    refine (Tryz.clone_nil n c w).mono ?_
    rintro e w' ⟨rfl,rfl⟩
    exact ⟨_,rfl,Below.refl _ _,.list0 _ _ _⟩
   have hsome:∀ b off c (val:Nat→Nat→Value),v=.slice (some ⟨b,off,none⟩) xs.length c→(∀ x,x∈xs→x.okElem 3=true)→(∀ i j,i<xs.length→j<3→w.cell? ⟨b,off+i*3+j,none⟩=some (val i j))→(∀ i j,i<xs.length→j<3→Rel w A noBox (val i j) ((xs.getD i .top).cells.getD j .top)) →
     Calls Tryz.prog 111 [v].toArray w fun e w'=>∃ v,e=.returned v∧Below w.heap.size w w'∧Rel w' A noBox v (.list 3 xs):=by
    rintro b off c val rfl hok hc hr
    have hs:∀ i j,i<xs.length→j<3→∃ u,w.cell? ⟨b,off+(i*3+j),none⟩=some u∧Rel w A noBox u ((xs.getD i .top).cells.getD j .top):=fun i j hi hj=>⟨val i j,by rw [←Nat.add_assoc];exact hc i j hi hj,hr i j hi hj⟩
    refine (Tryz.clone_some i z g1 g3 (by rw [←g4,s1]) (by rw [←g5,s2]) hzs ⟨b,off,none⟩ xs.length c (srcCells w b off (xs.length*3)) w (xhn _ _ _ _) (by unfold maxLen;omega) (by omega)
     (fun j u hj=>xr8 (by decide) hs j u hj) (xC9 (by decide) hs hok)).mono ?_
    rintro e w' ⟨v',rfl,hown,hbel⟩
    exact ⟨v',rfl,hbel,xtx hA hown hok fun i j hi hj=>(xCD hs hi hj).grow hbel⟩
   have h1':=h1
   generalize hx:AV.list 3 xs=x at h1
   cases h1 with
   | list0 a cap sz =>
    simp only [AV.list.injEq] at hx
    obtain ⟨rfl,rfl⟩:=hx
    cases a with
    | none=>exact hnil 0 cap rfl rfl
    | some a =>
     refine (Tryz.clone_some i z g1 g3 (by rw [←g4,s1]) (by rw [←g5,s2]) hzs a 0 cap [] w rfl (Nat.zero_le _) (by omega) (by simp) (by simp)).mono ?_
     rintro e w' ⟨v',rfl,hown,hbel⟩
     exact ⟨v',rfl,hbel,xtx hA (xs:=[]) hown (by simp) (by simp)⟩
   | list b off cap sz ys val ha hb hne hcap hsz hc hr =>
    simp only [AV.list.injEq] at hx
    obtain ⟨rfl,rfl⟩:=hx
    exact hsome b off cap val rfl hsz hc hr
   | _=>simp at hx
 · simp at h
end Go.Sim
end
noncomputable section
namespace Go.Sim
open Go.RowKit
variable {α β γ : Type}
structure Pat (α β:Type) where
 enc:β→α
 dec:α→Option β
 ok:∀ a b,dec a=some b→a=enc b
def pAny:Pat α α:=⟨fun b=>b,some,fun a b h=>by simpa using h⟩
def pInt (k:IntKind):Pat AV Int:=⟨.int k,fun v=>match v with
 | .int k' n=>match decide (k'=k) with
  | true=>some n
  | false=>none
 | _=>none,fun v n h=>by
 split at h
 · split at h
   · rename_i hk;simp only [Option.some.injEq] at h;rw [of_decide_eq_true hk,h]
   · simp at h
 · simp at h⟩
def pStr:Pat AV (List UInt8):=⟨.str,fun v=>match v with
 | .str s=>some s
 | _=>none,fun v n h=>by
 split at h
 · simp only [Option.some.injEq] at h;rw [h]
 · simp at h⟩
def pBool:Pat AV Bool:=⟨.bool,fun v=>match v with
 | .bool s=>some s
 | _=>none,fun v n h=>by
 split at h
 · simp only [Option.some.injEq] at h;rw [h]
 · simp at h⟩
def pList (sz:Nat) (q:Pat (List AV) β):Pat AV β:=⟨fun b=>.list sz (q.enc b),fun v=>match v with
 | .list z xs=>match Nat.beq z sz with
  | true=>q.dec xs
  | false=>none
 | _=>none,fun v n h=>by
 split at h
 · split at h
   · rename_i hz;rw [Nat.eq_of_beq_eq_true hz,q.ok _ _ h]
   · simp at h
 · simp at h⟩
def pOsl (id ver off:Nat):Pat AV Nat:=⟨.osl id ver off,fun v=>match v with
 | .osl (.b i) e o n=>match Nat.beq i id&&(Nat.beq e ver&&Nat.beq o off) with
  | true=>some n
  | false=>none
 | _=>none,fun v n h=>by
 split at h
 · split at h
   · rename_i hz
     simp only [Bool.and_eq_true] at hz
     simp only [Option.some.injEq] at h
     rw [Nat.eq_of_beq_eq_true hz.1,Nat.eq_of_beq_eq_true hz.2.1,Nat.eq_of_beq_eq_true hz.2.2,h]
   · simp at h
 · simp at h⟩
def pOslV (id off:Nat):Pat AV (Nat×Nat):=⟨fun p=>.osl id p.1 off p.2,fun v=>match v with
 | .osl (.b i) e o n=>match Nat.beq i id&&Nat.beq o off with
  | true=>some (e,n)
  | false=>none
 | _=>none,fun v n h=>by
 split at h
 · split at h
   · rename_i hz
     simp only [Bool.and_eq_true] at hz
     simp only [Option.some.injEq] at h
     rw [Nat.eq_of_beq_eq_true hz.1,Nat.eq_of_beq_eq_true hz.2,←h]
   · simp at h
 · simp at h⟩
def pOwnV (id j:Nat):Pat AV (Nat×Nat):=⟨fun p=>.own id p.1 p.2 j,fun v=>match v with
 | .own (.b a) b c d=>match Nat.beq a id&&Nat.beq d j with
  | true=>some (b,c)
  | false=>none
 | _=>none,fun v n h=>by
 split at h
 · split at h
   · rename_i hz
     simp only [Bool.and_eq_true] at hz
     simp only [Option.some.injEq] at h
     rw [Nat.eq_of_beq_eq_true hz.1,Nat.eq_of_beq_eq_true hz.2,←h]
   · simp at h
 · simp at h⟩
def pOwn (id ver i j:Nat):Pat AV Unit:=⟨fun _=>.own id ver i j,fun v=>match v with
 | .own (.b a) b c d=>match Nat.beq a id&&(Nat.beq b ver&&(Nat.beq c i&&Nat.beq d j)) with
  | true=>some ()
  | false=>none
 | _=>none,fun v n h=>by
 split at h
 · split at h
   · rename_i hz
     simp only [Bool.and_eq_true] at hz
     rw [Nat.eq_of_beq_eq_true hz.1,Nat.eq_of_beq_eq_true hz.2.1,Nat.eq_of_beq_eq_true hz.2.2.1,Nat.eq_of_beq_eq_true hz.2.2.2]
   · simp at h
 · simp at h⟩
def pAgg (q:Pat (List AV) β):Pat AV β:=⟨fun b=>.agg (q.enc b),fun v=>match v with
 | .agg cs=>q.dec cs
 | _=>none,fun v n h=>by
 split at h
 · rw [q.ok _ _ h]
 · simp at h⟩
def pFunc (f:Nat) (q:Pat (List AV) β):Pat AV β:=⟨fun b=>.func f (q.enc b),fun v=>match v with
 | .func g cs=>match Nat.beq g f with
  | true=>q.dec cs
  | false=>none
 | _=>none,fun v n h=>by
 split at h
 · split at h
   · rename_i hz;rw [Nat.eq_of_beq_eq_true hz,q.ok _ _ h]
   · simp at h
 · simp at h⟩
def pNils:Pat AV Unit:=⟨fun _=>.nils,fun v=>match v with
 | .nils=>some ()
 | _=>none,fun v n h=>by
 split at h
 · rfl
 · simp at h⟩
def pNilptr:Pat AV Unit:=⟨fun _=>.nilptr,fun v=>match v with
 | .nilptr=>some ()
 | _=>none,fun v n h=>by
 split at h
 · rfl
 · simp at h⟩
def pNil:Pat (List α) Unit:=⟨fun _=>[],fun v=>match v with
 | []=>some ()
 | _=>none,fun v n h=>by
 split at h
 · rfl
 · simp at h⟩
def pCons (p:Pat α β) (q:Pat (List α) γ):Pat (List α) (β×γ):=⟨fun b=>p.enc b.1::q.enc b.2,fun v=>match v with
 | x::t=>match p.dec x with
  | some b=>match q.dec t with
   | some c=>some (b,c)
   | none=>none
  | none=>none
 | _=>none,fun v n h=>by
 split at h
 · split at h
   · rename_i hp
     split at h
     · rename_i hq
       simp only [Option.some.injEq] at h
       subst h
       rw [p.ok _ _ hp,q.ok _ _ hq]
     · simp at h
   · simp at h
 · simp at h⟩
def pBox (ver sz ty:Nat) (frz pm:Bool) (q:Pat (List AV) β):Pat Box β:=⟨fun b=>⟨ver,sz,ty,q.enc b,frz,pm⟩,fun v=>match v with
 | ⟨a,b,c,xs,f,p⟩=>match Nat.beq a ver&&(Nat.beq b sz&&(Nat.beq c ty&&((f==frz)&&(p==pm)))) with
  | true=>q.dec xs
  | false=>none,fun v n h=>by
 obtain ⟨a,b,c,xs,f,p⟩:=v
 dsimp only at h;split at h
 · rename_i hz
   simp only [Bool.and_eq_true,beq_iff_eq] at hz
   rw [Nat.eq_of_beq_eq_true hz.1,Nat.eq_of_beq_eq_true hz.2.1,Nat.eq_of_beq_eq_true hz.2.2.1,hz.2.2.2.1,hz.2.2.2.2,q.ok _ _ h]
 · simp at h⟩
def pBoxV (sz ty:Nat) (frz pm:Bool) (q:Pat (List AV) β):Pat Box (Nat×β):=⟨fun b=>⟨b.1,sz,ty,q.enc b.2,frz,pm⟩,fun v=>match v with
 | ⟨a,b,c,xs,f,p⟩=>match Nat.beq b sz&&(Nat.beq c ty&&((f==frz)&&(p==pm))) with
  | true=>match q.dec xs with
   | some y=>some (a,y)
   | none=>none
  | false=>none,fun v n h=>by
 obtain ⟨a,b,c,xs,f,p⟩:=v
 dsimp only at h;split at h
 · rename_i hz
   simp only [Bool.and_eq_true,beq_iff_eq] at hz
   split at h
   · rename_i y hy
     simp only [Option.some.injEq] at h
     rw [Nat.eq_of_beq_eq_true hz.1,Nat.eq_of_beq_eq_true hz.2.1,hz.2.2.1,hz.2.2.2,←h,q.ok _ _ hy]
   · simp at h
 · simp at h⟩
def Sub (a b:AV):Prop:=∀ (w:World) (A:Nat→Prop) (M:Id→Option MB) (v:Value),Rel w A M v a→Rel w A M v b
def SubL (aS bs:List AV):Prop:=aS.length=bs.length∧∀ i,i<aS.length→Sub (aS.getD i .top) (bs.getD i .top)
theorem Sub.refl (a:AV):Sub a a:=fun _ _ _ _ h=>h
theorem Sub.of_eq {a b:AV} (h:a=b):Sub a b:=h▸Sub.refl a
theorem xGW (sz:Nat):Sub .nils (.list sz []):=fun w A M v h=>by
 cases h;exact .list0 _ _ _
theorem xId {aS bs:List AV} (h:SubL aS bs):Sub (.agg aS) (.agg bs):=fun w A M v hr=>by
 obtain ⟨vs,rfl,h1,h2⟩:=hr.agg_inv
 exact .agg vs bs (h1.trans h.1) fun i hi=>h.2 i (h.1.symm▸hi) w A M _ (h2 i (h.1.symm▸hi))
theorem xEX {w:World} {A:Nat→Prop} {M:Id→Option MB} {vs:List Value} {aS bs:List AV} (h:SubL aS bs) (hr:RC w A M vs aS):RC w A M vs bs :=
 ⟨hr.1.trans h.1,fun i hi=>h.2 i (h.1.symm▸hi) w A M _ (hr.2 i (h.1.symm▸hi))⟩
structure SPat (β:Type) where
 enc:β→AV
 dec:AV→Option β
 ok:∀ a b,dec a=some b→Sub a (enc b)
structure SPatL (β:Type) where
 enc:β→List AV
 dec:List AV→Option β
 ok:∀ a b,dec a=some b→SubL a (enc b)
def sEq (p:Pat AV β):SPat β:=⟨p.enc,p.dec,fun a b h=>Sub.of_eq (p.ok a b h)⟩
def sList (sz:Nat) (q:Pat (List AV) β):SPat β:=⟨fun b=>.list sz (q.enc b),fun v=>match v with
 | .nils=>q.dec []
 | .list z xs=>match Nat.beq z sz with
  | true=>q.dec xs
  | false=>none
 | _=>none,fun v n h=>by
 split at h
 · rw [←q.ok _ _ h];exact xGW sz
 · split at h
   · rename_i hz;rw [Nat.eq_of_beq_eq_true hz,q.ok _ _ h];exact Sub.refl _
   · simp at h
 · simp at h⟩
def sAgg (q:SPatL β):SPat β:=⟨fun b=>.agg (q.enc b),fun v=>match v with
 | .agg cs=>q.dec cs
 | _=>none,fun v n h=>by
 split at h
 · exact xId (q.ok _ _ h)
 · simp at h⟩
def sNil:SPatL Unit:=⟨fun _=>[],fun v=>match v with
 | []=>some ()
 | _=>none,fun v n h=>by
 split at h
 · exact ⟨rfl,fun i hi=>by simp at hi⟩
 · simp at h⟩
def sCons (p:SPat β) (q:SPatL γ):SPatL (β×γ):=⟨fun b=>p.enc b.1::q.enc b.2,fun v=>match v with
 | x::t=>match p.dec x with
  | some b=>match q.dec t with
   | some c=>some (b,c)
   | none=>none
  | none=>none
 | _=>none,fun v n h=>by
 split at h
 · split at h
   · rename_i hp
     split at h
     · rename_i hq
       simp only [Option.some.injEq] at h
       subst h
       obtain ⟨h1,h2⟩:=q.ok _ _ hq
       refine ⟨by simp [h1],fun i hi=>?_⟩
       cases i with
       | zero=>exact p.ok _ _ hp
       | succ i=>exact h2 i (by simpa using hi)
     · simp at h
   · simp at h
 · simp at h⟩
def ocOf (pv:SPatL β) (g:β→Bool×AV):List AV→Option (Bool×AV):=fun xs=>match pv.dec xs with
 | some b=>some (g b)
 | none=>none
def omOf (pv:SPatL β) (pb:Pat (List Box) γ) (g:β→γ→Bool×AV×List Box):List AV→List Box→Option (Bool×AV×List Box):=fun xs H=>match pv.dec xs with
 | some b=>match pb.dec H with
  | some c=>some (g b c)
  | none=>none
 | none=>none
def lpOf (live liveO:List Nat) (conv:List (Nat×Nat×TypeId)) (pv:Pat (List AV) β) (pb:Pat (List Box) γ) (g:β→γ→Bool×LR):Lp:=⟨live,liveO,conv,fun xs H=>match pv.dec xs with
 | some b=>match pb.dec H with
  | some c=>some (g b c)
  | none=>none
 | none=>none⟩
section
variable {P : Program} {Inv : IV}
theorem xbc {n:FuncId} {pv:SPatL β} {g:β→Bool×AV} (h:∀ b r,g b=(true,r)→Good P Inv n (pv.enc b) r):OcOk P Inv n (ocOf pv g):=fun xs r e=>by
 unfold ocOf at e;split at e
 · rename_i b hb
   simp only [Option.some.injEq] at e
   obtain ⟨h1,h2⟩:=h b r e
   exact ⟨h1,fun w A vs hi ha hr=>h2 w A vs hi ha (xEX (pv.ok _ _ hb) hr)⟩
 · simp at e
theorem xfX {n:FuncId} {pv:SPatL β} {pb:Pat (List Box) γ} {g:β→γ→Bool×AV×List Box} (h:∀ b c r H',g b c=(true,r,H')→GoodM P Inv n (pv.enc b) (pb.enc c) r H'):OmOk P Inv n (omOf pv pb g):=fun xs H r H' e=>by
 unfold omOf at e;split at e
 · rename_i b hb
   split at e
   · rename_i c hc
     simp only [Option.some.injEq] at e
     rw [pb.ok _ _ hc]
     obtain ⟨h1,h2⟩:=h b c r H' e
     exact ⟨h1,fun w0 w A M vs hi hb' hR hr=>h2 w0 w A M vs hi hb' hR (xEX (pv.ok _ _ hb) hr)⟩
   · simp at e
 · simp at e
theorem xbr {nt:Nat} {l:Code} {live liveO:List Nat} {conv:List (Nat×Nat×TypeId)} {pv:Pat (List AV) β} {pb:Pat (List Box) γ} {g:β→γ→Bool×LR}
  (h:∀ b c r,g b c=(true,r)→DoesL P Inv l (fun e1 s1=>e1=r.eval.1∧s1=⟨mkTs nt (liveO.zip r.eval.2.1),r.eval.2.2⟩) ⟨mkTs nt (live.zip (pv.enc b)),pb.enc c⟩):LoopOk P Inv nt l (lpOf live liveO conv pv pb g):=fun vals H r e=>by
 unfold lpOf at e;dsimp only at e;split at e
 · rename_i b hb
   split at e
   · rename_i c hc
     simp only [Option.some.injEq] at e
     rw [pv.ok _ _ hb,pb.ok _ _ hc]
     exact h b c r e
   · simp at e
 · simp at e
end
theorem xaf {x:Option α} {d:α} (h:x.isSome=true):x=some (x.getD d):=by
 cases x with
 | none=>simp at h
 | some y=>rfl
end Go.Sim
end
noncomputable section
namespace Go.Sim.M
open Go.RowKit Go.Proofs
def E0:Env:=((((Env.none.with 138 xlg).with 116 xnE).with 111 xnO).withM 139 xqS).withM 118 xl3
theorem xDr:OrcOk Tryz.prog ITryz E0:=((((xEc.with xuw).with xyV).with xyU).withM xCg).withM xvJ
end Go.Sim.M
end
noncomputable section
namespace Go.Sim
open Go.RowKit
def EncS {α:Type} (f:α→AV) (a:Option α) (b:Option AV):Prop:=∀ r,a=some r→∃ x,b=some x∧Sub x (f r)
theorem EncS.none {α:Type} {f:α→AV} {b:Option AV}:EncS f .none b:=fun r h=>by simp at h
theorem EncS.some {α:Type} {f:α→AV} {a:α} {b:AV} (h:Sub b (f a)):EncS f (Option.some a) (Option.some b):=fun r e=>by simp only [Option.some.injEq] at e;subst e;exact ⟨b,rfl,h⟩
theorem EncS.br {α:Type} {f:α→AV} {t:Bool} {a a':Option α} {b b':Option AV} (h1:EncS f a b) (h2:EncS f a' b'):EncS f (Sim.br t a a') (Sim.br t b b'):=by cases t<;>assumption
theorem Good.sub {P:Program} {Inv:IV} {f:FuncId} {args:List AV} {r r':AV} (h:Good P Inv f args r) (hs:Sub r r'):Good P Inv f args r' :=
 ⟨h.1,fun w A vs hI hA hrc=>(h.2 w A vs hI hA hrc).mono fun e w' ⟨v,he,hb,hr⟩=>⟨v,he,hb,hs w' A noBox v hr⟩⟩
theorem GoodM.bump1 {P:Program} {Inv:IV} {f:FuncId} {args:List AV} {H:List Box} {v v' k sz:Nat} {ty:TypeId} {xs:List AV} {frz pm:Bool} (hpl:isC ty=false) (hv:v<v')
  (h:GoodM P Inv f args H (.osl (.b 0) v 0 k) [⟨v,sz,ty,xs,frz,pm⟩]):GoodM P Inv f args H (.osl (.b 0) v' 0 k) [⟨v',sz,ty,xs,frz,pm⟩]:=by
 refine ⟨h.1,fun w0 w A M vs hI hB hR hrc=>(h.2 w0 w A M vs hI hB hR hrc).mono ?_⟩
 rintro e w' ⟨u,A',M',rfl,h1,h2,h3,h4,h5⟩
 obtain ⟨m,g1,g2,g3,g4⟩:=Rel.osl_inv h5
 obtain ⟨bx,q1,q2⟩:=h4.box _ m g1
 have:bx=⟨v,sz,ty,xs,frz,pm⟩:=by
  have:=q1
  rw [xeP] at this
  simpa using this.symm
 subst this
 have hver:v=m.ver:=q2.ver
 have hext:MExt M' (MSet M' (.b 0) ⟨m.b,v',m.sz,m.cap,m.ty⟩):=xpK g1 (.inr (by simp only;omega))
 have hsame:∀ id m1,MSet M' (.b 0) ⟨m.b,v',m.sz,m.cap,m.ty⟩ id=some m1→∃ m0,M' id=some m0∧m1.b=m0.b∧m1.cap=m0.cap:=fun id m1 hm1=>by
  by_cases hi:id=.b 0
  · subst hi;simp [MSet] at hm1;subst hm1;exact ⟨m,g1,rfl,rfl⟩
  · exact ⟨m1,by simpa [MSet,hi] using hm1,rfl,rfl⟩
 have hR':HR w' A' (MSet M' (.b 0) ⟨m.b,v',m.sz,m.cap,m.ty⟩) w0.heap.size [⟨v',sz,ty,xs,frz,pm⟩]:=by
  refine ⟨fun id m1 hm1=>?_,fun id id' m1 m2 k1 k2 c1 c2 he=>?_,h4.lt⟩
  · by_cases hi:id=.b 0
    · subst hi
      have:m1=⟨m.b,v',m.sz,m.cap,m.ty⟩:=by simp [MSet] at hm1;exact hm1.symm
      subst this
      have q3:=q2.mono (w':=w') (fun _=>rfl) (fun _ _ _=>rfl) (Nat.le_refl _) (fun _ _ h=>h) q2.guard hext
      exact ⟨⟨v',sz,ty,xs,frz,pm⟩,rfl,rfl,q3.sz,q3.ty,q3.capm,q3.fits,q3.ok,q3.low,q3.lt,q3.cells,q3.guard⟩
    · have hm2:M' id=some m1:=by simpa [MSet,hi] using hm1
      obtain ⟨bx,k1,k2⟩:=h4.box id m1 hm2
      have k3:getB [⟨v',sz,ty,xs,frz,pm⟩] id=some bx:=by
       rw [←k1]
       exact xfO (H:=[⟨v,sz,ty,xs,frz,pm⟩]) (n:=0) (bx:=⟨v,sz,ty,xs,frz,pm⟩) (bx':=⟨v',sz,ty,xs,frz,pm⟩) rfl hpl hpl hi
      exact ⟨bx,k3,k2.mono (fun _=>rfl) (fun _ _ _=>rfl) (Nat.le_refl _) (fun _ _ h=>h) k2.guard hext⟩
  · obtain ⟨n1,a1,a2,a3⟩:=hsame id m1 k1
    obtain ⟨n2,b1,b2,b3⟩:=hsame id' m2 k2
    exact h4.inj id id' n1 n2 a1 b1 (by omega) (by omega) (by rw [←a2,←b2,he])
 refine ⟨u,A',MSet M' (.b 0) ⟨m.b,v',m.sz,m.cap,m.ty⟩,rfl,h1,h2,h3.step ⟨Nat.le_refl _,fun _ _ _=>rfl,fun _ _ h=>h,fun _ _ h _=>h,hext,⟨fun _ _ _=>rfl,fun id m1 hm1 h0=>?_⟩⟩,hR',?_⟩
 · obtain ⟨n1,a1,a2,a3⟩:=hsame id m1 hm1
   exact .inl ⟨id,n1,a1,by omega,a2⟩
 · exact .osl u (.b 0) v' 0 k ⟨m.b,v',m.sz,m.cap,m.ty⟩ (by simp [MSet]) (Nat.le_refl _) g3 fun _=>g4 hver
end Go.Sim
end
noncomputable section
set_option maxRecDepth 100000
namespace Go.Sim.M
open Go.IntKind (i64 u64 u8)
open Go.RowKit Go.Proofs
def xck:Env:=E0.fn 19 1 (lsOf []) (lpsOf [])
theorem xkZ:OrcOk Tryz.prog (ITryz.at 1) xck:=xDr.fn
theorem xjM:LoOk Tryz.prog (ITryz.at xck.pin) xck (Tryz.f115.body.getD .skip):=xaF (by kernel_rfl)
def xdi {T:Type} (a:List UInt8) (δ:T) (κ:Int×Nat×LA→T):T:=br (decide ((byteAVs a).length*1≤140737488355328)&&decide ((byteAVs a).length≤4611686018427387904)) (κ ((↑a.length:Int),(byteAVs a).length,byteAVs a)) δ
def xaL (a:List UInt8):Option (Int×Nat×LA):=xdi a none some
theorem xmr (a:List UInt8):Enc (fun (p:Int×Nat×LA)=>(((AV.tuple [AV.int .i64 p.1,.top],([⟨0,2,137,[AV.agg [AV.own 0 0 0 0,AV.osl 1 0 0 p.2.1]],false,false⟩,⟨0,1,5,p.2.2,false,true⟩]:List Box))):(AV×List Box))) (xaL a) (XFM Tryz.prog xck Tryz.f115 (Tryz.f115.body.getD .skip) [AV.own (0:Id) 0 0 0,AV.str a] [{ ver:=0,sz:=2,ty:=(137:TypeId),xs:=[AV.agg [AV.nilptr,AV.nils]],frz:=false,pm:=true }]):=by
 refine eV (xdi a none (fun (p:Int×Nat×LA)=>some (((AV.tuple [AV.int .i64 p.1,.top],([⟨0,2,137,[AV.agg [AV.own 0 0 0 0,AV.osl 1 0 0 p.2.1]],false,false⟩,⟨0,1,5,p.2.2,false,true⟩]:List Box))):(AV×List Box)))) (by kernel_rfl) ?_;unfold xaL xdi;repeat' first|exact eN|exact eS rfl|apply eB
def xhB:LA→List Box→Option (Bool×AV×List Box):=omOf (sCons (sEq (pOwn 0 0 0 0)) (sCons (sEq pStr) sNil)) (pCons (pBox 0 2 (137:TypeId) false true (pCons (pAgg (pCons pNilptr (pCons pNils pNil))) pNil)) pNil) fun (_,(a,_)) (((_,(_,_)),_),_)=>((xaL a).isSome,((AV.tuple [AV.int .i64 ((xaL a).getD (0,0,[])).1,.top],([⟨0,2,137,[AV.agg [AV.own 0 0 0 0,AV.osl 1 0 0 ((xaL a).getD (0,0,[])).2.1]],false,false⟩,⟨0,1,5,((xaL a).getD (0,0,[])).2.2,false,true⟩]:List Box))))
theorem xmm:OmOk Tryz.prog ITryz 115 (xhB):=xfX fun c e h g f=>by
 obtain ⟨_,⟨i,_⟩⟩:=c
 obtain ⟨⟨⟨_,⟨_,_⟩⟩,_⟩,_⟩:=e
 obtain ⟨a,b⟩:=Prod.mk.inj f
 refine xdM (p:=xck.pin) (xek mxTryz (inv0Ok Tryz.prog _) rfl xkZ rfl Tryz.func115 rfl (by kernel_rfl) xjM ((xmr _ _ (xaf (d:=(0,0,[])) a)).trans ?_))
 exact congrArg some b
def xDM:Env:=E0.withM 115 xhB
theorem xAP:OrcOk Tryz.prog ITryz xDM:=xDr.withM xmm
def xcb:Env:=xDM.fn 19 2 (lsOf []) (lpsOf [])
theorem xj8:OrcOk Tryz.prog (ITryz.at 2) xcb:=xAP.fn
theorem xjn:LoOk Tryz.prog (ITryz.at xcb.pin) xcb (Tryz.f115.body.getD .skip):=xaF (by kernel_rfl)
def xda {T:Type} (a:List UInt8) (n:Nat) (b:LA) (δ:T) (κ:Int×Nat×LA→T):T:=br (n==b.length&&(decide ((n+(byteAVs a).length)*1≤140737488355328)&&decide (n+(byteAVs a).length≤4611686018427387904))) (κ ((↑a.length:Int),n+(byteAVs a).length,b++byteAVs a)) δ
def xaI (a:List UInt8) (n:Nat) (b:LA):Option (Int×Nat×LA):=xda a n b none some
theorem xlS (a:List UInt8) (n:Nat) (xs:LA):Enc (fun (p:Int×Nat×LA)=>(((AV.tuple [AV.int .i64 p.1,.top],([⟨0,2,137,[AV.agg [AV.own 0 0 0 0,AV.osl 1 1 0 p.2.1]],false,false⟩,⟨1,1,5,p.2.2,false,true⟩]:List Box))):(AV×List Box))) (xaI a n xs) (XFM Tryz.prog xcb Tryz.f115 (Tryz.f115.body.getD .skip) [AV.own (0:Id) 0 0 0,AV.str a] [{ ver:=0,sz:=2,ty:=(137:TypeId),xs:=[AV.agg [AV.own (0:Id) 0 0 0,AV.osl (1:Id) 0 0 n]],frz:=false,pm:=false },{ ver:=0,sz:=1,ty:=(5:TypeId),xs:=xs,frz:=false,pm:=true }]):=by
 refine eV (xda a n xs none (fun (p:Int×Nat×LA)=>some (((AV.tuple [AV.int .i64 p.1,.top],([⟨0,2,137,[AV.agg [AV.own 0 0 0 0,AV.osl 1 1 0 p.2.1]],false,false⟩,⟨1,1,5,p.2.2,false,true⟩]:List Box))):(AV×List Box)))) (by kernel_rfl) ?_;unfold xaI xda;repeat' first|exact eN|exact eS rfl|apply eB
def xhl:LA→List Box→Option (Bool×AV×List Box):=omOf (sCons (sEq (pOwn 0 0 0 0)) (sCons (sEq pStr) sNil)) (pCons (pBox 0 2 (137:TypeId) false false (pCons (pAgg (pCons (pOwn 0 0 0 0) (pCons (pOsl 1 0 0) pNil))) pNil)) (pCons (pBox 0 1 (5:TypeId) false true pAny) pNil)) fun (_,(a,_)) (((_,(n,_)),_),(b,_))=>((xaI a n b).isSome,((AV.tuple [AV.int .i64 ((xaI a n b).getD (0,0,[])).1,.top],([⟨0,2,137,[AV.agg [AV.own 0 0 0 0,AV.osl 1 1 0 ((xaI a n b).getD (0,0,[])).2.1]],false,false⟩,⟨1,1,5,((xaI a n b).getD (0,0,[])).2.2,false,true⟩]:List Box))))
theorem xl0:OmOk Tryz.prog ITryz 115 (xhl):=xfX fun c e h g f=>by
 obtain ⟨_,⟨i,_⟩⟩:=c
 obtain ⟨⟨⟨_,⟨n,_⟩⟩,_⟩,⟨j,_⟩⟩:=e
 obtain ⟨a,b⟩:=Prod.mk.inj f
 refine xdM (p:=xcb.pin) (xek mxTryz (inv0Ok Tryz.prog _) rfl xj8 rfl Tryz.func115 rfl (by kernel_rfl) xjn ((xlS _ _ _ _ (xaf (d:=(0,0,[])) a)).trans ?_))
 exact congrArg some b
def xEh:Env:=xDM.withM 115 xhl
theorem xBh:OrcOk Tryz.prog ITryz xEh:=xAP.withM xl0
def xce:Env:=xEh.fn 19 2 (lsOf []) (lpsOf [])
theorem xka:OrcOk Tryz.prog (ITryz.at 2) xce:=xBh.fn
theorem xjs:LoOk Tryz.prog (ITryz.at xce.pin) xce (Tryz.f115.body.getD .skip):=xaF (by kernel_rfl)
def xeM {T:Type} (a:List UInt8) (n:Nat) (b:LA) (δ:T) (κ:Int×Nat×LA→T):T:=br (n==b.length&&(decide ((n+(byteAVs a).length)*1≤140737488355328)&&decide (n+(byteAVs a).length≤4611686018427387904))) (κ ((↑a.length:Int),n+(byteAVs a).length,b++byteAVs a)) δ
def xbW (a:List UInt8) (n:Nat) (b:LA):Option (Int×Nat×LA):=xeM a n b none some
theorem xl6 (a:List UInt8) (n:Nat) (xs:LA):Enc (fun (p:Int×Nat×LA)=>(((AV.tuple [AV.int .i64 p.1,.top],([⟨0,2,137,[AV.agg [AV.own 0 0 0 0,AV.osl 1 2 0 p.2.1]],false,false⟩,⟨2,1,5,p.2.2,false,true⟩]:List Box))):(AV×List Box))) (xbW a n xs) (XFM Tryz.prog xce Tryz.f115 (Tryz.f115.body.getD .skip) [AV.own (0:Id) 0 0 0,AV.str a] [{ ver:=0,sz:=2,ty:=(137:TypeId),xs:=[AV.agg [AV.own (0:Id) 0 0 0,AV.osl (1:Id) 1 0 n]],frz:=false,pm:=false },{ ver:=1,sz:=1,ty:=(5:TypeId),xs:=xs,frz:=false,pm:=true }]):=by
 refine eV (xeM a n xs none (fun (p:Int×Nat×LA)=>some (((AV.tuple [AV.int .i64 p.1,.top],([⟨0,2,137,[AV.agg [AV.own 0 0 0 0,AV.osl 1 2 0 p.2.1]],false,false⟩,⟨2,1,5,p.2.2,false,true⟩]:List Box))):(AV×List Box)))) (by kernel_rfl) ?_;unfold xbW xeM;repeat' first|exact eN|exact eS rfl|apply eB
def xhd:LA→List Box→Option (Bool×AV×List Box):=omOf (sCons (sEq (pOwn 0 0 0 0)) (sCons (sEq pStr) sNil)) (pCons (pBox 0 2 (137:TypeId) false false (pCons (pAgg (pCons (pOwn 0 0 0 0) (pCons (pOsl 1 1 0) pNil))) pNil)) (pCons (pBox 1 1 (5:TypeId) false true pAny) pNil)) fun (_,(a,_)) (((_,(n,_)),_),(b,_))=>((xbW a n b).isSome,((AV.tuple [AV.int .i64 ((xbW a n b).getD (0,0,[])).1,.top],([⟨0,2,137,[AV.agg [AV.own 0 0 0 0,AV.osl 1 2 0 ((xbW a n b).getD (0,0,[])).2.1]],false,false⟩,⟨2,1,5,((xbW a n b).getD (0,0,[])).2.2,false,true⟩]:List Box))))
theorem xlY:OmOk Tryz.prog ITryz 115 (xhd):=xfX fun c e h g f=>by
 obtain ⟨_,⟨i,_⟩⟩:=c
 obtain ⟨⟨⟨_,⟨n,_⟩⟩,_⟩,⟨j,_⟩⟩:=e
 obtain ⟨a,b⟩:=Prod.mk.inj f
 refine xdM (p:=xce.pin) (xek mxTryz (inv0Ok Tryz.prog _) rfl xka rfl Tryz.func115 rfl (by kernel_rfl) xjs ((xl6 _ _ _ _ (xaf (d:=(0,0,[])) a)).trans ?_))
 exact congrArg some b
def xD9:Env:=xEh.withM 115 xhd
theorem xBD:OrcOk Tryz.prog ITryz xD9:=xBh.withM xlY
def xbR:Env:=xD9.fn 17 1 (lsOf []) (lpsOf [])
theorem xln:OrcOk Tryz.prog (ITryz.at 1) xbR:=xBD.fn
theorem xkf:LoOk Tryz.prog (ITryz.at xbR.pin) xbR (Tryz.f117.body.getD .skip):=xaF (by kernel_rfl)
def xgc (c:Int):Int:=((c))
def xhF (c:Int):Bool:=true
def xiI {T:Type} (c:Int) (δ:T) (κ:Int→T):T:=κ (c)
theorem xno (c:Int):Pre (xhF c) (XFM Tryz.prog xbR Tryz.f117 (Tryz.f117.body.getD .skip) [AV.own (0:Id) 0 0 0,AV.int .u8 c] [{ ver:=0,sz:=2,ty:=(137:TypeId),xs:=[AV.agg [AV.nilptr,AV.nils]],frz:=false,pm:=true }]) ((.top,([⟨0,2,137,[AV.agg [AV.own 0 0 0 0,AV.osl 1 0 0 1]],false,false⟩,⟨0,1,5,[AV.int .u8 (xgc c)],false,true⟩]:List Box))):=by
 have h:XFM Tryz.prog xbR Tryz.f117 (Tryz.f117.body.getD .skip) [AV.own (0:Id) 0 0 0,AV.int .u8 c] [{ ver:=0,sz:=2,ty:=(137:TypeId),xs:=[AV.agg [AV.nilptr,AV.nils]],frz:=false,pm:=true }]=xiI c none (fun (p:Int)=>some (((.top,([⟨0,2,137,[AV.agg [AV.own 0 0 0 0,AV.osl 1 0 0 1]],false,false⟩,⟨0,1,5,[AV.int .u8 p],false,true⟩]:List Box))):(AV×List Box))):=by kernel_rfl
 rw [h];unfold xgc xhF xiI;repeat' (first|exact Pre.none|exact Pre.tt rfl|exact Pre.some rfl|refine Pre.l ?_|refine Pre.r ?_|refine Pre.br (f:=fun (p:Int)=>(((.top,([⟨0,2,137,[AV.agg [AV.own 0 0 0 0,AV.osl 1 0 0 1]],false,false⟩,⟨0,1,5,[AV.int .u8 p],false,true⟩]:List Box))):(AV×List Box))) ?_ ?_|refine Pre.brt (f:=fun (p:Int)=>(((.top,([⟨0,2,137,[AV.agg [AV.own 0 0 0 0,AV.osl 1 0 0 1]],false,false⟩,⟨0,1,5,[AV.int .u8 p],false,true⟩]:List Box))):(AV×List Box))) ?_ ?_)
def xiF:LA→List Box→Option (Bool×AV×List Box):=omOf (sCons (sEq (pOwn 0 0 0 0)) (sCons (sEq (pInt .u8)) sNil)) (pCons (pBox 0 2 (137:TypeId) false true (pCons (pAgg (pCons pNilptr (pCons pNils pNil))) pNil)) pNil) fun (_,(c,_)) (((_,(_,_)),_),_)=>(true,((.top,([⟨0,2,137,[AV.agg [AV.own 0 0 0 0,AV.osl 1 0 0 1]],false,false⟩,⟨0,1,5,[AV.int .u8 (xgc c)],false,true⟩]:List Box))))
theorem xnq:OmOk Tryz.prog ITryz 117 (xiF):=xfX fun b d h f e=>by
 obtain ⟨_,⟨c,_⟩⟩:=b
 obtain ⟨⟨⟨_,⟨_,_⟩⟩,_⟩,_⟩:=d
 obtain ⟨g,a⟩:=Prod.mk.inj e
 refine xdM (p:=xbR.pin) (xek mxTryz (inv0Ok Tryz.prog _) rfl xln rfl Tryz.func117 rfl (by kernel_rfl) xkf ((Pre.get (xno _) rfl).trans ?_))
 exact congrArg some a
def xD8:Env:=xD9.withM 117 xiF
theorem xBL:OrcOk Tryz.prog ITryz xD8:=xBD.withM xnq
def xcz:Env:=xD8.fn 17 2 (lsOf []) (lpsOf [])
theorem xld:OrcOk Tryz.prog (ITryz.at 2) xcz:=xBL.fn
theorem xjV:LoOk Tryz.prog (ITryz.at xcz.pin) xcz (Tryz.f117.body.getD .skip):=xaF (by kernel_rfl)
def xe3 {T:Type} (c:Int) (n:Nat) (a:LA) (δ:T) (κ:Nat×LA→T):T:=br (n==a.length&&(decide ((n+1)*1≤140737488355328)&&decide (n+1≤4611686018427387904))) (κ (n+1,a++[AV.int .u8 c])) δ
def xbB (c:Int) (n:Nat) (a:LA):Option (Nat×LA):=xe3 c n a none some
theorem xmQ (c:Int) (n:Nat) (xs:LA):Enc (fun (p:Nat×LA)=>(((.top,([⟨0,2,137,[AV.agg [AV.own 0 0 0 0,AV.osl 1 1 0 p.1]],false,false⟩,⟨1,1,5,p.2,false,true⟩]:List Box))):(AV×List Box))) (xbB c n xs) (XFM Tryz.prog xcz Tryz.f117 (Tryz.f117.body.getD .skip) [AV.own (0:Id) 0 0 0,AV.int .u8 c] [{ ver:=0,sz:=2,ty:=(137:TypeId),xs:=[AV.agg [AV.own (0:Id) 0 0 0,AV.osl (1:Id) 0 0 n]],frz:=false,pm:=false },{ ver:=0,sz:=1,ty:=(5:TypeId),xs:=xs,frz:=false,pm:=true }]):=by
 refine eV (xe3 c n xs none (fun (p:Nat×LA)=>some (((.top,([⟨0,2,137,[AV.agg [AV.own 0 0 0 0,AV.osl 1 1 0 p.1]],false,false⟩,⟨1,1,5,p.2,false,true⟩]:List Box))):(AV×List Box)))) (by kernel_rfl) ?_;unfold xbB xe3;repeat' first|exact eN|exact eS rfl|apply eB
def xh1:LA→List Box→Option (Bool×AV×List Box):=omOf (sCons (sEq (pOwn 0 0 0 0)) (sCons (sEq (pInt .u8)) sNil)) (pCons (pBox 0 2 (137:TypeId) false false (pCons (pAgg (pCons (pOwn 0 0 0 0) (pCons (pOsl 1 0 0) pNil))) pNil)) (pCons (pBox 0 1 (5:TypeId) false true pAny) pNil)) fun (_,(c,_)) (((_,(n,_)),_),(a,_))=>((xbB c n a).isSome,((.top,([⟨0,2,137,[AV.agg [AV.own 0 0 0 0,AV.osl 1 1 0 ((xbB c n a).getD (0,[])).1]],false,false⟩,⟨1,1,5,((xbB c n a).getD (0,[])).2,false,true⟩]:List Box))))
theorem xmE:OmOk Tryz.prog ITryz 117 (xh1):=xfX fun e f i h g=>by
 obtain ⟨_,⟨c,_⟩⟩:=e
 obtain ⟨⟨⟨_,⟨n,_⟩⟩,_⟩,⟨j,_⟩⟩:=f
 obtain ⟨a,b⟩:=Prod.mk.inj g
 refine xdM (p:=xcz.pin) (xek mxTryz (inv0Ok Tryz.prog _) rfl xld rfl Tryz.func117 rfl (by kernel_rfl) xjV ((xmQ _ _ _ _ (xaf (d:=(0,[])) a)).trans ?_))
 exact congrArg some b
def xD0:Env:=xD8.withM 117 xh1
theorem xBA:OrcOk Tryz.prog ITryz xD0:=xBL.withM xmE
def xcy:Env:=xD0.fn 17 2 (lsOf []) (lpsOf [])
theorem xlf:OrcOk Tryz.prog (ITryz.at 2) xcy:=xBA.fn
theorem xjU:LoOk Tryz.prog (ITryz.at xcy.pin) xcy (Tryz.f117.body.getD .skip):=xaF (by kernel_rfl)
def xdq {T:Type} (c:Int) (n:Nat) (a:LA) (δ:T) (κ:Nat×LA→T):T:=br (n==a.length&&(decide ((n+1)*1≤140737488355328)&&decide (n+1≤4611686018427387904))) (κ (n+1,a++[AV.int .u8 c])) δ
def xbh (c:Int) (n:Nat) (a:LA):Option (Nat×LA):=xdq c n a none some
theorem xmK (c:Int) (n:Nat) (xs:LA):Enc (fun (p:Nat×LA)=>(((.top,([⟨0,2,137,[AV.agg [AV.own 0 0 0 0,AV.osl 1 2 0 p.1]],false,false⟩,⟨2,1,5,p.2,false,true⟩]:List Box))):(AV×List Box))) (xbh c n xs) (XFM Tryz.prog xcy Tryz.f117 (Tryz.f117.body.getD .skip) [AV.own (0:Id) 0 0 0,AV.int .u8 c] [{ ver:=0,sz:=2,ty:=(137:TypeId),xs:=[AV.agg [AV.own (0:Id) 0 0 0,AV.osl (1:Id) 1 0 n]],frz:=false,pm:=false },{ ver:=1,sz:=1,ty:=(5:TypeId),xs:=xs,frz:=false,pm:=true }]):=by
 refine eV (xdq c n xs none (fun (p:Nat×LA)=>some (((.top,([⟨0,2,137,[AV.agg [AV.own 0 0 0 0,AV.osl 1 2 0 p.1]],false,false⟩,⟨2,1,5,p.2,false,true⟩]:List Box))):(AV×List Box)))) (by kernel_rfl) ?_;unfold xbh xdq;repeat' first|exact eN|exact eS rfl|apply eB
def xiq:LA→List Box→Option (Bool×AV×List Box):=omOf (sCons (sEq (pOwn 0 0 0 0)) (sCons (sEq (pInt .u8)) sNil)) (pCons (pBox 0 2 (137:TypeId) false false (pCons (pAgg (pCons (pOwn 0 0 0 0) (pCons (pOsl 1 1 0) pNil))) pNil)) (pCons (pBox 1 1 (5:TypeId) false true pAny) pNil)) fun (_,(c,_)) (((_,(n,_)),_),(a,_))=>((xbh c n a).isSome,((.top,([⟨0,2,137,[AV.agg [AV.own 0 0 0 0,AV.osl 1 2 0 ((xbh c n a).getD (0,[])).1]],false,false⟩,⟨2,1,5,((xbh c n a).getD (0,[])).2,false,true⟩]:List Box))))
theorem xmY:OmOk Tryz.prog ITryz 117 (xiq):=xfX fun e f i h g=>by
 obtain ⟨_,⟨c,_⟩⟩:=e
 obtain ⟨⟨⟨_,⟨n,_⟩⟩,_⟩,⟨j,_⟩⟩:=f
 obtain ⟨a,b⟩:=Prod.mk.inj g
 refine xdM (p:=xcy.pin) (xek mxTryz (inv0Ok Tryz.prog _) rfl xlf rfl Tryz.func117 rfl (by kernel_rfl) xjU ((xmK _ _ _ _ (xaf (d:=(0,[])) a)).trans ?_))
 exact congrArg some b
def xHx:Env:=xD0.withM 117 xiq
theorem xHz:OrcOk Tryz.prog ITryz xHx:=xBA.withM xmY
abbrev EK1:Env:=xHx
theorem xFv:OrcOk Tryz.prog ITryz EK1:=xHz
end Go.Sim.M
end
noncomputable section
set_option maxRecDepth 100000
namespace Go.Sim.M
open Go.IntKind (i64 u64 u8)
open Go.RowKit Go.Proofs
def xgq:Env:=EK1.fn 18 0 (lsOf []) (lpsOf [])
theorem xtp:OrcOk Tryz.prog (ITryz.at 0) xgq:=xFv.fn
theorem xsj:LoOk Tryz.prog (ITryz.at xgq.pin) xgq (Tryz.f52.body.getD .skip):=xaF (by kernel_rfl)
def xe1 (a b:Int):Bool:=(br (decide (a≥0)) (br (decide (a<b)) ((decide (b≤1099511627776))) ((false))) ((false)))
def xpy (a b:Int):Bool:=true
def xrn {T:Type} (a b:Int) (δ:T) (κ:Bool→T):T:=br (decide (a≥0)) (br (decide (a<b)) (κ (decide (b≤1099511627776))) (κ (false))) (κ (false))
theorem xyN (a b:Int):Pre (xpy a b) (XF Tryz.prog xgq Tryz.f52 (Tryz.f52.body.getD .skip) [AV.agg [AV.int .i64 a,AV.int .i64 b]]) (AV.bool (xe1 a b)):=by
 have h:XF Tryz.prog xgq Tryz.f52 (Tryz.f52.body.getD .skip) [AV.agg [AV.int .i64 a,AV.int .i64 b]]=xrn a b none (fun (p:Bool)=>some ((AV.bool p):AV)):=by kernel_rfl
 rw [h];unfold xe1 xpy xrn;repeat' (first|exact Pre.none|exact Pre.tt rfl|exact Pre.some rfl|refine Pre.l ?_|refine Pre.r ?_|refine Pre.br (f:=fun (p:Bool)=>((AV.bool p):AV)) ?_ ?_|refine Pre.brt (f:=fun (p:Bool)=>((AV.bool p):AV)) ?_ ?_)
def xrz:LA→Option (Bool×AV):=ocOf (sCons (sAgg (sCons (sEq (pInt .i64)) (sCons (sEq (pInt .i64)) sNil))) sNil) fun ((a,(b,_)),_)=>(true,(AV.bool (xe1 a b)))
theorem xyA:OcOk Tryz.prog ITryz 52 (xrz):=xbc fun b g c=>by
 obtain ⟨⟨d,⟨e,_⟩⟩,_⟩:=b
 obtain ⟨f,a⟩:=Prod.mk.inj c
 refine xaQ (p:=xgq.pin) (xa1 mxTryz (inv0Ok Tryz.prog _) rfl xtp Tryz.func52 rfl (by kernel_rfl) xsj ((Pre.get (xyN _ _) rfl).trans ?_))
 exact congrArg some a
def xv0:Env:=EK1.with 52 xrz
theorem xsq:OrcOk Tryz.prog ITryz xv0:=xFv.with xyA
def xgA:Env:=xv0.fn 37 0 (lsOf []) (lpsOf [])
theorem xtk:OrcOk Tryz.prog (ITryz.at 0) xgA:=xsq.fn
theorem xqQ:LoOk Tryz.prog (ITryz.at xgA.pin) xgA (loopAt Tryz.f91 1):=xaF (by kernel_rfl)
def xf2 (b:Int) (a:LA):=((a.getD (0+b.toNat) .top).cells.getD 0 .top).toInt
def xkh (d:Int) (c:Nat) (b a:LA):=((xaI (Lib.itoa (xf2 d b)) c a).getD (0,0,[])).snd
def xkg (d:Int) (c:Nat) (b a:LA):=xbh 32 (xkh d c b a).fst (xkh d c b a).snd
def xkB (d:Int) (c:Nat) (b a:LA):=(xkg d c b a).getD (0,[])
def xgH {T:Type} (k:LA) (l j:Int) (e:Nat) (i c:Int) (d:Nat) (f g:Int) (h:List UInt8) (a b:LA) (δ:T) (κl:(Int×Nat×Int×Int×List UInt8×LA×LA)→T) (κr:(Nat×Int×Int×List UInt8×LA)→T):T:=br (decide (c<i)) (br (decide (0≤c)&&decide (c<(↑e:Int))) (br (decide (0+c.toNat<a.length)&&hasSh1 (Sh.int .i64) ((a.getD (0+c.toNat) .top).cells.getD 0 .top)) (br (decide ((-9223372036854775808)≤xf2 c a)&&decide (xf2 c a≤9223372036854775807)) (br ((xaI (Lib.itoa (xf2 c a)) d b).isSome) (br ((xkg c d a b).isSome) (κl (i64.wrap (c+1),(xkB c d a b).fst,f,g,h,a,(xkB c d a b).snd)) δ) δ) δ) δ) δ) (κr (d,f,g,h,b))
def xbb (k:LA) (l e:Int) (c:Nat) (f:Int):(Int×Nat×Int×Int×List UInt8×LA×LA)→Option ((Int×Nat×Int×Int×List UInt8×LA×LA)⊕(Nat×Int×Int×List UInt8×LA)):=fun (g,d,h,i,j,b,a)=>xgH k l e c f g d h i j b a none (fun s=>some (.inl s)) (fun p=>some (.inr p))
def xff (k:LA) (l e:Int) (c:Nat) (f:Int):(Int×Nat×Int×Int×List UInt8×LA×LA)→LA×List Box:=fun (g,d,h,i,j,b,a)=>([AV.own 0 0 0 0,AV.own 1 0 0 0,AV.list 3 k,AV.int .i64 l,AV.int .i64 e,AV.osl 2 0 0 c,AV.int .i64 f,AV.int .i64 g],[⟨0,2,137,[AV.agg [AV.own 0 0 0 0,AV.osl 3 0 0 d]],false,false⟩,⟨0,3,73,[AV.agg [AV.int .i64 h,AV.int .i64 i,AV.str j]],false,true⟩,⟨0,1,3,b,false,true⟩,⟨0,1,5,a,false,true⟩])
def xey (c:LA) (d a:Int) (b:Nat) (e:Int):(Nat×Int×Int×List UInt8×LA)→LR:=fun p=>(.leaf (.exit 2) [AV.own 0 0 0 0,AV.own 1 0 0 0,AV.list 3 c,AV.int .i64 d,AV.int .i64 a] [⟨0,2,137,[AV.agg [AV.own 0 0 0 0,AV.osl 2 0 0 p.1]],false,false⟩,⟨0,3,73,[AV.agg [AV.int .i64 p.2.1,AV.int .i64 p.2.2.1,AV.str p.2.2.2.1]],false,true⟩,⟨0,1,5,p.2.2.2.2,false,true⟩])
abbrev xuu (a:LA) (H:List Box):=XR Tryz.prog xgA [3,5,8,9,10,21,22,23] [3,5,8,9,10] [] (loopAt Tryz.f91 1) a H
theorem xuq (d:LA) (e b:Int) (a:Nat) (c:Int) (s:Int×Nat×Int×Int×List UInt8×LA×LA):Enc (encR (xff d e b a c) (xey d e b a c)) (xbb d e b a c s) (xuu (xff d e b a c s).1 (xff d e b a c s).2):=by
 obtain ⟨i,h,j,k,l,g,f⟩:=s
 refine eV (xgH d e b a c i h j k l g f none (fun s=>some (encR (xff d e b a c) (xey d e b a c) (.inl s))) (fun p=>some (encR (xff d e b a c) (xey d e b a c) (.inr p)))) (by kernel_rfl) ?_;unfold xbb xgH;repeat' first|exact eN|exact eS rfl|apply eB
def xj1:Lp:=lpOf [3,5,8,9,10,21,22,23] [3,5,8,9,10] [] (pCons (pOwn 0 0 0 0) (pCons (pOwn 1 0 0 0) (pCons (pList 3 pAny) (pCons (pInt .i64) (pCons (pInt .i64) (pCons (pOsl 2 0 0) (pCons (pInt .i64) (pCons (pInt .i64) pNil)))))))) (pCons (pBox 0 2 137 false false (pCons (pAgg (pCons (pOwn 0 0 0 0) (pCons (pOsl 3 0 0) pNil))) pNil)) (pCons (pBox 0 3 73 false true (pCons (pAgg (pCons (pInt .i64) (pCons (pInt .i64) (pCons pStr pNil)))) pNil)) (pCons (pBox 0 1 3 false true pAny) (pCons (pBox 0 1 5 false true pAny) pNil)))) fun (_,(_,(k,(l,(d,(b,(e,(g,_)))))))) (((_,(f,_)),_),(((h,(i,(j,_))),_),(c,(a,_))))=>((Iter (xbb k l d b e) (g,f,h,i,j,c,a)).isSome,xey k l d b e ((Iter (xbb k l d b e) (g,f,h,i,j,c,a)).getD (0,0,0,[],[])))
theorem xnB:LoopOk Tryz.prog (ITryz.at xgA.pin) xgA.nt (loopAt Tryz.f91 1) xj1:=xbr fun n o r q=>by
 obtain ⟨_,⟨_,⟨f,⟨g,⟨c,⟨a,⟨d,⟨i,_⟩⟩⟩⟩⟩⟩⟩⟩:=n
 obtain ⟨⟨⟨_,⟨h,_⟩⟩,_⟩,⟨⟨⟨j,⟨k,⟨l,_⟩⟩⟩,_⟩,⟨e,⟨b,_⟩⟩⟩⟩:=o
 obtain ⟨m,rfl⟩:=Prod.mk.inj q
 exact xaG mxTryz (inv0Ok Tryz.prog _) rfl xtk xqQ (xff f g c a d) (xey f g c a d) (fun p=>by simp only [xey,LR.eval];first|(simp;done)|(repeat' split<;>simp)) (xuq f g c a d) (s:=(i,h,j,k,l,e,b)) (xaf m)
def xgf:Env:=xv0.fn 37 0 (lsOf []) (lpsOf [(6,xj1)])
theorem xts:OrcOk Tryz.prog (ITryz.at 0) xgf:=xsq.fn
theorem xq5:LoOk Tryz.prog (ITryz.at xgf.pin) xgf (loopAt Tryz.f91 0):=xa7 (ls:=[loopAt Tryz.f91 1]) (by kernel_rfl) (lkC xnB lkN)
def xj9 (b:LA) (e a:Int) (d:Nat) (c:LA):=Iter (xbb b e a 3 3) (0,d,((b.getD a.toNat .top).cells.getD 0 .top).toInt,((b.getD a.toNat .top).cells.getD 1 .top).toInt,((b.getD a.toNat .top).cells.getD 2 .top).toStr,[AV.int .i64 ((b.getD a.toNat .top).cells.getD 0 .top).toInt,AV.int .i64 ((b.getD a.toNat .top).cells.getD 1 .top).toInt,AV.int .i64 (↑((b.getD a.toNat .top).cells.getD 2 .top).toStr.length:Int)],c)
def xjZ (d:LA) (e c:Int) (b:Nat) (a:LA):=(xj9 d e c b a).getD (0,0,0,[],[])
def xkq (d:LA) (e c:Int) (b:Nat) (a:LA):=(xjZ d e c b a).snd.snd.snd
def xj5 (d:LA) (e c:Int) (b:Nat) (a:LA):=xaI (xkq d e c b a).fst (xjZ d e c b a).fst (xkq d e c b a).snd
def xj6 (d:LA) (e c:Int) (b:Nat) (a:LA):=((xj5 d e c b a).getD (0,0,[])).snd
def xgI {T:Type} (d:LA) (e b:Int) (c:Nat) (a:LA) (δ:T) (κl:(Int×Nat×LA)→T) (κr:(Nat×LA)→T):T:=br (decide (b<e)) (br (decide (0≤b)&&decide (b<d.length)) (br (decide (b.toNat<d.length)&&((d.getD b.toNat .top).cells.length==3&&hasShs [Sh.int .i64,Sh.int .i64,Sh.str] (d.getD b.toNat .top).cells 0)) (br ((xj9 d e b c a).isSome) (br ((xj5 d e b c a).isSome) (κl (i64.wrap (b+1),(xj6 d e b c a).fst,(xj6 d e b c a).snd)) δ) δ) δ) δ) (κr (c,a))
def xb8 (d:LA) (e:Int):(Int×Nat×LA)→Option ((Int×Nat×LA)⊕(Nat×LA)):=fun (c,b,a)=>xgI d e c b a none (fun s=>some (.inl s)) (fun p=>some (.inr p))
def xfj (d:LA) (e:Int):(Int×Nat×LA)→LA×List Box:=fun (c,b,a)=>([AV.own 0 0 0 0,AV.list 3 d,AV.int .i64 e,AV.int .i64 c],[⟨0,2,137,[AV.agg [AV.own 0 0 0 0,AV.osl 1 0 0 b]],false,false⟩,⟨0,1,5,a,false,true⟩])
def xeo (a:LA) (b:Int):(Nat×LA)→LR:=fun p=>(.leaf (.exit 0) [AV.own 0 0 0 0] [⟨0,2,137,[AV.agg [AV.own 0 0 0 0,AV.osl 1 0 0 p.1]],false,false⟩,⟨0,1,5,p.2,false,true⟩])
abbrev xuA (a:LA) (H:List Box):=XR Tryz.prog xgf [3,8,9,10] [3] [] (loopAt Tryz.f91 0) a H
theorem xuD (a:LA) (b:Int) (s:Int×Nat×LA):Enc (encR (xfj a b) (xeo a b)) (xb8 a b s) (xuA (xfj a b s).1 (xfj a b s).2):=by
 obtain ⟨e,d,c⟩:=s
 refine eV (xgI a b e d c none (fun s=>some (encR (xfj a b) (xeo a b) (.inl s))) (fun p=>some (encR (xfj a b) (xeo a b) (.inr p)))) (by kernel_rfl) ?_;unfold xb8 xgI;repeat' first|exact eN|exact eS rfl|apply eB
def xof:Lp:=lpOf [3,8,9,10] [3] [] (pCons (pOwn 0 0 0 0) (pCons (pList 3 pAny) (pCons (pInt .i64) (pCons (pInt .i64) pNil)))) (pCons (pBox 0 2 137 false false (pCons (pAgg (pCons (pOwn 0 0 0 0) (pCons (pOsl 1 0 0) pNil))) pNil)) (pCons (pBox 0 1 5 false true pAny) pNil)) fun (_,(d,(e,(c,_)))) (((_,(b,_)),_),(a,_))=>((Iter (xb8 d e) (c,b,a)).isSome,xeo d e ((Iter (xb8 d e) (c,b,a)).getD (0,[])))
theorem xs1:LoopOk Tryz.prog (ITryz.at xgf.pin) xgf.nt (loopAt Tryz.f91 0) xof:=xbr fun g h j i=>by
 obtain ⟨_,⟨b,⟨c,⟨e,_⟩⟩⟩⟩:=g
 obtain ⟨⟨⟨_,⟨d,_⟩⟩,_⟩,⟨a,_⟩⟩:=h
 obtain ⟨f,rfl⟩:=Prod.mk.inj i
 exact xaG mxTryz (inv0Ok Tryz.prog _) rfl xts xq5 (xfj b c) (xeo b c) (fun p=>by simp only [xeo,LR.eval];first|(simp;done)|(repeat' split<;>simp)) (xuD b c) (s:=(e,d,a)) (xaf f)
def xig:Env:=xv0.fn 37 0 (lsOf []) (lpsOf [(6,xj1),(3,xof)])
theorem xtr:OrcOk Tryz.prog (ITryz.at 0) xig:=xsq.fn
theorem xsu:LoOk Tryz.prog (ITryz.at xig.pin) xig (Tryz.f91.body.getD .skip):=xa7 (ls:=[loopAt Tryz.f91 0,loopAt Tryz.f91 1]) (by kernel_rfl) (lkC xs1 (lkC xnB lkN))
def xdL (a:LA):=((a.getD 0 .top).cells.getD 0 .top).toInt
def xm0 (a:LA):=xbB 32 ((xaL (Lib.itoa (xdL a))).getD (0,0,[])).snd.fst ((xaL (Lib.itoa (xdL a))).getD (0,0,[])).snd.snd
def xmX (a:LA):=(xm0 a).getD (0,[])
def xm9 (a:LA):=Iter (xbb a (↑a.length:Int) 0 3 3) (1,(xmX a).fst,xdL a,((a.getD 0 .top).cells.getD 1 .top).toInt,((a.getD 0 .top).cells.getD 2 .top).toStr,[AV.int .i64 (xdL a),AV.int .i64 ((a.getD 0 .top).cells.getD 1 .top).toInt,AV.int .i64 (↑((a.getD 0 .top).cells.getD 2 .top).toStr.length:Int)],(xmX a).snd)
def xmU (a:LA):=(xm9 a).getD (0,0,0,[],[])
def xmA (a:LA):=(xmU a).snd.snd.snd
def xmI (a:LA):=xaI (xmA a).fst (xmU a).fst (xmA a).snd
def xmM (a:LA):=((xmI a).getD (0,0,[])).snd
def xmS (a:LA):=Iter (xb8 a (↑a.length:Int)) (1,(xmM a).fst,(xmM a).snd)
def xnf (a:LA):=(xmS a).getD (0,[])
def xhY (a:LA):=(xnf a).snd
def xkL {T:Type} (a:LA) (δ:T) (κ:List UInt8→T):T:=br (decide (0<(↑a.length:Int))) (br (decide (0<(↑a.length:Int))) (br (decide (0<a.length)&&((a.getD 0 .top).cells.length==3&&hasShs [Sh.int .i64,Sh.int .i64,Sh.str] (a.getD 0 .top).cells 0)) (br (decide ((-9223372036854775808)≤xdL a)&&decide (xdL a≤9223372036854775807)) (br ((xaL (Lib.itoa (xdL a))).isSome) (br ((xm0 a).isSome) (br ((xm9 a).isSome) (br ((xmI a).isSome) (br ((xmS a).isSome) (br (decide ((xnf a).fst=(xhY a).length)&&isBytes (xhY a)&&decide ((xhY a).length≠0)) (κ (strOf (xhY a))) δ) δ) δ) δ) δ) δ) δ) δ) δ) (κ ([]))
def xfb (a:LA):Option (List UInt8):=xkL a none some
theorem xyB (a:LA):Enc (fun (p:List UInt8)=>((AV.str p):AV)) (xfb a) (XF Tryz.prog xig Tryz.f91 (Tryz.f91.body.getD .skip) [AV.list 3 a]):=by
 refine eV (xkL a none (fun (p:List UInt8)=>some ((AV.str p):AV))) (by kernel_rfl) ?_;unfold xfb xkL;repeat' first|exact eN|exact eS rfl|apply eB
def xrl:LA→Option (Bool×AV):=ocOf (sCons (sList 3 pAny) sNil) fun (a,_)=>((xfb a).isSome,(AV.str ((xfb a).getD [])))
theorem xyQ:OcOk Tryz.prog ITryz 91 (xrl):=xbc fun c g e=>by
 obtain ⟨f,_⟩:=c
 obtain ⟨a,b⟩:=Prod.mk.inj e
 refine xaQ (p:=xig.pin) (xa1 mxTryz (inv0Ok Tryz.prog _) rfl xtr Tryz.func91 rfl (by kernel_rfl) xsu ((xyB _ _ (xaf (d:=[]) a)).trans ?_))
 exact congrArg some b
def xHJ:Env:=xv0.with 91 xrl
theorem xGP:OrcOk Tryz.prog ITryz xHJ:=xsq.with xyQ
abbrev EK2:Env:=xHJ
theorem xFW:OrcOk Tryz.prog ITryz EK2:=xGP
end Go.Sim.M
end
noncomputable section
set_option maxRecDepth 100000
namespace Go.Sim.M
open Go.IntKind (i64 u64 u8)
open Go.RowKit Go.Proofs
def xiP:Env:=EK2.fn 6 0 (lsOf []) (lpsOf [])
theorem xwy:OrcOk Tryz.prog (ITryz.at 0) xiP:=xFW.fn
theorem xuK:LoOk Tryz.prog (ITryz.at xiP.pin) xiP (Tryz.f84.body.getD .skip):=xaF (by kernel_rfl)
def xg3 (x:Int):Bool:=((x != x))
def xsN (x:Int):Bool:=true
def xu6 {T:Type} (x:Int) (δ:T) (κ:Bool→T):T:=κ (x != x)
theorem xCm (x:Int):Pre (xsN x) (XF Tryz.prog xiP Tryz.f84 (Tryz.f84.body.getD .skip) [AV.int .i64 x]) (AV.bool (xg3 x)):=by
 have h:XF Tryz.prog xiP Tryz.f84 (Tryz.f84.body.getD .skip) [AV.int .i64 x]=xu6 x none (fun (p:Bool)=>some ((AV.bool p):AV)):=by kernel_rfl
 rw [h];unfold xg3 xsN xu6;repeat' (first|exact Pre.none|exact Pre.tt rfl|exact Pre.some rfl|refine Pre.l ?_|refine Pre.r ?_|refine Pre.br (f:=fun (p:Bool)=>((AV.bool p):AV)) ?_ ?_|refine Pre.brt (f:=fun (p:Bool)=>((AV.bool p):AV)) ?_ ?_)
def xu5:LA→Option (Bool×AV):=ocOf (sCons (sEq (pInt .i64)) sNil) fun (x,_)=>(true,(AV.bool (xg3 x)))
theorem xB0:OcOk Tryz.prog ITryz 84 (xu5):=xbc fun b e c=>by
 obtain ⟨x,_⟩:=b
 obtain ⟨d,a⟩:=Prod.mk.inj c
 refine xaQ (p:=xiP.pin) (xa1 mxTryz (inv0Ok Tryz.prog _) rfl xwy Tryz.func84 rfl (by kernel_rfl) xuK ((Pre.get (xCm _) rfl).trans ?_))
 exact congrArg some a
def xDP:Env:=EK2.with 84 xu5
theorem xAs:OrcOk Tryz.prog ITryz xDP:=xFW.with xB0
def xg9:Env:=xDP.fn 20 0 (lsOf []) (lpsOf [])
theorem xut:OrcOk Tryz.prog (ITryz.at 0) xg9:=xAs.fn
theorem xsO:LoOk Tryz.prog (ITryz.at xg9.pin) xg9 (Tryz.f54.body.getD .skip):=xaF (by kernel_rfl)
def xfZ (x y:Int):Int:=(br (xg3 x) (br (xg3 y) ((0)) (((-1)))) (br (xg3 y) ((1)) (br (decide (x<y)) (((-1))) (br (decide (x>y)) ((1)) ((0))))))
def xqn (x y:Int):Bool:=true
def xsM {T:Type} (x y:Int) (δ:T) (κ:Int→T):T:=br (xg3 x) (br (xg3 y) (κ (0)) (κ ((-1)))) (br (xg3 y) (κ (1)) (br (decide (x<y)) (κ ((-1))) (br (decide (x>y)) (κ (1)) (κ (0)))))
theorem xAe (x y:Int):Pre (xqn x y) (XF Tryz.prog xg9 Tryz.f54 (Tryz.f54.body.getD .skip) [AV.int .i64 x,AV.int .i64 y]) (AV.int .i64 (xfZ x y)):=by
 have h:XF Tryz.prog xg9 Tryz.f54 (Tryz.f54.body.getD .skip) [AV.int .i64 x,AV.int .i64 y]=xsM x y none (fun (p:Int)=>some ((AV.int .i64 p):AV)):=by kernel_rfl
 rw [h];unfold xfZ xqn xsM;repeat' (first|exact Pre.none|exact Pre.tt rfl|exact Pre.some rfl|refine Pre.l ?_|refine Pre.r ?_|refine Pre.br (f:=fun (p:Int)=>((AV.int .i64 p):AV)) ?_ ?_|refine Pre.brt (f:=fun (p:Int)=>((AV.int .i64 p):AV)) ?_ ?_)
def xsJ:LA→Option (Bool×AV):=ocOf (sCons (sEq (pInt .i64)) (sCons (sEq (pInt .i64)) sNil)) fun (x,(y,_))=>(true,(AV.int .i64 (xfZ x y)))
theorem xzx:OcOk Tryz.prog ITryz 54 (xsJ):=xbc fun b e c=>by
 obtain ⟨x,⟨y,_⟩⟩:=b
 obtain ⟨d,a⟩:=Prod.mk.inj c
 refine xaQ (p:=xg9.pin) (xa1 mxTryz (inv0Ok Tryz.prog _) rfl xut Tryz.func54 rfl (by kernel_rfl) xsO ((Pre.get (xAe _ _) rfl).trans ?_))
 exact congrArg some a
def xDE:Env:=xDP.with 54 xsJ
theorem xBE:OrcOk Tryz.prog ITryz xDE:=xAs.with xzx
def xj2:Env:=xDE.fn 18 0 (lsOf []) (lpsOf [])
theorem xAG:OrcOk Tryz.prog (ITryz.at 0) xj2:=xBE.fn
theorem xyR:LoOk Tryz.prog (ITryz.at xj2.pin) xj2 (Tryz.f71.body.getD .skip):=xa7 (ls:=[loopAt Tryz.f71 0]) (by kernel_rfl) (fun l a lp b=>by
 simp only [List.mem_cons,List.not_mem_nil,or_false] at a
 rcases a with rfl
 · rw [show xj2.lp (codeId (loopAt Tryz.f71 0))=none by kernel_rfl] at b
   simp at b)
def xpz (a b c:Int):Int:=(br (a != 0) ((a)) (br (b != 0) ((b)) (br (c != 0) ((c)) ((0)))))
def xwT (a b c:Int):Bool:=true
def xAX {T:Type} (a b c:Int) (δ:T) (κ:Int→T):T:=br (a != 0) (κ (a)) (br (b != 0) (κ (b)) (br (c != 0) (κ (c)) (κ (0))))
theorem xGE (a b c:Int):Pre (xwT a b c) (XF Tryz.prog xj2 Tryz.f71 (Tryz.f71.body.getD .skip) [AV.list 1 [AV.int .i64 a,AV.int .i64 b,AV.int .i64 c]]) (AV.int .i64 (xpz a b c)):=by
 have h:XF Tryz.prog xj2 Tryz.f71 (Tryz.f71.body.getD .skip) [AV.list 1 [AV.int .i64 a,AV.int .i64 b,AV.int .i64 c]]=xAX a b c none (fun (p:Int)=>some ((AV.int .i64 p):AV)):=by kernel_rfl
 rw [h];unfold xpz xwT xAX;repeat' (first|exact Pre.none|exact Pre.tt rfl|exact Pre.some rfl|refine Pre.l ?_|refine Pre.r ?_|refine Pre.br (f:=fun (p:Int)=>((AV.int .i64 p):AV)) ?_ ?_|refine Pre.brt (f:=fun (p:Int)=>((AV.int .i64 p):AV)) ?_ ?_)
def xAM:LA→Option (Bool×AV):=ocOf (sCons (sList 1 (pCons (pInt .i64) (pCons (pInt .i64) (pCons (pInt .i64) pNil)))) sNil) fun ((a,(b,(c,_))),_)=>(true,(AV.int .i64 (xpz a b c)))
theorem xG5:OcOk Tryz.prog ITryz 71 (xAM):=xbc fun e h f=>by
 obtain ⟨⟨a,⟨b,⟨c,_⟩⟩⟩,_⟩:=e
 obtain ⟨g,d⟩:=Prod.mk.inj f
 refine xaQ (p:=xj2.pin) (xa1 mxTryz (inv0Ok Tryz.prog _) rfl xAG Tryz.func71 rfl (by kernel_rfl) xyR ((Pre.get (xGE _ _ _) rfl).trans ?_))
 exact congrArg some d
def xDW:Env:=xDE.with 71 xAM
theorem xBQ:OrcOk Tryz.prog ITryz xDW:=xBE.with xG5
def xfP:Env:=xDW.fn 22 0 (lsOf []) (lpsOf [])
theorem xsx:OrcOk Tryz.prog (ITryz.at 0) xfP:=xBQ.fn
theorem xre:LoOk Tryz.prog (ITryz.at xfP.pin) xfP (Tryz.f114.body.getD .skip):=xaF (by kernel_rfl)
def xbD (a b:Int) (c:List UInt8) (d e:Int) (f:List UInt8):Int:=((xpz (xfZ a d) (xfZ b e) (Lib.compareBytes c f)))
def xoQ (a b:Int) (c:List UInt8) (d e:Int) (f:List UInt8):Bool:=true
def xqy {T:Type} (a b:Int) (c:List UInt8) (d e:Int) (f:List UInt8) (δ:T) (κ:Int→T):T:=κ (xpz (xfZ a d) (xfZ b e) (Lib.compareBytes c f))
theorem xwl (a b:Int) (c:List UInt8) (d e:Int) (g:List UInt8):Pre (xoQ a b c d e g) (XF Tryz.prog xfP Tryz.f114 (Tryz.f114.body.getD .skip) [AV.agg [AV.int .i64 a,AV.int .i64 b,AV.str c],AV.agg [AV.int .i64 d,AV.int .i64 e,AV.str g]]) (AV.int .i64 (xbD a b c d e g)):=by
 have h:XF Tryz.prog xfP Tryz.f114 (Tryz.f114.body.getD .skip) [AV.agg [AV.int .i64 a,AV.int .i64 b,AV.str c],AV.agg [AV.int .i64 d,AV.int .i64 e,AV.str g]]=xqy a b c d e g none (fun (p:Int)=>some ((AV.int .i64 p):AV)):=by kernel_rfl
 rw [h];unfold xbD xoQ xqy;repeat' (first|exact Pre.none|exact Pre.tt rfl|exact Pre.some rfl|refine Pre.l ?_|refine Pre.r ?_|refine Pre.br (f:=fun (p:Int)=>((AV.int .i64 p):AV)) ?_ ?_|refine Pre.brt (f:=fun (p:Int)=>((AV.int .i64 p):AV)) ?_ ?_)
def xqw:LA→Option (Bool×AV):=ocOf (sCons (sAgg (sCons (sEq (pInt .i64)) (sCons (sEq (pInt .i64)) (sCons (sEq pStr) sNil)))) (sCons (sAgg (sCons (sEq (pInt .i64)) (sCons (sEq (pInt .i64)) (sCons (sEq pStr) sNil)))) sNil)) fun ((a,(b,(c,_))),((d,(e,(f,_))),_))=>(true,(AV.int .i64 (xbD a b c d e f)))
theorem xwf:OcOk Tryz.prog ITryz 114 (xqw):=xbc fun b k c=>by
 obtain ⟨⟨d,⟨e,⟨f,_⟩⟩⟩,⟨⟨g,⟨h,⟨i,_⟩⟩⟩,_⟩⟩:=b
 obtain ⟨j,a⟩:=Prod.mk.inj c
 refine xaQ (p:=xfP.pin) (xa1 mxTryz (inv0Ok Tryz.prog _) rfl xsx Tryz.func114 rfl (by kernel_rfl) xre ((Pre.get (xwl _ _ _ _ _ _) rfl).trans ?_))
 exact congrArg some a
def xAo:Env:=xDW.with 114 xqw
theorem xvQ:OrcOk Tryz.prog ITryz xAo:=xBQ.with xwf
def xdG:Env:=xAo.fn 39 0 (lsOf []) (lpsOf [])
theorem xpo:OrcOk Tryz.prog (ITryz.at 0) xdG:=xvQ.fn
theorem xnj:LoOk Tryz.prog (ITryz.at xdG.pin) xdG (loopAt Tryz.f113 0):=xaF (by kernel_rfl)
def xcY (c b:LA) (a:Int):=xbD ((b.getD a.toNat .top).cells.getD 0 .top).toInt ((b.getD a.toNat .top).cells.getD 1 .top).toInt ((b.getD a.toNat .top).cells.getD 2 .top).toStr ((c.getD a.toNat .top).cells.getD 0 .top).toInt ((c.getD a.toNat .top).cells.getD 1 .top).toInt ((c.getD a.toNat .top).cells.getD 2 .top).toStr
def xcA {T:Type} (e c b:LA) (d a:Int) (δ:T) (κl:(Int)→T) (κr:(Bool×(Int)×(Unit))→T):T:=br (decide (a<d)) (br (decide (0≤a)&&decide (a<b.length)) (br (decide (a.toNat<b.length)&&((b.getD a.toNat .top).cells.length==3&&hasShs [Sh.int .i64,Sh.int .i64,Sh.str] (b.getD a.toNat .top).cells 0)) (br (decide (a≥c.length)) (κr (true,(1),())) (br (decide (0≤a)&&decide (a<c.length)) (br (decide (a.toNat<c.length)&&((c.getD a.toNat .top).cells.length==3&&hasShs [Sh.int .i64,Sh.int .i64,Sh.str] (c.getD a.toNat .top).cells 0)) (br (xcY c b a != 0) (κr (true,(xcY c b a),())) (κl (i64.wrap (a+1)))) δ) δ)) δ) δ) (κr (false,0,()))
def xaM (d e a:LA) (b:Int):(Int)→Option ((Int)⊕(Bool×(Int)×(Unit))):=fun (c)=>xcA d e a b c none (fun s=>some (.inl s)) (fun p=>some (.inr p))
def xc3 (d e a:LA) (b:Int):(Int)→LA×List Box:=fun (c)=>([AV.list 3 d,AV.list 3 e,AV.func 114 [],AV.list 3 a,AV.int .i64 b,AV.int .i64 c],[])
def xcP (a b c:LA) (d:Int):(Bool×(Int)×(Unit))→LR:=fun p=>(.node p.1 (.leaf .ret [AV.list 3 a,AV.list 3 b,AV.int .i64 p.2.1] []) (.leaf (.exit 0) [AV.list 3 a,AV.list 3 b,.top] []))
abbrev xpS (a:LA) (H:List Box):=XR Tryz.prog xdG [0,1,2,11,12,13] [0,1,6] [] (loopAt Tryz.f113 0) a H
theorem xpU (c d a:LA) (b e:Int):Enc (encR (xc3 c d a b) (xcP c d a b)) (xaM c d a b e) (xpS (xc3 c d a b e).1 (xc3 c d a b e).2):=by
 refine eV (xcA c d a b e none (fun s=>some (encR (xc3 c d a b) (xcP c d a b) (.inl s))) (fun p=>some (encR (xc3 c d a b) (xcP c d a b) (.inr p)))) (by kernel_rfl) ?_;unfold xaM xcA;repeat' first|exact eN|exact eS rfl|apply eB
def xku:Lp:=lpOf [0,1,2,11,12,13] [0,1,6] [] (pCons (pList 3 pAny) (pCons (pList 3 pAny) (pCons (pFunc 114 pNil) (pCons (pList 3 pAny) (pCons (pInt .i64) (pCons (pInt .i64) pNil)))))) pNil fun (d,(e,(_,(a,(b,(c,_)))))) _=>((Iter (xaM d e a b) (c)).isSome,xcP d e a b ((Iter (xaM d e a b) (c)).getD (false,0,())))
theorem xo3:LoopOk Tryz.prog (ITryz.at xdG.pin) xdG.nt (loopAt Tryz.f113 0) xku:=xbr fun g i j h=>by
 obtain ⟨c,⟨d,⟨_,⟨a,⟨b,⟨e,_⟩⟩⟩⟩⟩⟩:=g
 obtain ⟨f,rfl⟩:=Prod.mk.inj h
 exact xaG mxTryz (inv0Ok Tryz.prog _) rfl xpo xnj (xc3 c d a b) (xcP c d a b) (fun p=>by simp only [xcP,LR.eval];first|(simp;done)|(repeat' split<;>simp)) (xpU c d a b) (s:=(e)) (xaf f)
def xeT:Env:=xAo.fn 39 0 (lsOf []) (lpsOf [(2,xku)])
theorem xpf:OrcOk Tryz.prog (ITryz.at 0) xeT:=xvQ.fn
theorem xn8:LoOk Tryz.prog (ITryz.at xeT.pin) xeT (Tryz.f113.body.getD .skip):=xa7 (ls:=[loopAt Tryz.f113 0]) (by kernel_rfl) (lkC xo3 lkN)
def xgW {T:Type} (a b:LA) (δ:T) (κ:Int→T):T:=br ((Iter (xaM a b a (↑a.length:Int)) 0).isSome) (br (((Iter (xaM a b a (↑a.length:Int)) 0).getD (false,0,())).fst) (κ (((Iter (xaM a b a (↑a.length:Int)) 0).getD (false,0,())).snd.fst)) (br (decide ((↑a.length:Int)<(↑b.length:Int))) (κ ((-1))) (κ (0)))) δ
def xdR (a b:LA):Option (Int):=xgW a b none some
theorem xr6 (a b:LA):Enc (fun (p:Int)=>((AV.int .i64 p):AV)) (xdR a b) (XF Tryz.prog xeT Tryz.f113 (Tryz.f113.body.getD .skip) [AV.list 3 a,AV.list 3 b,AV.func (114:FuncId) []]):=by
 refine eV (xgW a b none (fun (p:Int)=>some ((AV.int .i64 p):AV))) (by kernel_rfl) ?_;unfold xdR xgW;repeat' first|exact eN|exact eS rfl|apply eB
def xm7:LA→Option (Bool×AV):=ocOf (sCons (sList 3 pAny) (sCons (sList 3 pAny) (sCons (sEq (pFunc (114:FuncId) pNil)) sNil))) fun (a,(b,(_,_)))=>((xdR a b).isSome,(AV.int .i64 ((xdR a b).getD 0)))
theorem xsl:OcOk Tryz.prog ITryz 113 (xm7):=xbc fun f h g=>by
 obtain ⟨a,⟨b,⟨_,_⟩⟩⟩:=f
 obtain ⟨c,e⟩:=Prod.mk.inj g
 refine xaQ (p:=xeT.pin) (xa1 mxTryz (inv0Ok Tryz.prog _) rfl xpf Tryz.func113 rfl (by kernel_rfl) xn8 ((xr6 _ _ _ (xaf (d:=0) c)).trans ?_))
 exact congrArg some e
def xDt:Env:=xAo.with 113 xm7
theorem xAv:OrcOk Tryz.prog ITryz xDt:=xvQ.with xsl
def xhe:Env:=xDt.fn 8 0 (lsOf []) (lpsOf [])
theorem xsQ:OrcOk Tryz.prog (ITryz.at 0) xhe:=xAv.fn
theorem xrK:LoOk Tryz.prog (ITryz.at xhe.pin) xhe (Tryz.f88.body.getD .skip):=xaF (by kernel_rfl)
def xjR {T:Type} (a b:LA) (δ:T) (κ:Int→T):T:=br ((xdR a b).isSome) (κ ((xdR a b).getD 0)) δ
def xdY (a b:LA):Option (Int):=xjR a b none some
theorem xv1 (a b:LA):Enc (fun (p:Int)=>((AV.int .i64 p):AV)) (xdY a b) (XF Tryz.prog xhe Tryz.f88 (Tryz.f88.body.getD .skip) [AV.list 3 a,AV.list 3 b]):=by
 refine eV (xjR a b none (fun (p:Int)=>some ((AV.int .i64 p):AV))) (by kernel_rfl) ?_;unfold xdY xjR;repeat' first|exact eN|exact eS rfl|apply eB
def xqu:LA→Option (Bool×AV):=ocOf (sCons (sList 3 pAny) (sCons (sList 3 pAny) sNil)) fun (a,(b,_))=>((xdY a b).isSome,(AV.int .i64 ((xdY a b).getD 0)))
theorem xwv:OcOk Tryz.prog ITryz 88 (xqu):=xbc fun f h g=>by
 obtain ⟨a,⟨b,_⟩⟩:=f
 obtain ⟨c,e⟩:=Prod.mk.inj g
 refine xaQ (p:=xhe.pin) (xa1 mxTryz (inv0Ok Tryz.prog _) rfl xsQ Tryz.func88 rfl (by kernel_rfl) xrK ((xv1 _ _ _ (xaf (d:=0) c)).trans ?_))
 exact congrArg some e
def xEk:Env:=xDt.with 88 xqu
theorem xBq:OrcOk Tryz.prog ITryz xEk:=xAv.with xwv
def xgK:Env:=xEk.fn 10 0 (lsOf []) (lpsOf [])
theorem xst:OrcOk Tryz.prog (ITryz.at 0) xgK:=xBq.fn
theorem xqB:LoOk Tryz.prog (ITryz.at xgK.pin) xgK (Tryz.f93.body.getD .skip):=xaF (by kernel_rfl)
def xjk {T:Type} (a c b d:LA) (δ:T) (κ:Int→T):T:=br ((xdY a b).isSome) (κ ((xdY a b).getD 0)) δ
def xci (c a d b:LA):Option (Int):=xjk c a d b none some
theorem xvl (c a d b:LA):Enc (fun (p:Int)=>((AV.int .i64 p):AV)) (xci c a d b) (XF Tryz.prog xgK Tryz.f93 (Tryz.f93.body.getD .skip) [AV.agg [AV.list 3 c,AV.list 2 a],AV.agg [AV.list 3 d,AV.list 2 b]]):=by
 refine eV (xjk c a d b none (fun (p:Int)=>some ((AV.int .i64 p):AV))) (by kernel_rfl) ?_;unfold xci xjk;repeat' first|exact eN|exact eS rfl|apply eB
def xpc:LA→Option (Bool×AV):=ocOf (sCons (sAgg (sCons (sList 3 pAny) (sCons (sList 2 pAny) sNil))) (sCons (sAgg (sCons (sList 3 pAny) (sCons (sList 2 pAny) sNil))) sNil)) fun ((c,(a,_)),((d,(b,_)),_))=>((xci c a d b).isSome,(AV.int .i64 ((xci c a d b).getD 0)))
theorem xvP:OcOk Tryz.prog ITryz 93 (xpc):=xbc fun c j e=>by
 obtain ⟨⟨h,⟨f,_⟩⟩,⟨⟨i,⟨g,_⟩⟩,_⟩⟩:=c
 obtain ⟨a,b⟩:=Prod.mk.inj e
 refine xaQ (p:=xgK.pin) (xa1 mxTryz (inv0Ok Tryz.prog _) rfl xst Tryz.func93 rfl (by kernel_rfl) xqB ((xvl _ _ _ _ _ (xaf (d:=0) a)).trans ?_))
 exact congrArg some b
def xHW:Env:=xEk.with 93 xpc
theorem xGT:OrcOk Tryz.prog ITryz xHW:=xBq.with xvP
abbrev xHV:Env:=xHW
theorem xG6:OrcOk Tryz.prog ITryz xHV:=xGT
abbrev EK3:Env:=xHV
theorem xwc:OrcOk Tryz.prog ITryz EK3:=xG6
end Go.Sim.M
end
noncomputable section
set_option maxRecDepth 100000
namespace Go.Sim.M
open Go.IntKind (i64 u64 u8)
open Go.RowKit Go.Proofs
def xbv:Env:=EK3.fn 53 1 (lsOf [83]) (lpsOf [])
theorem xkD:OrcOk Tryz.prog (ITryz.at 1) xbv:=xwc.fn
theorem xjh:LoOk Tryz.prog (ITryz.at xbv.pin) xbv (loopAt Tryz.f141 1):=xaF (by kernel_rfl)
def xd7 (a:Nat) (j:Int):=decide (0≤i64.wrap (j - 1))&&decide (i64.wrap (j - 1)<(↑a:Int))
def xcQ (j:Int):Nat:=0+(i64.wrap (j - 1)).toNat
def xd8 (a:Nat) (j:Int):=decide (0≤j)&&decide (j<(↑a:Int))
def xgk (j:Int) (a:LA):=decide (0+j.toNat<a.length)
def xgv (j:Int) (a:LA):=xgk j a&&((a.getD (0+j.toNat) .top).cells.length==2&&hasShs [Sh.list 3,Sh.list 2] (a.getD (0+j.toNat) .top).cells 0)
def xbj (j:Int) (a:LA):=(a.getD (xcQ j) .top).cells
def xgm (j:Int) (a:LA):=decide (xcQ j<a.length)&&((xbj j a).length==2&&hasShs [Sh.list 3,Sh.list 2] (xbj j a) 0)
def xgy (j:Int) (a:LA):=xci ((a.getD (0+j.toNat) .top).cells.getD 0 .top).toList ((a.getD (0+j.toNat) .top).cells.getD 1 .top).toList ((xbj j a).getD 0 .top).toList ((xbj j a).getD 1 .top).toList
def xgw (j:Int) (a:LA):=a.set (0+j.toNat) (AV.agg [AV.list 3 ((xbj j a).getD 0 .top).toList,AV.list 2 ((xbj j a).getD 1 .top).toList])
def xei {T:Type} (d:Nat) (a b i j:Int) (c:LA) (δ:T) (κl:(Int×LA)→T) (κr:(LA)→T):T:=br (decide (j>a)) (br (xd8 d j) (br (xgv j c) (br (xd7 d j) (br (xgm j c) (br ((xgy j c).isSome) (br (decide ((xgy j c).getD 0<0)) (br (xd7 d j) (br (xgm j c) (br (xd8 d j) (br (xgv j c) (br (xd8 d j) (br (xgk j c) (br (xd7 d j) (br (decide (xcQ j<(xgw j c).length)) (κl (i64.wrap (j - 1),(xgw j c).set (xcQ j) (AV.agg [AV.list 3 ((c.getD (0+j.toNat) .top).cells.getD 0 .top).toList,AV.list 2 ((c.getD (0+j.toNat) .top).cells.getD 1 .top).toList]))) δ) δ) δ) δ) δ) δ) δ) δ) (κr (c))) δ) δ) δ) δ) δ) (κr (c))
def xaX (d:Nat) (a b i:Int):(Int×LA)→Option ((Int×LA)⊕(LA)):=fun (j,c)=>xei d a b i j c none (fun s=>some (.inl s)) (fun p=>some (.inr p))
def xbq (d:Nat) (a b i:Int):(Int×LA)→LA×List Box:=fun (j,c)=>([AV.osl 0 0 0 d,AV.int .i64 a,AV.int .i64 b,AV.func 93 [],AV.int .i64 i,AV.int .i64 j],[⟨0,2,83,c,false,true⟩])
def xbi (c:Nat) (a b i:Int):(LA)→LR:=fun p=>(.leaf (.exit 2) [AV.osl 0 0 0 c,AV.int .i64 a,AV.int .i64 b,AV.func 93 [],AV.int .i64 i] [⟨0,2,83,p,false,true⟩])
abbrev xle (a:LA) (H:List Box):=XR Tryz.prog xbv [0,1,2,3,8,9] [0,1,2,3,8] [] (loopAt Tryz.f141 1) a H
theorem xlc (c:Nat) (a b i:Int) (s:Int×LA):Enc (encR (xbq c a b i) (xbi c a b i)) (xaX c a b i s) (xle (xbq c a b i s).1 (xbq c a b i s).2):=by
 obtain ⟨j,d⟩:=s
 refine eV (xei c a b i j d none (fun s=>some (encR (xbq c a b i) (xbi c a b i) (.inl s))) (fun p=>some (encR (xbq c a b i) (xbi c a b i) (.inr p)))) (by kernel_rfl) ?_;unfold xaX xei;repeat' first|exact eN|exact eS rfl|apply eB
def xeb:Lp:=lpOf [0,1,2,3,8,9] [0,1,2,3,8] [] (pCons (pOsl 0 0 0) (pCons (pInt .i64) (pCons (pInt .i64) (pCons (pFunc 93 pNil) (pCons (pInt .i64) (pCons (pInt .i64) pNil)))))) (pCons (pBox 0 2 83 false true pAny) pNil) fun (c,(a,(b,(_,(i,(j,_)))))) (d,_)=>((Iter (xaX c a b i) (j,d)).isSome,xbi c a b i ((Iter (xaX c a b i) (j,d)).getD []))
theorem xf6:LoopOk Tryz.prog (ITryz.at xbv.pin) xbv.nt (loopAt Tryz.f141 1) xeb:=xbr fun f g k h=>by
 obtain ⟨c,⟨a,⟨b,⟨_,⟨i,⟨j,_⟩⟩⟩⟩⟩⟩:=f
 obtain ⟨d,_⟩:=g
 obtain ⟨e,rfl⟩:=Prod.mk.inj h
 exact xaG mxTryz (inv0Ok Tryz.prog _) rfl xkD xjh (xbq c a b i) (xbi c a b i) (fun p=>by simp only [xbi,LR.eval];first|(simp;done)|(repeat' split<;>simp)) (xlc c a b i) (s:=(j,d)) (xaf e)
def xby:Env:=EK3.fn 53 1 (lsOf [83]) (lpsOf [(4,xeb)])
theorem xkO:OrcOk Tryz.prog (ITryz.at 1) xby:=xwc.fn
theorem xji:LoOk Tryz.prog (ITryz.at xby.pin) xby (loopAt Tryz.f141 0):=xa7 (ls:=[loopAt Tryz.f141 1]) (by kernel_rfl) (lkC xf6 lkN)
def xef {T:Type} (d:Nat) (a b i:Int) (c:LA) (δ:T) (κl:(Int×LA)→T) (κr:(LA)→T):T:=br (decide (i<b)) (br ((Iter (xaX d a b i) (i,c)).isSome) (κl (i64.wrap (i+1),(Iter (xaX d a b i) (i,c)).getD [])) δ) (κr (c))
def xaV (d:Nat) (a b:Int):(Int×LA)→Option ((Int×LA)⊕(LA)):=fun (i,c)=>xef d a b i c none (fun s=>some (.inl s)) (fun p=>some (.inr p))
def xbo (d:Nat) (a b:Int):(Int×LA)→LA×List Box:=fun (i,c)=>([AV.osl 0 0 0 d,AV.int .i64 a,AV.int .i64 b,AV.func 93 [],AV.int .i64 i],[⟨0,2,83,c,false,true⟩])
def xbf (c:Nat) (a b:Int):(LA)→LR:=fun p=>(.leaf (.exit 0) [] [⟨0,2,83,p,false,true⟩])
abbrev xli (a:LA) (H:List Box):=XR Tryz.prog xby [0,1,2,3,8] [] [] (loopAt Tryz.f141 0) a H
theorem xlb (c:Nat) (a b:Int) (s:Int×LA):Enc (encR (xbo c a b) (xbf c a b)) (xaV c a b s) (xli (xbo c a b s).1 (xbo c a b s).2):=by
 obtain ⟨i,d⟩:=s
 refine eV (xef c a b i d none (fun s=>some (encR (xbo c a b) (xbf c a b) (.inl s))) (fun p=>some (encR (xbo c a b) (xbf c a b) (.inr p)))) (by kernel_rfl) ?_;unfold xaV xef;repeat' first|exact eN|exact eS rfl|apply eB
def xgg:Lp:=lpOf [0,1,2,3,8] [] [] (pCons (pOsl 0 0 0) (pCons (pInt .i64) (pCons (pInt .i64) (pCons (pFunc 93 pNil) (pCons (pInt .i64) pNil))))) (pCons (pBox 0 2 83 false true pAny) pNil) fun (c,(a,(b,(_,(i,_))))) (d,_)=>((Iter (xaV c a b) (i,d)).isSome,xbf c a b ((Iter (xaV c a b) (i,d)).getD []))
theorem xkz:LoopOk Tryz.prog (ITryz.at xby.pin) xby.nt (loopAt Tryz.f141 0) xgg:=xbr fun f g j h=>by
 obtain ⟨c,⟨a,⟨b,⟨_,⟨i,_⟩⟩⟩⟩⟩:=f
 obtain ⟨d,_⟩:=g
 obtain ⟨e,rfl⟩:=Prod.mk.inj h
 exact xaG mxTryz (inv0Ok Tryz.prog _) rfl xkO xji (xbo c a b) (xbf c a b) (fun p=>by simp only [xbf,LR.eval];first|(simp;done)|(repeat' split<;>simp)) (xlb c a b) (s:=(i,d)) (xaf e)
def xcj:Env:=EK3.fn 53 1 (lsOf [83]) (lpsOf [(4,xeb),(1,xgg)])
theorem xk4:OrcOk Tryz.prog (ITryz.at 1) xcj:=xwc.fn
theorem xjE:LoOk Tryz.prog (ITryz.at xcj.pin) xcj (Tryz.f141.body.getD .skip):=xa7 (ls:=[loopAt Tryz.f141 0,loopAt Tryz.f141 1]) (by kernel_rfl) (lkC xkz (lkC xf6 lkN))
def xdh {T:Type} (n:Nat) (a b:Int) (c:LA) (δ:T) (κ:LA→T):T:=br ((Iter (xaV n a b) (i64.wrap (a+1),c)).isSome) (κ ((Iter (xaV n a b) (i64.wrap (a+1),c)).getD [])) δ
def xaT (n:Nat) (a b:Int) (c:LA):Option (LA):=xdh n a b c none some
theorem xmp (n:Nat) (a b:Int) (xs:LA):Enc (fun (p:LA)=>(((AV.tuple [],([⟨0,2,83,p,false,true⟩]:List Box))):(AV×List Box))) (xaT n a b xs) (XFM Tryz.prog xcj Tryz.f141 (Tryz.f141.body.getD .skip) [AV.osl (0:Id) 0 0 n,AV.int .i64 a,AV.int .i64 b,AV.func (93:FuncId) []] [{ ver:=0,sz:=2,ty:=(83:TypeId),xs:=xs,frz:=false,pm:=true }]):=by
 refine eV (xdh n a b xs none (fun (p:LA)=>some (((AV.tuple [],([⟨0,2,83,p,false,true⟩]:List Box))):(AV×List Box)))) (by kernel_rfl) ?_;unfold xaT xdh;repeat' first|exact eN|exact eS rfl|apply eB
def xhy:LA→List Box→Option (Bool×AV×List Box):=omOf (sCons (sEq (pOsl 0 0 0)) (sCons (sEq (pInt .i64)) (sCons (sEq (pInt .i64)) (sCons (sEq (pFunc (93:FuncId) pNil)) sNil)))) (pCons (pBox 0 2 (83:TypeId) false true pAny) pNil) fun (n,(a,(b,(_,_)))) (c,_)=>((xaT n a b c).isSome,((AV.tuple [],([⟨0,2,83,((xaT n a b c).getD []),false,true⟩]:List Box))))
theorem xmo:OmOk Tryz.prog ITryz 141 (xhy):=xfX fun f g j i h=>by
 obtain ⟨n,⟨a,⟨b,⟨_,_⟩⟩⟩⟩:=f
 obtain ⟨k,_⟩:=g
 obtain ⟨c,e⟩:=Prod.mk.inj h
 refine xdM (p:=xcj.pin) (xek mxTryz (inv0Ok Tryz.prog _) rfl xk4 rfl Tryz.func141 rfl (by kernel_rfl) xjE ((xmp _ _ _ _ _ (xaf (d:=[]) c)).trans ?_))
 exact congrArg some e
def xAm:Env:=EK3.withM 141 xhy
theorem xvu:OrcOk Tryz.prog ITryz xAm:=xwc.withM xmo
def xch:Env:=xAm.fn 38 1 (lsOf [83]) (lpsOf [])
theorem xmk:OrcOk Tryz.prog (ITryz.at 1) xch:=xvu.fn
theorem xks:LoOk Tryz.prog (ITryz.at xch.pin) xch (loopAt Tryz.f182 0):=xaF (by kernel_rfl)
def xhz (a i:Int) (b:LA):=decide (0+(i64.wrap (a+i)).toNat<b.length)
def xdf (a i:Int) (b:LA):=(b.getD (0+(i64.wrap (a+i)).toNat) .top).cells
def xhE (a:Nat) (b i:Int):=decide (0≤i64.wrap (b+i))&&decide (i64.wrap (b+i)<(↑a:Int))
def xhC (b:Nat) (a i:Int):=decide (0≤i64.wrap (a+i))&&decide (i64.wrap (a+i)<(↑b:Int))
def xdg (b i:Int):Nat:=0+(i64.wrap (b+i)).toNat
def xdj (b i:Int) (a:LA):=(a.getD (xdg b i) .top).cells
def xhD (a b i:Int) (c:LA):=c.set (0+(i64.wrap (a+i)).toNat) (AV.agg [AV.list 3 ((xdj b i c).getD 0 .top).toList,AV.list 2 ((xdj b i c).getD 1 .top).toList])
def xe8 {T:Type} (d:Nat) (a b n i:Int) (c:LA) (δ:T) (κl:(Int×LA)→T) (κr:(LA)→T):T:=br (decide (i<n)) (br (xhE d b i) (br (decide (xdg b i<c.length)&&((xdj b i c).length==2&&hasShs [Sh.list 3,Sh.list 2] (xdj b i c) 0)) (br (xhC d a i) (br (xhz a i c&&((xdf a i c).length==2&&hasShs [Sh.list 3,Sh.list 2] (xdf a i c) 0)) (br (xhC d a i) (br (xhz a i c) (br (xhE d b i) (br (decide (xdg b i<(xhD a b i c).length)) (κl (i64.wrap (i+1),(xhD a b i c).set (xdg b i) (AV.agg [AV.list 3 ((xdf a i c).getD 0 .top).toList,AV.list 2 ((xdf a i c).getD 1 .top).toList]))) δ) δ) δ) δ) δ) δ) δ) δ) (κr (c))
def xa9 (d:Nat) (a b n:Int):(Int×LA)→Option ((Int×LA)⊕(LA)):=fun (i,c)=>xe8 d a b n i c none (fun s=>some (.inl s)) (fun p=>some (.inr p))
def xbU (d:Nat) (a b n:Int):(Int×LA)→LA×List Box:=fun (i,c)=>([AV.osl 0 0 0 d,AV.int .i64 a,AV.int .i64 b,AV.int .i64 n,AV.int .i64 i],[⟨0,2,83,c,false,true⟩])
def xbA (c:Nat) (a b n:Int):(LA)→LR:=fun p=>(.leaf (.exit 0) [] [⟨0,2,83,p,false,true⟩])
abbrev xmC (a:LA) (H:List Box):=XR Tryz.prog xch [0,1,2,3,10] [] [] (loopAt Tryz.f182 0) a H
theorem xm2 (c:Nat) (a b n:Int) (s:Int×LA):Enc (encR (xbU c a b n) (xbA c a b n)) (xa9 c a b n s) (xmC (xbU c a b n s).1 (xbU c a b n s).2):=by
 obtain ⟨i,d⟩:=s
 refine eV (xe8 c a b n i d none (fun s=>some (encR (xbU c a b n) (xbA c a b n) (.inl s))) (fun p=>some (encR (xbU c a b n) (xbA c a b n) (.inr p)))) (by kernel_rfl) ?_;unfold xa9 xe8;repeat' first|exact eN|exact eS rfl|apply eB
def xhA:Lp:=lpOf [0,1,2,3,10] [] [] (pCons (pOsl 0 0 0) (pCons (pInt .i64) (pCons (pInt .i64) (pCons (pInt .i64) (pCons (pInt .i64) pNil))))) (pCons (pBox 0 2 83 false true pAny) pNil) fun (c,(a,(b,(n,(i,_))))) (d,_)=>((Iter (xa9 c a b n) (i,d)).isSome,xbA c a b n ((Iter (xa9 c a b n) (i,d)).getD []))
theorem xlW:LoopOk Tryz.prog (ITryz.at xch.pin) xch.nt (loopAt Tryz.f182 0) xhA:=xbr fun f g j h=>by
 obtain ⟨c,⟨a,⟨b,⟨n,⟨i,_⟩⟩⟩⟩⟩:=f
 obtain ⟨d,_⟩:=g
 obtain ⟨e,rfl⟩:=Prod.mk.inj h
 exact xaG mxTryz (inv0Ok Tryz.prog _) rfl xmk xks (xbU c a b n) (xbA c a b n) (fun p=>by simp only [xbA,LR.eval];first|(simp;done)|(repeat' split<;>simp)) (xm2 c a b n) (s:=(i,d)) (xaf e)
def xcS:Env:=xAm.fn 38 1 (lsOf [83]) (lpsOf [(1,xhA)])
theorem xmu:OrcOk Tryz.prog (ITryz.at 1) xcS:=xvu.fn
theorem xla:LoOk Tryz.prog (ITryz.at xcS.pin) xcS (Tryz.f182.body.getD .skip):=xa7 (ls:=[loopAt Tryz.f182 0]) (by kernel_rfl) (lkC xlW lkN)
def xem {T:Type} (n:Nat) (a b k:Int) (c:LA) (δ:T) (κ:LA→T):T:=br ((Iter (xa9 n a b k) (0,c)).isSome) (κ ((Iter (xa9 n a b k) (0,c)).getD [])) δ
def xaR (n:Nat) (a b k:Int) (c:LA):Option (LA):=xem n a b k c none some
theorem xoc (n:Nat) (a b k:Int) (xs:LA):Enc (fun (p:LA)=>(((AV.tuple [],([⟨0,2,83,p,false,true⟩]:List Box))):(AV×List Box))) (xaR n a b k xs) (XFM Tryz.prog xcS Tryz.f182 (Tryz.f182.body.getD .skip) [AV.osl (0:Id) 0 0 n,AV.int .i64 a,AV.int .i64 b,AV.int .i64 k,AV.func (93:FuncId) []] [{ ver:=0,sz:=2,ty:=(83:TypeId),xs:=xs,frz:=false,pm:=true }]):=by
 refine eV (xem n a b k xs none (fun (p:LA)=>some (((AV.tuple [],([⟨0,2,83,p,false,true⟩]:List Box))):(AV×List Box)))) (by kernel_rfl) ?_;unfold xaR xem;repeat' first|exact eN|exact eS rfl|apply eB
def xje:LA→List Box→Option (Bool×AV×List Box):=omOf (sCons (sEq (pOsl 0 0 0)) (sCons (sEq (pInt .i64)) (sCons (sEq (pInt .i64)) (sCons (sEq (pInt .i64)) (sCons (sEq (pFunc (93:FuncId) pNil)) sNil))))) (pCons (pBox 0 2 (83:TypeId) false true pAny) pNil) fun (n,(a,(b,(k,(_,_))))) (c,_)=>((xaR n a b k c).isSome,((AV.tuple [],([⟨0,2,83,((xaR n a b k c).getD []),false,true⟩]:List Box))))
theorem xor:OmOk Tryz.prog ITryz 182 (xje):=xfX fun f g j i h=>by
 obtain ⟨n,⟨a,⟨b,⟨k,⟨_,_⟩⟩⟩⟩⟩:=f
 obtain ⟨l,_⟩:=g
 obtain ⟨c,e⟩:=Prod.mk.inj h
 refine xdM (p:=xcS.pin) (xek mxTryz (inv0Ok Tryz.prog _) rfl xmu rfl Tryz.func182 rfl (by kernel_rfl) xla ((xoc _ _ _ _ _ _ (xaf (d:=[]) c)).trans ?_))
 exact congrArg some e
def xAq:Env:=xAm.withM 182 xje
theorem xvL:OrcOk Tryz.prog ITryz xAq:=xvu.withM xor
def xcO:Env:=xAq.fn 58 1 (lsOf [83]) (lpsOf [])
theorem xnG:OrcOk Tryz.prog (ITryz.at 1) xcO:=xvL.fn
theorem xlp:LoOk Tryz.prog (ITryz.at xcO.pin) xcO (loopAt Tryz.f162 0):=xaF (by kernel_rfl)
def xgd {T:Type} (b:Nat) (m i j:Int) (a:LA) (δ:T) (κl:(Int×Int×LA)→T) (κr:(Int×LA)→T):T:=br (i != j) (br (decide (i>j)) (br ((xaR b (i64.wrap (m - i)) m j a).isSome) (κl (i64.wrap (i - j),j,(xaR b (i64.wrap (m - i)) m j a).getD [])) δ) (br ((xaR b (i64.wrap (m - i)) (i64.wrap (i64.wrap (m+j) - i)) i a).isSome) (κl (i,i64.wrap (j - i),(xaR b (i64.wrap (m - i)) (i64.wrap (i64.wrap (m+j) - i)) i a).getD [])) δ)) (κr (i,a))
def xbS (b:Nat) (m:Int):(Int×Int×LA)→Option ((Int×Int×LA)⊕(Int×LA)):=fun (i,j,a)=>xgd b m i j a none (fun s=>some (.inl s)) (fun p=>some (.inr p))
def xcr (b:Nat) (m:Int):(Int×Int×LA)→LA×List Box:=fun (i,j,a)=>([AV.osl 0 0 0 b,AV.int .i64 m,AV.func 93 [],AV.int .i64 i,AV.int .i64 j],[⟨0,2,83,a,false,true⟩])
def xb6 (a:Nat) (m:Int):(Int×LA)→LR:=fun p=>(.leaf (.exit 0) [AV.osl 0 0 0 a,AV.int .i64 m,AV.func 93 [],AV.int .i64 p.1] [⟨0,2,83,p.2,false,true⟩])
abbrev xou (a:LA) (H:List Box):=XR Tryz.prog xcO [0,2,4,10,11] [0,2,4,10] [] (loopAt Tryz.f162 0) a H
theorem xn6 (a:Nat) (m:Int) (s:Int×Int×LA):Enc (encR (xcr a m) (xb6 a m)) (xbS a m s) (xou (xcr a m s).1 (xcr a m s).2):=by
 obtain ⟨i,j,b⟩:=s
 refine eV (xgd a m i j b none (fun s=>some (encR (xcr a m) (xb6 a m) (.inl s))) (fun p=>some (encR (xcr a m) (xb6 a m) (.inr p)))) (by kernel_rfl) ?_;unfold xbS xgd;repeat' first|exact eN|exact eS rfl|apply eB
def xi4:Lp:=lpOf [0,2,4,10,11] [0,2,4,10] [] (pCons (pOsl 0 0 0) (pCons (pInt .i64) (pCons (pFunc 93 pNil) (pCons (pInt .i64) (pCons (pInt .i64) pNil))))) (pCons (pBox 0 2 83 false true pAny) pNil) fun (a,(m,(_,(i,(j,_))))) (b,_)=>((Iter (xbS a m) (i,j,b)).isSome,xb6 a m ((Iter (xbS a m) (i,j,b)).getD (0,[])))
theorem xnh:LoopOk Tryz.prog (ITryz.at xcO.pin) xcO.nt (loopAt Tryz.f162 0) xi4:=xbr fun d e g f=>by
 obtain ⟨a,⟨m,⟨_,⟨i,⟨j,_⟩⟩⟩⟩⟩:=d
 obtain ⟨b,_⟩:=e
 obtain ⟨c,rfl⟩:=Prod.mk.inj f
 exact xaG mxTryz (inv0Ok Tryz.prog _) rfl xnG xlp (xcr a m) (xb6 a m) (fun p=>by simp only [xb6,LR.eval];first|(simp;done)|(repeat' split<;>simp)) (xn6 a m) (s:=(i,j,b)) (xaf c)
def xdA:Env:=xAq.fn 58 1 (lsOf [83]) (lpsOf [(2,xi4)])
theorem xnI:OrcOk Tryz.prog (ITryz.at 1) xdA:=xvL.fn
theorem xmj:LoOk Tryz.prog (ITryz.at xdA.pin) xdA (Tryz.f162.body.getD .skip):=xa7 (ls:=[loopAt Tryz.f162 0]) (by kernel_rfl) (lkC xnh lkN)
def xgM (n:Nat) (a m b:Int) (c:LA):=Iter (xbS n m) (i64.wrap (m - a),i64.wrap (b - m),c)
def xgS (n:Nat) (a m b:Int) (c:LA):=(xgM n a m b c).getD (0,[])
def xgZ (n:Nat) (a m b:Int) (c:LA):=(xgS n a m b c).fst
def xgX (n:Nat) (a m b:Int) (c:LA):=xaR n (i64.wrap (m - xgZ n a m b c)) m (xgZ n a m b c) (xgS n a m b c).snd
def xfa {T:Type} (n:Nat) (a m b:Int) (c:LA) (δ:T) (κ:LA→T):T:=br ((xgM n a m b c).isSome) (br ((xgX n a m b c).isSome) (κ ((xgX n a m b c).getD [])) δ) δ
def xa8 (n:Nat) (a m b:Int) (c:LA):Option (LA):=xfa n a m b c none some
theorem xpH (n:Nat) (a m b:Int) (xs:LA):Enc (fun (p:LA)=>(((AV.tuple [],([⟨0,2,83,p,false,true⟩]:List Box))):(AV×List Box))) (xa8 n a m b xs) (XFM Tryz.prog xdA Tryz.f162 (Tryz.f162.body.getD .skip) [AV.osl (0:Id) 0 0 n,AV.int .i64 a,AV.int .i64 m,AV.int .i64 b,AV.func (93:FuncId) []] [{ ver:=0,sz:=2,ty:=(83:TypeId),xs:=xs,frz:=false,pm:=true }]):=by
 refine eV (xfa n a m b xs none (fun (p:LA)=>some (((AV.tuple [],([⟨0,2,83,p,false,true⟩]:List Box))):(AV×List Box)))) (by kernel_rfl) ?_;unfold xa8 xfa;repeat' first|exact eN|exact eS rfl|apply eB
def xj0:LA→List Box→Option (Bool×AV×List Box):=omOf (sCons (sEq (pOsl 0 0 0)) (sCons (sEq (pInt .i64)) (sCons (sEq (pInt .i64)) (sCons (sEq (pInt .i64)) (sCons (sEq (pFunc (93:FuncId) pNil)) sNil))))) (pCons (pBox 0 2 (83:TypeId) false true pAny) pNil) fun (n,(a,(m,(b,(_,_))))) (c,_)=>((xa8 n a m b c).isSome,((AV.tuple [],([⟨0,2,83,((xa8 n a m b c).getD []),false,true⟩]:List Box))))
theorem xpL:OmOk Tryz.prog ITryz 162 (xj0):=xfX fun f g j i h=>by
 obtain ⟨n,⟨a,⟨m,⟨b,⟨_,_⟩⟩⟩⟩⟩:=f
 obtain ⟨k,_⟩:=g
 obtain ⟨c,e⟩:=Prod.mk.inj h
 refine xdM (p:=xdA.pin) (xek mxTryz (inv0Ok Tryz.prog _) rfl xnI rfl Tryz.func162 rfl (by kernel_rfl) xmj ((xpH _ _ _ _ _ _ (xaf (d:=[]) c)).trans ?_))
 exact congrArg some e
def xqo:Env:=xAq.withM 162 xj0
theorem xlR:OrcOk Tryz.prog ITryz xqo:=xvL.withM xpL
def xcw:Env:=xqo.fn 220 1 (lsOf [83]) (lpsOf [])
theorem xmO:OrcOk Tryz.prog (ITryz.at 1) xcw:=xlR.fn
theorem xk5:LoOk Tryz.prog (ITryz.at xcw.pin) xcw (loopAt Tryz.f142 0):=xaF (by kernel_rfl)
def xbV (i j:Int):=i64.wrap ((u64.wrap (i64.wrap (i+j))).fdiv 2)
def xdw (i j:Int) (a:LA):=(a.getD (0+(xbV i j).toNat) .top).cells
def xib (a i j:Int) (b:LA):=xci ((xdw i j b).getD 0 .top).toList ((xdw i j b).getD 1 .top).toList ((b.getD (0+a.toNat) .top).cells.getD 0 .top).toList ((b.getD (0+a.toNat) .top).cells.getD 1 .top).toList
def xfw {T:Type} (c:Nat) (a i j:Int) (b:LA) (δ:T) (κl:(Int×Int×LA)→T) (κr:(Int×LA)→T):T:=br (decide (i<j)) (br (decide (0≤xbV i j)&&decide (xbV i j<(↑c:Int))) (br (decide (0+(xbV i j).toNat<b.length)&&((xdw i j b).length==2&&hasShs [Sh.list 3,Sh.list 2] (xdw i j b) 0)) (br (decide (0≤a)&&decide (a<(↑c:Int))) (br (decide (0+a.toNat<b.length)&&((b.getD (0+a.toNat) .top).cells.length==2&&hasShs [Sh.list 3,Sh.list 2] (b.getD (0+a.toNat) .top).cells 0)) (br ((xib a i j b).isSome) (br (decide ((xib a i j b).getD 0<0)) (κl (i64.wrap (xbV i j+1),j,b)) (κl (i,xbV i j,b))) δ) δ) δ) δ) δ) (κr (i,b))
def xaZ (c:Nat) (a:Int):(Int×Int×LA)→Option ((Int×Int×LA)⊕(Int×LA)):=fun (i,j,b)=>xfw c a i j b none (fun s=>some (.inl s)) (fun p=>some (.inr p))
def xb3 (c:Nat) (a:Int):(Int×Int×LA)→LA×List Box:=fun (i,j,b)=>([AV.osl 0 0 0 c,AV.int .i64 a,AV.func 93 [],AV.int .i64 i,AV.int .i64 j],[⟨0,2,83,b,false,true⟩])
def xbH (b:Nat) (a:Int):(Int×LA)→LR:=fun p=>(.leaf (.exit 0) [AV.osl 0 0 0 b,AV.int .i64 a,AV.int .i64 p.1] [⟨0,2,83,p.2,false,true⟩])
abbrev xnl (a:LA) (H:List Box):=XR Tryz.prog xcw [0,1,4,10,11] [0,1,10] [] (loopAt Tryz.f142 0) a H
theorem xnt (b:Nat) (a:Int) (s:Int×Int×LA):Enc (encR (xb3 b a) (xbH b a)) (xaZ b a s) (xnl (xb3 b a s).1 (xb3 b a s).2):=by
 obtain ⟨i,j,c⟩:=s
 refine eV (xfw b a i j c none (fun s=>some (encR (xb3 b a) (xbH b a) (.inl s))) (fun p=>some (encR (xb3 b a) (xbH b a) (.inr p)))) (by kernel_rfl) ?_;unfold xaZ xfw;repeat' first|exact eN|exact eS rfl|apply eB
def xbn:Lp:=lpOf [0,1,4,10,11] [0,1,10] [] (pCons (pOsl 0 0 0) (pCons (pInt .i64) (pCons (pFunc 93 pNil) (pCons (pInt .i64) (pCons (pInt .i64) pNil))))) (pCons (pBox 0 2 83 false true pAny) pNil) fun (b,(a,(_,(i,(j,_))))) (c,_)=>((Iter (xaZ b a) (i,j,c)).isSome,xbH b a ((Iter (xaZ b a) (i,j,c)).getD (0,[])))
theorem xmw:LoopOk Tryz.prog (ITryz.at xcw.pin) xcw.nt (loopAt Tryz.f142 0) xbn:=xbr fun e f h g=>by
 obtain ⟨b,⟨a,⟨_,⟨i,⟨j,_⟩⟩⟩⟩⟩:=e
 obtain ⟨c,_⟩:=f
 obtain ⟨d,rfl⟩:=Prod.mk.inj g
 exact xaG mxTryz (inv0Ok Tryz.prog _) rfl xmO xk5 (xb3 b a) (xbH b a) (fun p=>by simp only [xbH,LR.eval];first|(simp;done)|(repeat' split<;>simp)) (xnt b a) (s:=(i,j,c)) (xaf d)
def xcv:Env:=xqo.fn 220 1 (lsOf [83]) (lpsOf [(3,xbn)])
theorem xmD:OrcOk Tryz.prog (ITryz.at 1) xcv:=xlR.fn
theorem xk1:LoOk Tryz.prog (ITryz.at xcv.pin) xcv (loopAt Tryz.f142 1):=xaF (by kernel_rfl)
def xii (a:Nat) (k:Int):=decide (0≤i64.wrap (k+1))&&decide (i64.wrap (k+1)<(↑a:Int))
def xdt (k:Int):Nat:=0+(i64.wrap (k+1)).toNat
def xhX (k:Int) (a:LA):=decide (0+k.toNat<a.length)
def xdu (k:Int) (a:LA):=(a.getD (xdt k) .top).cells
def xij (k:Int) (a:LA):=a.set (0+k.toNat) (AV.agg [AV.list 3 ((xdu k a).getD 0 .top).toList,AV.list 2 ((xdu k a).getD 1 .top).toList])
def xfB {T:Type} (b:Nat) (i k:Int) (a:LA) (δ:T) (κl:(Int×LA)→T) (κr:(LA)→T):T:=br (decide (k<i64.wrap (i - 1))) (br (xii b k) (br (decide (xdt k<a.length)&&((xdu k a).length==2&&hasShs [Sh.list 3,Sh.list 2] (xdu k a) 0)) (br (decide (0≤k)&&decide (k<(↑b:Int))) (br (xhX k a&&((a.getD (0+k.toNat) .top).cells.length==2&&hasShs [Sh.list 3,Sh.list 2] (a.getD (0+k.toNat) .top).cells 0)) (br (decide (0≤k)&&decide (k<(↑b:Int))) (br (xhX k a) (br (xii b k) (br (decide (xdt k<(xij k a).length)) (κl (i64.wrap (k+1),(xij k a).set (xdt k) (AV.agg [AV.list 3 ((a.getD (0+k.toNat) .top).cells.getD 0 .top).toList,AV.list 2 ((a.getD (0+k.toNat) .top).cells.getD 1 .top).toList]))) δ) δ) δ) δ) δ) δ) δ) δ) (κr (a))
def xbz (b:Nat) (i:Int):(Int×LA)→Option ((Int×LA)⊕(LA)):=fun (k,a)=>xfB b i k a none (fun s=>some (.inl s)) (fun p=>some (.inr p))
def xb4 (b:Nat) (i:Int):(Int×LA)→LA×List Box:=fun (k,a)=>([AV.osl 0 0 0 b,AV.int .i64 i,AV.int .i64 k],[⟨0,2,83,a,false,true⟩])
def xbI (a:Nat) (i:Int):(LA)→LR:=fun p=>(.leaf (.exit 2) [] [⟨0,2,83,p,false,true⟩])
abbrev xnu (a:LA) (H:List Box):=XR Tryz.prog xcv [0,10,13] [] [] (loopAt Tryz.f142 1) a H
theorem xnr (a:Nat) (i:Int) (s:Int×LA):Enc (encR (xb4 a i) (xbI a i)) (xbz a i s) (xnu (xb4 a i s).1 (xb4 a i s).2):=by
 obtain ⟨k,b⟩:=s
 refine eV (xfB a i k b none (fun s=>some (encR (xb4 a i) (xbI a i) (.inl s))) (fun p=>some (encR (xb4 a i) (xbI a i) (.inr p)))) (by kernel_rfl) ?_;unfold xbz xfB;repeat' first|exact eN|exact eS rfl|apply eB
def xbT:Lp:=lpOf [0,10,13] [] [] (pCons (pOsl 0 0 0) (pCons (pInt .i64) (pCons (pInt .i64) pNil))) (pCons (pBox 0 2 83 false true pAny) pNil) fun (a,(i,(k,_))) (b,_)=>((Iter (xbz a i) (k,b)).isSome,xbI a i ((Iter (xbz a i) (k,b)).getD []))
theorem xmt:LoopOk Tryz.prog (ITryz.at xcv.pin) xcv.nt (loopAt Tryz.f142 1) xbT:=xbr fun d e g f=>by
 obtain ⟨a,⟨i,⟨k,_⟩⟩⟩:=d
 obtain ⟨b,_⟩:=e
 obtain ⟨c,rfl⟩:=Prod.mk.inj f
 exact xaG mxTryz (inv0Ok Tryz.prog _) rfl xmD xk1 (xb4 a i) (xbI a i) (fun p=>by simp only [xbI,LR.eval];first|(simp;done)|(repeat' split<;>simp)) (xnr a i) (s:=(k,b)) (xaf c)
def xcn:Env:=xqo.fn 220 1 (lsOf [83]) (lpsOf [(3,xbn),(9,xbT)])
theorem xmG:OrcOk Tryz.prog (ITryz.at 1) xcn:=xlR.fn
theorem xkH:LoOk Tryz.prog (ITryz.at xcn.pin) xcn (loopAt Tryz.f142 2):=xaF (by kernel_rfl)
def xbQ (i j:Int):=i64.wrap ((u64.wrap (i64.wrap (i+j))).fdiv 2)
def xdv (i j:Int) (a:LA):=(a.getD (0+(xbQ i j).toNat) .top).cells
def xh3 (m i j:Int) (a:LA):=xci ((a.getD (0+m.toNat) .top).cells.getD 0 .top).toList ((a.getD (0+m.toNat) .top).cells.getD 1 .top).toList ((xdv i j a).getD 0 .top).toList ((xdv i j a).getD 1 .top).toList
def xfz {T:Type} (b:Nat) (m i j:Int) (a:LA) (δ:T) (κl:(Int×Int×LA)→T) (κr:(Int×LA)→T):T:=br (decide (i<j)) (br (decide (0≤m)&&decide (m<(↑b:Int))) (br (decide (0+m.toNat<a.length)&&((a.getD (0+m.toNat) .top).cells.length==2&&hasShs [Sh.list 3,Sh.list 2] (a.getD (0+m.toNat) .top).cells 0)) (br (decide (0≤xbQ i j)&&decide (xbQ i j<(↑b:Int))) (br (decide (0+(xbQ i j).toNat<a.length)&&((xdv i j a).length==2&&hasShs [Sh.list 3,Sh.list 2] (xdv i j a) 0)) (br ((xh3 m i j a).isSome) (br (!decide ((xh3 m i j a).getD 0<0)) (κl (i64.wrap (xbQ i j+1),j,a)) (κl (i,xbQ i j,a))) δ) δ) δ) δ) δ) (κr (i,a))
def xax (b:Nat) (m:Int):(Int×Int×LA)→Option ((Int×Int×LA)⊕(Int×LA)):=fun (i,j,a)=>xfz b m i j a none (fun s=>some (.inl s)) (fun p=>some (.inr p))
def xb1 (b:Nat) (m:Int):(Int×Int×LA)→LA×List Box:=fun (i,j,a)=>([AV.osl 0 0 0 b,AV.int .i64 m,AV.func 93 [],AV.int .i64 i,AV.int .i64 j],[⟨0,2,83,a,false,true⟩])
def xbJ (a:Nat) (m:Int):(Int×LA)→LR:=fun p=>(.leaf (.exit 4) [AV.osl 0 0 0 a,AV.int .i64 m,AV.int .i64 p.1] [⟨0,2,83,p.2,false,true⟩])
abbrev xng (a:LA) (H:List Box):=XR Tryz.prog xcn [0,2,4,14,15] [0,2,14] [] (loopAt Tryz.f142 2) a H
theorem xnm (a:Nat) (m:Int) (s:Int×Int×LA):Enc (encR (xb1 a m) (xbJ a m)) (xax a m s) (xng (xb1 a m s).1 (xb1 a m s).2):=by
 obtain ⟨i,j,b⟩:=s
 refine eV (xfz a m i j b none (fun s=>some (encR (xb1 a m) (xbJ a m) (.inl s))) (fun p=>some (encR (xb1 a m) (xbJ a m) (.inr p)))) (by kernel_rfl) ?_;unfold xax xfz;repeat' first|exact eN|exact eS rfl|apply eB
def xcG:Lp:=lpOf [0,2,4,14,15] [0,2,14] [] (pCons (pOsl 0 0 0) (pCons (pInt .i64) (pCons (pFunc 93 pNil) (pCons (pInt .i64) (pCons (pInt .i64) pNil))))) (pCons (pBox 0 2 83 false true pAny) pNil) fun (a,(m,(_,(i,(j,_))))) (b,_)=>((Iter (xax a m) (i,j,b)).isSome,xbJ a m ((Iter (xax a m) (i,j,b)).getD (0,[])))
theorem xmv:LoopOk Tryz.prog (ITryz.at xcn.pin) xcn.nt (loopAt Tryz.f142 2) xcG:=xbr fun d e g f=>by
 obtain ⟨a,⟨m,⟨_,⟨i,⟨j,_⟩⟩⟩⟩⟩:=d
 obtain ⟨b,_⟩:=e
 obtain ⟨c,rfl⟩:=Prod.mk.inj f
 exact xaG mxTryz (inv0Ok Tryz.prog _) rfl xmG xkH (xb1 a m) (xbJ a m) (fun p=>by simp only [xbJ,LR.eval];first|(simp;done)|(repeat' split<;>simp)) (xnm a m) (s:=(i,j,b)) (xaf c)
def xcq:Env:=xqo.fn 220 1 (lsOf [83]) (lpsOf [(3,xbn),(9,xbT),(15,xcG)])
theorem xm4:OrcOk Tryz.prog (ITryz.at 1) xcq:=xlR.fn
theorem xkT:LoOk Tryz.prog (ITryz.at xcq.pin) xcq (loopAt Tryz.f142 3):=xaF (by kernel_rfl)
def xh9 (a:Nat) (k:Int):=decide (0≤i64.wrap (k - 1))&&decide (i64.wrap (k - 1)<(↑a:Int))
def xdC (k:Int):Nat:=0+(i64.wrap (k - 1)).toNat
def xis (k:Int) (a:LA):=decide (0+k.toNat<a.length)
def xdy (k:Int) (a:LA):=(a.getD (xdC k) .top).cells
def xh7 (k:Int) (a:LA):=a.set (0+k.toNat) (AV.agg [AV.list 3 ((xdy k a).getD 0 .top).toList,AV.list 2 ((xdy k a).getD 1 .top).toList])
def xfy {T:Type} (b:Nat) (i k:Int) (a:LA) (δ:T) (κl:(Int×LA)→T) (κr:(LA)→T):T:=br (decide (k>i)) (br (xh9 b k) (br (decide (xdC k<a.length)&&((xdy k a).length==2&&hasShs [Sh.list 3,Sh.list 2] (xdy k a) 0)) (br (decide (0≤k)&&decide (k<(↑b:Int))) (br (xis k a&&((a.getD (0+k.toNat) .top).cells.length==2&&hasShs [Sh.list 3,Sh.list 2] (a.getD (0+k.toNat) .top).cells 0)) (br (decide (0≤k)&&decide (k<(↑b:Int))) (br (xis k a) (br (xh9 b k) (br (decide (xdC k<(xh7 k a).length)) (κl (i64.wrap (k - 1),(xh7 k a).set (xdC k) (AV.agg [AV.list 3 ((a.getD (0+k.toNat) .top).cells.getD 0 .top).toList,AV.list 2 ((a.getD (0+k.toNat) .top).cells.getD 1 .top).toList]))) δ) δ) δ) δ) δ) δ) δ) δ) (κr (a))
def xbC (b:Nat) (i:Int):(Int×LA)→Option ((Int×LA)⊕(LA)):=fun (k,a)=>xfy b i k a none (fun s=>some (.inl s)) (fun p=>some (.inr p))
def xbx (b:Nat) (i:Int):(Int×LA)→LA×List Box:=fun (k,a)=>([AV.osl 0 0 0 b,AV.int .i64 i,AV.int .i64 k],[⟨0,2,83,a,false,true⟩])
def xbK (a:Nat) (i:Int):(LA)→LR:=fun p=>(.leaf (.exit 6) [] [⟨0,2,83,p,false,true⟩])
abbrev xnv (a:LA) (H:List Box):=XR Tryz.prog xcq [0,14,17] [] [] (loopAt Tryz.f142 3) a H
theorem xni (a:Nat) (i:Int) (s:Int×LA):Enc (encR (xbx a i) (xbK a i)) (xbC a i s) (xnv (xbx a i s).1 (xbx a i s).2):=by
 obtain ⟨k,b⟩:=s
 refine eV (xfy a i k b none (fun s=>some (encR (xbx a i) (xbK a i) (.inl s))) (fun p=>some (encR (xbx a i) (xbK a i) (.inr p)))) (by kernel_rfl) ?_;unfold xbC xfy;repeat' first|exact eN|exact eS rfl|apply eB
def xdr:Lp:=lpOf [0,14,17] [] [] (pCons (pOsl 0 0 0) (pCons (pInt .i64) (pCons (pInt .i64) pNil))) (pCons (pBox 0 2 83 false true pAny) pNil) fun (a,(i,(k,_))) (b,_)=>((Iter (xbC a i) (k,b)).isSome,xbK a i ((Iter (xbC a i) (k,b)).getD []))
theorem xms:LoopOk Tryz.prog (ITryz.at xcq.pin) xcq.nt (loopAt Tryz.f142 3) xdr:=xbr fun d e g f=>by
 obtain ⟨a,⟨i,⟨k,_⟩⟩⟩:=d
 obtain ⟨b,_⟩:=e
 obtain ⟨c,rfl⟩:=Prod.mk.inj f
 exact xaG mxTryz (inv0Ok Tryz.prog _) rfl xm4 xkT (xbx a i) (xbK a i) (fun p=>by simp only [xbK,LR.eval];first|(simp;done)|(repeat' split<;>simp)) (xni a i) (s:=(k,b)) (xaf c)
def xcp:Env:=xqo.fn 220 1 (lsOf [83]) (lpsOf [(3,xbn),(9,xbT),(15,xcG),(21,xdr)])
theorem xm5:OrcOk Tryz.prog (ITryz.at 1) xcp:=xlR.fn
theorem xkK:LoOk Tryz.prog (ITryz.at xcp.pin) xcp (loopAt Tryz.f142 4):=xaF (by kernel_rfl)
def xaO (a r:Int):=i64.wrap ((u64.wrap (i64.wrap (a+r))).fdiv 2)
def xdz (c b r:Int) (a:LA):=(a.getD (0+(i64.wrap (c - xaO b r)).toNat) .top).cells
def xdD (b r:Int) (a:LA):=(a.getD (0+(xaO b r).toNat) .top).cells
def xie (c b r:Int) (a:LA):=xci ((xdz c b r a).getD 0 .top).toList ((xdz c b r a).getD 1 .top).toList ((xdD b r a).getD 0 .top).toList ((xdD b r a).getD 1 .top).toList
def xfA {T:Type} (e:Nat) (a m b g n f c r:Int) (d:LA) (δ:T) (κl:(Int×Int×LA)→T) (κr:(Int×LA)→T):T:=br (decide (c<r)) (br (decide (0≤i64.wrap (f - xaO c r))&&decide (i64.wrap (f - xaO c r)<(↑e:Int))) (br (decide (0+(i64.wrap (f - xaO c r)).toNat<d.length)&&((xdz f c r d).length==2&&hasShs [Sh.list 3,Sh.list 2] (xdz f c r d) 0)) (br (decide (0≤xaO c r)&&decide (xaO c r<(↑e:Int))) (br (decide (0+(xaO c r).toNat<d.length)&&((xdD c r d).length==2&&hasShs [Sh.list 3,Sh.list 2] (xdD c r d) 0)) (br ((xie f c r d).isSome) (br (!decide ((xie f c r d).getD 0<0)) (κl (i64.wrap (xaO c r+1),r,d)) (κl (c,xaO c r,d))) δ) δ) δ) δ) δ) (κr (c,d))
def xbd (d:Nat) (a m b f n g:Int):(Int×Int×LA)→Option ((Int×Int×LA)⊕(Int×LA)):=fun (e,r,c)=>xfA d a m b f n g e r c none (fun s=>some (.inl s)) (fun p=>some (.inr p))
def xb7 (d:Nat) (a m b f n g:Int):(Int×Int×LA)→LA×List Box:=fun (e,r,c)=>([AV.osl 0 0 0 d,AV.int .i64 a,AV.int .i64 m,AV.int .i64 b,AV.func 93 [],AV.int .i64 f,AV.int .i64 n,AV.int .i64 e,AV.int .i64 r,AV.int .i64 g],[⟨0,2,83,c,false,true⟩])
def xbG (c:Nat) (a m b d n e:Int):(Int×LA)→LR:=fun p=>(.leaf (.exit 8) [AV.osl 0 0 0 c,AV.int .i64 a,AV.int .i64 m,AV.int .i64 b,AV.func 93 [],AV.int .i64 d,AV.int .i64 n,AV.int .i64 p.1] [⟨0,2,83,p.2,false,true⟩])
abbrev xnw (a:LA) (H:List Box):=XR Tryz.prog xcp [0,1,2,3,4,18,19,20,21,22] [0,1,2,3,4,18,19,20] [] (loopAt Tryz.f142 4) a H
theorem xnp (c:Nat) (a m b d n e:Int) (s:Int×Int×LA):Enc (encR (xb7 c a m b d n e) (xbG c a m b d n e)) (xbd c a m b d n e s) (xnw (xb7 c a m b d n e s).1 (xb7 c a m b d n e s).2):=by
 obtain ⟨g,r,f⟩:=s
 refine eV (xfA c a m b d n e g r f none (fun s=>some (encR (xb7 c a m b d n e) (xbG c a m b d n e) (.inl s))) (fun p=>some (encR (xb7 c a m b d n e) (xbG c a m b d n e) (.inr p)))) (by kernel_rfl) ?_;unfold xbd xfA;repeat' first|exact eN|exact eS rfl|apply eB
def xfe:Lp:=lpOf [0,1,2,3,4,18,19,20,21,22] [0,1,2,3,4,18,19,20] [] (pCons (pOsl 0 0 0) (pCons (pInt .i64) (pCons (pInt .i64) (pCons (pInt .i64) (pCons (pFunc 93 pNil) (pCons (pInt .i64) (pCons (pInt .i64) (pCons (pInt .i64) (pCons (pInt .i64) (pCons (pInt .i64) pNil)))))))))) (pCons (pBox 0 2 83 false true pAny) pNil) fun (c,(a,(m,(b,(_,(f,(n,(e,(r,(g,_)))))))))) (d,_)=>((Iter (xbd c a m b f n g) (e,r,d)).isSome,xbG c a m b f n g ((Iter (xbd c a m b f n g) (e,r,d)).getD (0,[])))
theorem xmq:LoopOk Tryz.prog (ITryz.at xcp.pin) xcp.nt (loopAt Tryz.f142 4) xfe:=xbr fun i j l k=>by
 obtain ⟨c,⟨a,⟨m,⟨b,⟨_,⟨e,⟨n,⟨f,⟨r,⟨g,_⟩⟩⟩⟩⟩⟩⟩⟩⟩⟩:=i
 obtain ⟨d,_⟩:=j
 obtain ⟨h,rfl⟩:=Prod.mk.inj k
 exact xaG mxTryz (inv0Ok Tryz.prog _) rfl xm5 xkK (xb7 c a m b e n g) (xbG c a m b e n g) (fun p=>by simp only [xbG,LR.eval];first|(simp;done)|(repeat' split<;>simp)) (xnp c a m b e n g) (s:=(f,r,d)) (xaf h)
def xfv (R:Nat→Int→Int→Int→LA→Option (LA)):LA→List Box→Option (Bool×AV×List Box):=omOf (sCons (sEq (pOsl 0 0 0)) (sCons (sEq (pInt .i64)) (sCons (sEq (pInt .i64)) (sCons (sEq (pInt .i64)) (sCons (sEq (pFunc (93:FuncId) pNil)) sNil))))) (pCons (pBox 0 2 (83:TypeId) false true pAny) pNil) fun (n,(a,(m,(b,(_,_))))) (c,_)=>((R n a m b c).isSome,(AV.tuple [],([⟨0,2,83,((R n a m b c).getD []),false,true⟩]:List Box)))
def xaU (R:Nat→Int→Int→Int→LA→Option (LA)):Env:=(xqo.withM 142 (xfv R)).fn 220 1 (lsOf [83]) (lpsOf [(3,xbn),(9,xbT),(15,xcG),(21,xdr),(33,xfe)])
def xe6 (R:Nat→Int→Int→Int→LA→Option (LA)):Prop:=OmOk Tryz.prog ITryz 142 (xfv R)
theorem xmy (R:Nat→Int→Int→Int→LA→Option (LA)) (a:xe6 R):OrcOk Tryz.prog (ITryz.at 1) (xaU R):=(xlR.withM a).fn
theorem xlv (R:Nat→Int→Int→Int→LA→Option (LA)):LoOk Tryz.prog (ITryz.at (xaU R).pin) (xaU R) (Tryz.f142.body.getD .skip):=xa7 (ls:=[loopAt Tryz.f142 0,loopAt Tryz.f142 1,loopAt Tryz.f142 2,loopAt Tryz.f142 3,loopAt Tryz.f142 4]) (by kernel_rfl) (fun l b lp a=>by
 simp only [List.mem_cons,List.not_mem_nil,or_false] at b
 rcases b with rfl|rfl|rfl|rfl|rfl
 · rw [show (xaU R).lp (codeId (loopAt Tryz.f142 0))=some xbn by kernel_rfl] at a
   simp only [Option.some.injEq] at a;subst a;exact xmw
 · rw [show (xaU R).lp (codeId (loopAt Tryz.f142 1))=some xbT by kernel_rfl] at a
   simp only [Option.some.injEq] at a;subst a;exact xmt
 · rw [show (xaU R).lp (codeId (loopAt Tryz.f142 2))=some xcG by kernel_rfl] at a
   simp only [Option.some.injEq] at a;subst a;exact xmv
 · rw [show (xaU R).lp (codeId (loopAt Tryz.f142 3))=some xdr by kernel_rfl] at a
   simp only [Option.some.injEq] at a;subst a;exact xms
 · rw [show (xaU R).lp (codeId (loopAt Tryz.f142 4))=some xfe by kernel_rfl] at a
   simp only [Option.some.injEq] at a;subst a;exact xmq)
def xaa (a b:Int):=i64.wrap ((u64.wrap (i64.wrap (a+b))).fdiv 2)
def xaB (n:Nat) (a m:Int) (b:LA):=Iter (xbC n ((Iter (xax n m) (a,m,b)).getD (0,[])).fst) (m,((Iter (xax n m) (a,m,b)).getD (0,[])).snd)
def xay (n:Nat) (a m b:Int) (c:LA):=Iter (xbz n ((Iter (xaZ n a) (m,b,c)).getD (0,[])).fst) (a,((Iter (xaZ n a) (m,b,c)).getD (0,[])).snd)
def xav (n:Nat) (a m b:Int) (c:LA):=Iter (xbd n a m b (xaa a b) (i64.wrap (xaa a b+m)) (i64.wrap (i64.wrap (xaa a b+m) - 1))) (i64.wrap (i64.wrap (xaa a b+m) - b),xaa a b,c)
def xau (n:Nat) (a m b:Int) (c:LA):=Iter (xbd n a m b (xaa a b) (i64.wrap (xaa a b+m)) (i64.wrap (i64.wrap (xaa a b+m) - 1))) (a,m,c)
def xaz (n:Nat) (a m b:Int) (c:LA):=(xav n a m b c).getD (0,[])
def xaw (n:Nat) (a m b:Int) (c:LA):=(xau n a m b c).getD (0,[])
def xah (n:Nat) (a m b:Int) (c:LA):=(xaz n a m b c).fst
def xag (n:Nat) (a m b:Int) (c:LA):=(xaw n a m b c).fst
def xab (n:Nat) (a m b:Int) (c:LA):=(xaz n a m b c).snd
def xac (n:Nat) (a m b:Int) (c:LA):=(xaw n a m b c).snd
def xad (n:Nat) (a m b:Int) (c:LA):=i64.wrap (i64.wrap (xaa a b+m) - xah n a m b c)
def xae (n:Nat) (a m b:Int) (c:LA):=i64.wrap (i64.wrap (xaa a b+m) - xag n a m b c)
def xao (n:Nat) (a m b:Int) (c:LA):=decide (xah n a m b c<xaa a b)
def xaq (n:Nat) (a m b:Int) (c:LA):=decide (a<xah n a m b c)
def xar (n:Nat) (a m b:Int) (c:LA):=decide (xag n a m b c<xaa a b)
def xap (n:Nat) (a m b:Int) (c:LA):=decide (a<xag n a m b c)
def xal (n:Nat) (a m b:Int) (c:LA):=decide (xaa a b<xad n a m b c)
def xak (n:Nat) (a m b:Int) (c:LA):=decide (xad n a m b c<b)
def xan (n:Nat) (a m b:Int) (c:LA):=decide (xaa a b<xae n a m b c)
def xam (n:Nat) (a m b:Int) (c:LA):=decide (xae n a m b c<b)
def xaj (n:Nat) (a m b:Int) (c:LA):=(xa8 n (xah n a m b c) m (xad n a m b c) (xab n a m b c)).getD []
def xai (n:Nat) (a m b:Int) (c:LA):=(xa8 n (xag n a m b c) m (xae n a m b c) (xac n a m b c)).getD []
def xat (R:Nat→Int→Int→Int→LA→Option (LA)) (n:Nat) (a m b:Int) (c:LA):Option (LA):=R n (xaa a b) (xad n a m b c) b ((R n a (xah n a m b c) (xaa a b) (xaj n a m b c)).getD [])
def xaA (R:Nat→Int→Int→Int→LA→Option (LA)) (n:Nat) (a m b:Int) (c:LA):Option (LA):=R n (xaa a b) (xae n a m b c) b ((R n a (xag n a m b c) (xaa a b) (xai n a m b c)).getD [])
def xaC {T:Type} (R:Nat→Int→Int→Int→LA→Option (LA)) (n:Nat) (a m b:Int) (c:LA) (δ:T) (κ:LA→T):T:=br (i64.wrap (m - a)==1) (br ((Iter (xaZ n a) (m,b,c)).isSome) (br ((xay n a m b c).isSome) (κ ((xay n a m b c).getD [])) δ) δ) (br (i64.wrap (b - m)==1) (br ((Iter (xax n m) (a,m,c)).isSome) (br ((xaB n a m c).isSome) (κ ((xaB n a m c).getD [])) δ) δ) (br (decide (m>xaa a b)) (br ((xav n a m b c).isSome) (br (decide (xah n a m b c<m)) (br (decide (m<xad n a m b c)) (br ((xa8 n (xah n a m b c) m (xad n a m b c) (xab n a m b c)).isSome) (br (xaq n a m b c) (br (xao n a m b c) (br ((R n a (xah n a m b c) (xaa a b) (xaj n a m b c)).isSome) (br (xal n a m b c) (br (xak n a m b c) (br ((xat R n a m b c).isSome) (κ ((xat R n a m b c).getD [])) δ) (κ ((R n a (xah n a m b c) (xaa a b) (xaj n a m b c)).getD []))) (κ ((R n a (xah n a m b c) (xaa a b) (xaj n a m b c)).getD []))) δ) (br (xal n a m b c) (br (xak n a m b c) (br ((R n (xaa a b) (xad n a m b c) b (xaj n a m b c)).isSome) (κ ((R n (xaa a b) (xad n a m b c) b (xaj n a m b c)).getD [])) δ) (κ (xaj n a m b c))) (κ (xaj n a m b c)))) (br (xal n a m b c) (br (xak n a m b c) (br ((R n (xaa a b) (xad n a m b c) b (xaj n a m b c)).isSome) (κ ((R n (xaa a b) (xad n a m b c) b (xaj n a m b c)).getD [])) δ) (κ (xaj n a m b c))) (κ (xaj n a m b c)))) δ) (br (xaq n a m b c) (br (xao n a m b c) (br ((R n a (xah n a m b c) (xaa a b) (xab n a m b c)).isSome) (br (xal n a m b c) (br (xak n a m b c) (br ((R n (xaa a b) (xad n a m b c) b ((R n a (xah n a m b c) (xaa a b) (xab n a m b c)).getD [])).isSome) (κ ((R n (xaa a b) (xad n a m b c) b ((R n a (xah n a m b c) (xaa a b) (xab n a m b c)).getD [])).getD [])) δ) (κ ((R n a (xah n a m b c) (xaa a b) (xab n a m b c)).getD []))) (κ ((R n a (xah n a m b c) (xaa a b) (xab n a m b c)).getD []))) δ) (br (xal n a m b c) (br (xak n a m b c) (br ((R n (xaa a b) (xad n a m b c) b (xab n a m b c)).isSome) (κ ((R n (xaa a b) (xad n a m b c) b (xab n a m b c)).getD [])) δ) (κ (xab n a m b c))) (κ (xab n a m b c)))) (br (xal n a m b c) (br (xak n a m b c) (br ((R n (xaa a b) (xad n a m b c) b (xab n a m b c)).isSome) (κ ((R n (xaa a b) (xad n a m b c) b (xab n a m b c)).getD [])) δ) (κ (xab n a m b c))) (κ (xab n a m b c))))) (br (xaq n a m b c) (br (xao n a m b c) (br ((R n a (xah n a m b c) (xaa a b) (xab n a m b c)).isSome) (br (xal n a m b c) (br (xak n a m b c) (br ((R n (xaa a b) (xad n a m b c) b ((R n a (xah n a m b c) (xaa a b) (xab n a m b c)).getD [])).isSome) (κ ((R n (xaa a b) (xad n a m b c) b ((R n a (xah n a m b c) (xaa a b) (xab n a m b c)).getD [])).getD [])) δ) (κ ((R n a (xah n a m b c) (xaa a b) (xab n a m b c)).getD []))) (κ ((R n a (xah n a m b c) (xaa a b) (xab n a m b c)).getD []))) δ) (br (xal n a m b c) (br (xak n a m b c) (br ((R n (xaa a b) (xad n a m b c) b (xab n a m b c)).isSome) (κ ((R n (xaa a b) (xad n a m b c) b (xab n a m b c)).getD [])) δ) (κ (xab n a m b c))) (κ (xab n a m b c)))) (br (xal n a m b c) (br (xak n a m b c) (br ((R n (xaa a b) (xad n a m b c) b (xab n a m b c)).isSome) (κ ((R n (xaa a b) (xad n a m b c) b (xab n a m b c)).getD [])) δ) (κ (xab n a m b c))) (κ (xab n a m b c))))) δ) (br ((xau n a m b c).isSome) (br (decide (xag n a m b c<m)) (br (decide (m<xae n a m b c)) (br ((xa8 n (xag n a m b c) m (xae n a m b c) (xac n a m b c)).isSome) (br (xap n a m b c) (br (xar n a m b c) (br ((R n a (xag n a m b c) (xaa a b) (xai n a m b c)).isSome) (br (xan n a m b c) (br (xam n a m b c) (br ((xaA R n a m b c).isSome) (κ ((xaA R n a m b c).getD [])) δ) (κ ((R n a (xag n a m b c) (xaa a b) (xai n a m b c)).getD []))) (κ ((R n a (xag n a m b c) (xaa a b) (xai n a m b c)).getD []))) δ) (br (xan n a m b c) (br (xam n a m b c) (br ((R n (xaa a b) (xae n a m b c) b (xai n a m b c)).isSome) (κ ((R n (xaa a b) (xae n a m b c) b (xai n a m b c)).getD [])) δ) (κ (xai n a m b c))) (κ (xai n a m b c)))) (br (xan n a m b c) (br (xam n a m b c) (br ((R n (xaa a b) (xae n a m b c) b (xai n a m b c)).isSome) (κ ((R n (xaa a b) (xae n a m b c) b (xai n a m b c)).getD [])) δ) (κ (xai n a m b c))) (κ (xai n a m b c)))) δ) (br (xap n a m b c) (br (xar n a m b c) (br ((R n a (xag n a m b c) (xaa a b) (xac n a m b c)).isSome) (br (xan n a m b c) (br (xam n a m b c) (br ((R n (xaa a b) (xae n a m b c) b ((R n a (xag n a m b c) (xaa a b) (xac n a m b c)).getD [])).isSome) (κ ((R n (xaa a b) (xae n a m b c) b ((R n a (xag n a m b c) (xaa a b) (xac n a m b c)).getD [])).getD [])) δ) (κ ((R n a (xag n a m b c) (xaa a b) (xac n a m b c)).getD []))) (κ ((R n a (xag n a m b c) (xaa a b) (xac n a m b c)).getD []))) δ) (br (xan n a m b c) (br (xam n a m b c) (br ((R n (xaa a b) (xae n a m b c) b (xac n a m b c)).isSome) (κ ((R n (xaa a b) (xae n a m b c) b (xac n a m b c)).getD [])) δ) (κ (xac n a m b c))) (κ (xac n a m b c)))) (br (xan n a m b c) (br (xam n a m b c) (br ((R n (xaa a b) (xae n a m b c) b (xac n a m b c)).isSome) (κ ((R n (xaa a b) (xae n a m b c) b (xac n a m b c)).getD [])) δ) (κ (xac n a m b c))) (κ (xac n a m b c))))) (br (xap n a m b c) (br (xar n a m b c) (br ((R n a (xag n a m b c) (xaa a b) (xac n a m b c)).isSome) (br (xan n a m b c) (br (xam n a m b c) (br ((R n (xaa a b) (xae n a m b c) b ((R n a (xag n a m b c) (xaa a b) (xac n a m b c)).getD [])).isSome) (κ ((R n (xaa a b) (xae n a m b c) b ((R n a (xag n a m b c) (xaa a b) (xac n a m b c)).getD [])).getD [])) δ) (κ ((R n a (xag n a m b c) (xaa a b) (xac n a m b c)).getD []))) (κ ((R n a (xag n a m b c) (xaa a b) (xac n a m b c)).getD []))) δ) (br (xan n a m b c) (br (xam n a m b c) (br ((R n (xaa a b) (xae n a m b c) b (xac n a m b c)).isSome) (κ ((R n (xaa a b) (xae n a m b c) b (xac n a m b c)).getD [])) δ) (κ (xac n a m b c))) (κ (xac n a m b c)))) (br (xan n a m b c) (br (xam n a m b c) (br ((R n (xaa a b) (xae n a m b c) b (xac n a m b c)).isSome) (κ ((R n (xaa a b) (xae n a m b c) b (xac n a m b c)).getD [])) δ) (κ (xac n a m b c))) (κ (xac n a m b c))))) δ)))
def xas (R:Nat→Int→Int→Int→LA→Option (LA)) (n:Nat) (a m b:Int) (c:LA):Option (LA):=xaC R n a m b c none some
theorem xoG (R:Nat→Int→Int→Int→LA→Option (LA)) (n:Nat) (a m b:Int) (xs:LA):Enc (fun (p:LA)=>(((AV.tuple [],([⟨0,2,83,p,false,true⟩]:List Box))):(AV×List Box))) (xas R n a m b xs) (XFM Tryz.prog (xaU R) Tryz.f142 (Tryz.f142.body.getD .skip) [AV.osl (0:Id) 0 0 n,AV.int .i64 a,AV.int .i64 m,AV.int .i64 b,AV.func (93:FuncId) []] [{ ver:=0,sz:=2,ty:=(83:TypeId),xs:=xs,frz:=false,pm:=true }]):=by
 refine eV (xaC R n a m b xs none (fun (p:LA)=>some (((AV.tuple [],([⟨0,2,83,p,false,true⟩]:List Box))):(AV×List Box)))) (by kernel_rfl) ?_;unfold xas xaC;repeat' first|exact eN|exact eS rfl|apply eB
def xoz (R:Nat→Int→Int→Int→LA→Option (LA)):LA→List Box→Option (Bool×AV×List Box):=omOf (sCons (sEq (pOsl 0 0 0)) (sCons (sEq (pInt .i64)) (sCons (sEq (pInt .i64)) (sCons (sEq (pInt .i64)) (sCons (sEq (pFunc (93:FuncId) pNil)) sNil))))) (pCons (pBox 0 2 (83:TypeId) false true pAny) pNil) fun (n,(a,(m,(b,(_,_))))) (c,_)=>((xas R n a m b c).isSome,((AV.tuple [],([⟨0,2,83,((xas R n a m b c).getD []),false,true⟩]:List Box))))
theorem xoD (R:Nat→Int→Int→Int→LA→Option (LA)) (f:xe6 R):OmOk Tryz.prog ITryz 142 (xoz R):=xfX fun g h k j i=>by
 obtain ⟨n,⟨a,⟨m,⟨b,⟨_,_⟩⟩⟩⟩⟩:=g
 obtain ⟨l,_⟩:=h
 obtain ⟨c,e⟩:=Prod.mk.inj i
 refine xdM (p:=(xaU R).pin) (xek mxTryz (inv0Ok Tryz.prog _) rfl (xmy R f) rfl Tryz.func142 rfl (by kernel_rfl) (xlv R) ((xoG R _ _ _ _ _ _ (xaf (d:=[]) c)).trans ?_))
 exact congrArg some e
def xaN:Nat→Nat→Int→Int→Int→LA→Option (LA)
 | 0=>fun _ _ _ _ _=>none
 | fu_+1=>fun n a m b c=>xas (xaN fu_) n a m b c
theorem xiH:∀ n,xe6 (xaN n)
 | 0=>xfX fun _ _ _ _ h=>absurd (Prod.mk.inj h).1 Bool.false_ne_true
 | fu_+1=>fun a H r b h=>xoD (xaN fu_) (xiH fu_) a H r b h
def xuf:Env:=xqo.withM 142 (xfv (xaN 1000))
theorem xpd:OrcOk Tryz.prog ITryz xuf:=xlR.withM (xiH _)
def xcM:Env:=xuf.fn 63 1 (lsOf [83]) (lpsOf [])
theorem xnL:OrcOk Tryz.prog (ITryz.at 1) xcM:=xpd.fn
theorem xlq:LoOk Tryz.prog (ITryz.at xcM.pin) xcM (loopAt Tryz.f119 0):=xaF (by kernel_rfl)
def xf4 {T:Type} (d:Nat) (n e a b:Int) (c:LA) (δ:T) (κl:(Int×Int×LA)→T) (κr:(Int×LA)→T):T:=br (decide (b≤n)) (br ((xaT d a b c).isSome) (κl (b,i64.wrap (b+e),(xaT d a b c).getD [])) δ) (κr (a,c))
def xa4 (e:Nat) (n c:Int):(Int×Int×LA)→Option ((Int×Int×LA)⊕(Int×LA)):=fun (a,b,d)=>xf4 e n c a b d none (fun s=>some (.inl s)) (fun p=>some (.inr p))
def xct (e:Nat) (n c:Int):(Int×Int×LA)→LA×List Box:=fun (a,b,d)=>([AV.osl 0 0 0 e,AV.int .i64 n,AV.func 93 [],AV.int .i64 c,AV.int .i64 a,AV.int .i64 b],[⟨0,2,83,d,false,true⟩])
def xb5 (b:Nat) (n a:Int):(Int×LA)→LR:=fun p=>(.leaf (.exit 0) [AV.osl 0 0 0 b,AV.int .i64 n,AV.func 93 [],AV.int .i64 a,AV.int .i64 p.1] [⟨0,2,83,p.2,false,true⟩])
abbrev xol (a:LA) (H:List Box):=XR Tryz.prog xcM [0,1,2,6,7,8] [0,1,2,6,7] [] (loopAt Tryz.f119 0) a H
theorem xn3 (d:Nat) (n c:Int) (s:Int×Int×LA):Enc (encR (xct d n c) (xb5 d n c)) (xa4 d n c s) (xol (xct d n c s).1 (xct d n c s).2):=by
 obtain ⟨a,b,e⟩:=s
 refine eV (xf4 d n c a b e none (fun s=>some (encR (xct d n c) (xb5 d n c) (.inl s))) (fun p=>some (encR (xct d n c) (xb5 d n c) (.inr p)))) (by kernel_rfl) ?_;unfold xa4 xf4;repeat' first|exact eN|exact eS rfl|apply eB
def xd6:Lp:=lpOf [0,1,2,6,7,8] [0,1,2,6,7] [] (pCons (pOsl 0 0 0) (pCons (pInt .i64) (pCons (pFunc 93 pNil) (pCons (pInt .i64) (pCons (pInt .i64) (pCons (pInt .i64) pNil)))))) (pCons (pBox 0 2 83 false true pAny) pNil) fun (d,(n,(_,(c,(a,(b,_)))))) (e,_)=>((Iter (xa4 d n c) (a,b,e)).isSome,xb5 d n c ((Iter (xa4 d n c) (a,b,e)).getD (0,[])))
theorem xnn:LoopOk Tryz.prog (ITryz.at xcM.pin) xcM.nt (loopAt Tryz.f119 0) xd6:=xbr fun g h j i=>by
 obtain ⟨d,⟨n,⟨_,⟨c,⟨a,⟨b,_⟩⟩⟩⟩⟩⟩:=g
 obtain ⟨e,_⟩:=h
 obtain ⟨f,rfl⟩:=Prod.mk.inj i
 exact xaG mxTryz (inv0Ok Tryz.prog _) rfl xnL xlq (xct d n c) (xb5 d n c) (fun p=>by simp only [xb5,LR.eval];first|(simp;done)|(repeat' split<;>simp)) (xn3 d n c) (s:=(a,b,e)) (xaf f)
def xcN:Env:=xuf.fn 63 1 (lsOf [83]) (lpsOf [(2,xd6)])
theorem xnR:OrcOk Tryz.prog (ITryz.at 1) xcN:=xpd.fn
theorem xll:LoOk Tryz.prog (ITryz.at xcN.pin) xcN (loopAt Tryz.f119 2):=xaF (by kernel_rfl)
def xge {T:Type} (e:Nat) (n c a b:Int) (d:LA) (δ:T) (κl:(Int×Int×LA)→T) (κr:(Int×LA)→T):T:=br (decide (b≤n)) (br ((xaN 1000 e a (i64.wrap (a+c)) b d).isSome) (κl (b,i64.wrap (b+i64.wrap (2*c)),(xaN 1000 e a (i64.wrap (a+c)) b d).getD [])) δ) (κr (a,d))
def xbm (e:Nat) (n c:Int):(Int×Int×LA)→Option ((Int×Int×LA)⊕(Int×LA)):=fun (a,b,d)=>xge e n c a b d none (fun s=>some (.inl s)) (fun p=>some (.inr p))
def xcu (e:Nat) (n c:Int):(Int×Int×LA)→LA×List Box:=fun (a,b,d)=>([AV.osl 0 0 0 e,AV.int .i64 n,AV.func 93 [],AV.int .i64 c,AV.int .i64 a,AV.int .i64 b],[⟨0,2,83,d,false,true⟩])
def xb2 (b:Nat) (n a:Int):(Int×LA)→LR:=fun p=>(.leaf (.exit 4) [AV.osl 0 0 0 b,AV.int .i64 n,AV.func 93 [],AV.int .i64 a,AV.int .i64 p.1] [⟨0,2,83,p.2,false,true⟩])
abbrev xod (a:LA) (H:List Box):=XR Tryz.prog xcN [0,1,2,6,7,8] [0,1,2,6,7] [] (loopAt Tryz.f119 2) a H
theorem xn5 (d:Nat) (n c:Int) (s:Int×Int×LA):Enc (encR (xcu d n c) (xb2 d n c)) (xbm d n c s) (xod (xcu d n c s).1 (xcu d n c s).2):=by
 obtain ⟨a,b,e⟩:=s
 refine eV (xge d n c a b e none (fun s=>some (encR (xcu d n c) (xb2 d n c) (.inl s))) (fun p=>some (encR (xcu d n c) (xb2 d n c) (.inr p)))) (by kernel_rfl) ?_;unfold xbm xge;repeat' first|exact eN|exact eS rfl|apply eB
def xfU:Lp:=lpOf [0,1,2,6,7,8] [0,1,2,6,7] [] (pCons (pOsl 0 0 0) (pCons (pInt .i64) (pCons (pFunc 93 pNil) (pCons (pInt .i64) (pCons (pInt .i64) (pCons (pInt .i64) pNil)))))) (pCons (pBox 0 2 83 false true pAny) pNil) fun (d,(n,(_,(c,(a,(b,_)))))) (e,_)=>((Iter (xbm d n c) (a,b,e)).isSome,xb2 d n c ((Iter (xbm d n c) (a,b,e)).getD (0,[])))
theorem xiG:LoopOk Tryz.prog (ITryz.at xcN.pin) xcN.nt (loopAt Tryz.f119 2) xfU:=xbr fun g h j i=>by
 obtain ⟨d,⟨n,⟨_,⟨c,⟨a,⟨b,_⟩⟩⟩⟩⟩⟩:=g
 obtain ⟨e,_⟩:=h
 obtain ⟨f,rfl⟩:=Prod.mk.inj i
 exact xaG mxTryz (inv0Ok Tryz.prog _) rfl xnR xll (xcu d n c) (xb2 d n c) (fun p=>by simp only [xb2,LR.eval];first|(simp;done)|(repeat' split<;>simp)) (xn5 d n c) (s:=(a,b,e)) (xaf f)
def xcL:Env:=xuf.fn 63 1 (lsOf [83]) (lpsOf [(2,xd6),(9,xfU)])
theorem xnS:OrcOk Tryz.prog (ITryz.at 1) xcL:=xpd.fn
theorem xlB:LoOk Tryz.prog (ITryz.at xcL.pin) xcL (loopAt Tryz.f119 1):=xa7 (ls:=[loopAt Tryz.f119 2]) (by kernel_rfl) (lkC xiG lkN)
def xd1 (c:Nat) (n a:Int) (b:LA):=Iter (xbm c n a) (0,i64.wrap (2*a),b)
def xd9 (c:Nat) (n a:Int) (b:LA):=(xd1 c n a b).getD (0,[])
def xdx (c:Nat) (n a:Int) (b:LA):=(xd9 c n a b).snd
def xd5 (c:Nat) (n a:Int) (b:LA):=(xd9 c n a b).fst
def xed (c:Nat) (n a:Int) (b:LA):=i64.wrap (xd5 c n a b+a)
def xd2 (b:Nat) (n a:Int) (c:LA):=xaN 1000 b (xd5 b n a c) (xed b n a c) n (xdx b n a c)
def xco {T:Type} (c:Nat) (n a:Int) (b:LA) (δ:T) (κl:(Int×LA)→T) (κr:(LA)→T):T:=br (decide (a<n)) (br ((xd1 c n a b).isSome) (br (decide (xed c n a b<n)) (br ((xd2 c n a b).isSome) (κl (i64.wrap (a*2),(xd2 c n a b).getD [])) δ) (κl (i64.wrap (a*2),xdx c n a b))) δ) (κr (b))
def xaP (c:Nat) (n:Int):(Int×LA)→Option ((Int×LA)⊕(LA)):=fun (a,b)=>xco c n a b none (fun s=>some (.inl s)) (fun p=>some (.inr p))
def xcm (c:Nat) (n:Int):(Int×LA)→LA×List Box:=fun (a,b)=>([AV.osl 0 0 0 c,AV.int .i64 n,AV.func 93 [],AV.int .i64 a],[⟨0,2,83,b,false,true⟩])
def xb0 (a:Nat) (n:Int):(LA)→LR:=fun p=>(.leaf (.exit 2) [] [⟨0,2,83,p,false,true⟩])
abbrev xot (a:LA) (H:List Box):=XR Tryz.prog xcL [0,1,2,6] [] [] (loopAt Tryz.f119 1) a H
theorem xoa (a:Nat) (n:Int) (s:Int×LA):Enc (encR (xcm a n) (xb0 a n)) (xaP a n s) (xot (xcm a n s).1 (xcm a n s).2):=by
 obtain ⟨b,c⟩:=s
 refine eV (xco a n b c none (fun s=>some (encR (xcm a n) (xb0 a n) (.inl s))) (fun p=>some (encR (xcm a n) (xb0 a n) (.inr p)))) (by kernel_rfl) ?_;unfold xaP xco;repeat' first|exact eN|exact eS rfl|apply eB
def xiV:Lp:=lpOf [0,1,2,6] [] [] (pCons (pOsl 0 0 0) (pCons (pInt .i64) (pCons (pFunc 93 pNil) (pCons (pInt .i64) pNil)))) (pCons (pBox 0 2 83 false true pAny) pNil) fun (b,(n,(_,(a,_)))) (c,_)=>((Iter (xaP b n) (a,c)).isSome,xb0 b n ((Iter (xaP b n) (a,c)).getD []))
theorem xnk:LoopOk Tryz.prog (ITryz.at xcL.pin) xcL.nt (loopAt Tryz.f119 1) xiV:=xbr fun e f h g=>by
 obtain ⟨a,⟨n,⟨_,⟨b,_⟩⟩⟩⟩:=e
 obtain ⟨c,_⟩:=f
 obtain ⟨d,rfl⟩:=Prod.mk.inj g
 exact xaG mxTryz (inv0Ok Tryz.prog _) rfl xnS xlB (xcm a n) (xb0 a n) (fun p=>by simp only [xb0,LR.eval];first|(simp;done)|(repeat' split<;>simp)) (xoa a n) (s:=(b,c)) (xaf d)
def xdB:Env:=xuf.fn 63 1 (lsOf [83]) (lpsOf [(2,xd6),(9,xfU),(7,xiV)])
theorem xnP:OrcOk Tryz.prog (ITryz.at 1) xdB:=xpd.fn
theorem xmn:LoOk Tryz.prog (ITryz.at xdB.pin) xdB (Tryz.f119.body.getD .skip):=xa7 (ls:=[loopAt Tryz.f119 0,loopAt Tryz.f119 1,loopAt Tryz.f119 2]) (by kernel_rfl) (lkC xnn (lkC xnk (lkC xiG lkN)))
def xgx (n:Nat) (k:Int) (a:LA):=(Iter (xa4 n k 20) (0,20,a)).getD (0,[])
def xgY (n:Nat) (k:Int) (a:LA):=xaT n (xgx n k a).fst k (xgx n k a).snd
def xgR (n:Nat) (k:Int) (a:LA):=Iter (xaP n k) (20,(xgY n k a).getD [])
def xe9 {T:Type} (n:Nat) (k:Int) (a:LA) (δ:T) (κ:LA→T):T:=br ((Iter (xa4 n k 20) (0,20,a)).isSome) (br ((xgY n k a).isSome) (br ((xgR n k a).isSome) (κ ((xgR n k a).getD [])) δ) δ) δ
def xcd (n:Nat) (k:Int) (a:LA):Option (LA):=xe9 n k a none some
theorem xpr (n:Nat) (k:Int) (xs:LA):Enc (fun (p:LA)=>(((AV.tuple [],([⟨0,2,83,p,false,true⟩]:List Box))):(AV×List Box))) (xcd n k xs) (XFM Tryz.prog xdB Tryz.f119 (Tryz.f119.body.getD .skip) [AV.osl (0:Id) 0 0 n,AV.int .i64 k,AV.func (93:FuncId) []] [{ ver:=0,sz:=2,ty:=(83:TypeId),xs:=xs,frz:=false,pm:=true }]):=by
 refine eV (xe9 n k xs none (fun (p:LA)=>some (((AV.tuple [],([⟨0,2,83,p,false,true⟩]:List Box))):(AV×List Box)))) (by kernel_rfl) ?_;unfold xcd xe9;repeat' first|exact eN|exact eS rfl|apply eB
def xkr:LA→List Box→Option (Bool×AV×List Box):=omOf (sCons (sEq (pOsl 0 0 0)) (sCons (sEq (pInt .i64)) (sCons (sEq (pFunc (93:FuncId) pNil)) sNil))) (pCons (pBox 0 2 (83:TypeId) false true pAny) pNil) fun (n,(k,(_,_))) (a,_)=>((xcd n k a).isSome,((AV.tuple [],([⟨0,2,83,((xcd n k a).getD []),false,true⟩]:List Box))))
theorem xpe:OmOk Tryz.prog ITryz 119 (xkr):=xfX fun c e h g f=>by
 obtain ⟨n,⟨k,⟨_,_⟩⟩⟩:=c
 obtain ⟨i,_⟩:=e
 obtain ⟨a,b⟩:=Prod.mk.inj f
 refine xdM (p:=xdB.pin) (xek mxTryz (inv0Ok Tryz.prog _) rfl xnP rfl Tryz.func119 rfl (by kernel_rfl) xmn ((xpr _ _ _ _ (xaf (d:=[]) a)).trans ?_))
 exact congrArg some b
def xEi:Env:=xuf.withM 119 xkr
theorem xBe:OrcOk Tryz.prog ITryz xEi:=xpd.withM xpe
def xdb:Env:=xEi.fn 9 1 (lsOf [83]) (lpsOf [])
theorem xns:OrcOk Tryz.prog (ITryz.at 1) xdb:=xBe.fn
theorem xml:LoOk Tryz.prog (ITryz.at xdb.pin) xdb (Tryz.f92.body.getD .skip):=xaF (by kernel_rfl)
def xex {T:Type} (n:Nat) (a:LA) (δ:T) (κ:LA→T):T:=br ((xcd n (↑n:Int) a).isSome) (κ ((xcd n (↑n:Int) a).getD [])) δ
def xcB (n:Nat) (a:LA):Option (LA):=xex n a none some
theorem xoV (n:Nat) (xs:LA):Enc (fun (p:LA)=>(((AV.tuple [],([⟨0,2,83,p,false,true⟩]:List Box))):(AV×List Box))) (xcB n xs) (XFM Tryz.prog xdb Tryz.f92 (Tryz.f92.body.getD .skip) [AV.osl (0:Id) 0 0 n,AV.func (93:FuncId) []] [{ ver:=0,sz:=2,ty:=(83:TypeId),xs:=xs,frz:=false,pm:=true }]):=by
 refine eV (xex n xs none (fun (p:LA)=>some (((AV.tuple [],([⟨0,2,83,p,false,true⟩]:List Box))):(AV×List Box)))) (by kernel_rfl) ?_;unfold xcB xex;repeat' first|exact eN|exact eS rfl|apply eB
def xjQ:LA→List Box→Option (Bool×AV×List Box):=omOf (sCons (sEq (pOsl 0 0 0)) (sCons (sEq (pFunc (93:FuncId) pNil)) sNil)) (pCons (pBox 0 2 (83:TypeId) false true pAny) pNil) fun (n,(_,_)) (a,_)=>((xcB n a).isSome,((AV.tuple [],([⟨0,2,83,((xcB n a).getD []),false,true⟩]:List Box))))
theorem xoY:OmOk Tryz.prog ITryz 92 (xjQ):=xfX fun c e h g f=>by
 obtain ⟨n,⟨_,_⟩⟩:=c
 obtain ⟨i,_⟩:=e
 obtain ⟨a,b⟩:=Prod.mk.inj f
 refine xdM (p:=xdb.pin) (xek mxTryz (inv0Ok Tryz.prog _) rfl xns rfl Tryz.func92 rfl (by kernel_rfl) xml ((xoV _ _ _ (xaf (d:=[]) a)).trans ?_))
 exact congrArg some b
def xAl:Env:=xEi.withM 92 xjQ
theorem xvX:OrcOk Tryz.prog ITryz xAl:=xBe.withM xoY
def xfY:Env:=xAl.fn 60 0 (lsOf []) (lpsOf [])
theorem xsW:OrcOk Tryz.prog (ITryz.at 0) xfY:=xvX.fn
theorem xp0:LoOk Tryz.prog (ITryz.at xfY.pin) xfY (loopAt Tryz.f67 0):=xaF (by kernel_rfl)
def xe7 (b:LA) (c:Int) (a:LA):=a++[AV.agg [AV.list 3 ((b.getD c.toNat .top).cells.getD 0 .top).toList,AV.list 2 []]]
def xcI (a:Nat):Nat:=0+(↑a:Int).toNat
def xc7 (a:LA) (b:Int):=(xfb ((a.getD b.toNat .top).cells.getD 0 .top).toList).getD []
def xhv (d:LA) (f:Int) (b:Nat) (e:Int) (c a:LA):=decide (xcI b<(xe7 d e a).length)
def xhu (d:LA) (e:Int) (a:Nat) (f:Int) (b c:LA):=decide ((↑a:Int)<(↑(a+1):Int))
def xbF (c:LA) (b:Nat) (d:Int) (a:LA):=((xe7 c d a).getD (xcI b) .top).cells
def xgN (a:LA) (b:Int):=decide ((xc7 a b).length≤4611686018427387904)
def xe0 (b:LA) (c:Int) (a:LA):=(mapGet (AV.int .i64 0) a (xc7 b c)).toInt
def xhw (c:LA) (b:Nat) (d:Int) (a:LA):=decide (0≤xe0 c d a)&&decide (xe0 c d a<(↑b:Int))
def xa6 (c:LA) (b:Nat) (d:Int) (a:LA):=((xbF c b d a).getD 1 .top).toList.length
def xaS (b:LA) (c:Int) (a:LA):Nat:=0+(xe0 b c a).toNat
def xgP (a:LA) (d:Nat) (b:Int) (c:LA):=((xbF a d b c).getD 1 .top).toList++[AV.agg [AV.int .i64 ((a.getD b.toNat .top).cells.getD 1 .top).toInt,AV.int .i64 ((a.getD b.toNat .top).cells.getD 2 .top).toInt]]
def xfF (c:LA) (b:Nat) (d:Int) (a:LA):=(xe7 c d a).set (xcI b) (AV.agg (List.take 1 (xbF c b d a)++[AV.int .i64 (↑(xa6 c b d a):Int)]++List.drop 2 (xbF c b d a)))
def xht (c:LA) (d:Int) (a b:LA):=decide (xaS c d a<b.length)
def xa5 (c:LA) (d:Int) (a b:LA):=((b.getD (xaS c d a) .top).cells.getD 1 .top).toList.length
def xgV (b:LA) (c:Int) (a d:LA):=((d.getD (xaS b c a) .top).cells.getD 1 .top).toList++[AV.agg [AV.int .i64 ((b.getD c.toNat .top).cells.getD 1 .top).toInt,AV.int .i64 ((b.getD c.toNat .top).cells.getD 2 .top).toInt]]
def xer (c:LA) (a:Nat) (d:Int) (b:LA):=((xfF c a d b).getD (xcI a) .top).cells
def xfD (c:LA) (d:Int) (a b:LA):=b.set (xaS c d a) (AV.agg (List.take 1 (b.getD (xaS c d a) .top).cells++[AV.int .i64 (↑(xa5 c d a b):Int)]++List.drop 2 (b.getD (xaS c d a) .top).cells))
def xeD (c:LA) (d:Int) (a b:LA):=((xfD c d a b).getD (xaS c d a) .top).cells
def xdP {T:Type} (d:LA) (f:Int) (e:Nat) (c:Int) (b a:LA) (δ:T) (κl:(Nat×Int×LA×LA)→T) (κr:(Nat×LA)→T):T:=br (decide (c<f)) (br (decide (0≤c)&&decide (c<d.length)) (br (decide (c.toNat<d.length)&&((d.getD c.toNat .top).cells.length==3&&hasShs [Sh.list 3,Sh.int .i64,Sh.int .i64] (d.getD c.toNat .top).cells 0)) (br (!xe1 ((d.getD c.toNat .top).cells.getD 1 .top).toInt ((d.getD c.toNat .top).cells.getD 2 .top).toInt) (κl (e,i64.wrap (c+1),b,a)) (br ((xfb ((d.getD c.toNat .top).cells.getD 0 .top).toList).isSome) (br (xgN d c&&hasSh1 (Sh.int .i64) (mapGet (AV.int .i64 0) b (xc7 d c))) (br (!mapHas b (xc7 d c)) (br (decide (b.length<4611686018427387904)&&xgN d c) (br (e==a.length&&(decide ((e+1)*48≤140737488355328)&&decide (e+1≤4611686018427387904))) (br (xhu d f e c b a) (br (xhv d f e c b a&&(isRow 2 ((xbF d e c a).getD 1 .top)&&(xbF d e c a).length==2)) (br (xhv d f e c b a&&(isRow 2 ((xbF d e c a).getD 1 .top)&&((xbF d e c a).length==2&&(2*xa6 d e c a==2*xa6 d e c a&&(xa6 d e c a==xa6 d e c a&&(xa6 d e c a==xa6 d e c a&&(decide ((xa6 d e c a+1)*16≤140737488355328)&&decide (xa6 d e c a+1≤4611686018427387904)))))))) (br (xhu d f e c b a) (br (decide (xcI e<(xfF d e c a).length)&&((xer d e c a).length==2&&(xa6 d e c a+1==(xgP d e c a).length&&deadLt ((xer d e c a).getD 1 .top) (xa6 d e c a+1)))) (κl (e+1,i64.wrap (c+1),mapPut b (xc7 d c) (AV.int .i64 (↑e:Int)),(xfF d e c a).set (xcI e) (AV.agg (List.take 1 (xer d e c a)++[AV.list 2 (xgP d e c a)]++List.drop 2 (xer d e c a))))) δ) δ) δ) δ) δ) δ) δ) (br (xhw d e c b) (br (xht d c b a&&(isRow 2 ((a.getD (xaS d c b) .top).cells.getD 1 .top)&&(a.getD (xaS d c b) .top).cells.length==2)) (br (xht d c b a&&(isRow 2 ((a.getD (xaS d c b) .top).cells.getD 1 .top)&&((a.getD (xaS d c b) .top).cells.length==2&&(2*xa5 d c b a==2*xa5 d c b a&&(xa5 d c b a==xa5 d c b a&&(xa5 d c b a==xa5 d c b a&&(decide ((xa5 d c b a+1)*16≤140737488355328)&&decide (xa5 d c b a+1≤4611686018427387904)))))))) (br (xhw d e c b) (br (decide (xaS d c b<(xfD d c b a).length)&&((xeD d c b a).length==2&&(xa5 d c b a+1==(xgV d c b a).length&&deadLt ((xeD d c b a).getD 1 .top) (xa5 d c b a+1)))) (κl (e,i64.wrap (c+1),b,(xfD d c b a).set (xaS d c b) (AV.agg (List.take 1 (xeD d c b a)++[AV.list 2 (xgV d c b a)]++List.drop 2 (xeD d c b a))))) δ) δ) δ) δ) δ)) δ) δ)) δ) δ) (κr (e,a))
def xbg (d:LA) (e:Int):(Nat×Int×LA×LA)→Option ((Nat×Int×LA×LA)⊕(Nat×LA)):=fun (c,f,a,b)=>xdP d e c f a b none (fun s=>some (.inl s)) (fun p=>some (.inr p))
def xeV (d:LA) (e:Int):(Nat×Int×LA×LA)→LA×List Box:=fun (c,f,a,b)=>([AV.own 0 0 0 0,AV.osl 1 0 0 c,AV.list 3 d,AV.int .i64 e,AV.int .i64 f],[⟨0,2,1208925819615080213381120,a,false,true⟩,⟨0,2,133280301139,b,false,true⟩])
def xd4 (a:LA) (b:Int):(Nat×LA)→LR:=fun p=>(.leaf (.exit 0) [AV.osl 0 0 0 p.1] [⟨0,2,133280301139,p.2,false,true⟩])
abbrev xth (a:LA) (H:List Box):=XR Tryz.prog xfY [3,4,11,12,13] [4] [(4,2,133280301139)] (loopAt Tryz.f67 0) a H
theorem xt1 (a:LA) (b:Int) (s:Nat×Int×LA×LA):Enc (encR (xeV a b) (xd4 a b)) (xbg a b s) (xth (xeV a b s).1 (xeV a b s).2):=by
 obtain ⟨e,f,c,d⟩:=s
 refine eV (xdP a b e f c d none (fun s=>some (encR (xeV a b) (xd4 a b) (.inl s))) (fun p=>some (encR (xeV a b) (xd4 a b) (.inr p)))) (by kernel_rfl) ?_;unfold xbg xdP;repeat' first|exact eN|exact eS rfl|apply eB
def xnC:Lp:=lpOf [3,4,11,12,13] [4] [(4,2,133280301139)] (pCons (pOwn 0 0 0 0) (pCons (pOsl 1 0 0) (pCons (pList 3 pAny) (pCons (pInt .i64) (pCons (pInt .i64) pNil))))) (pCons (pBox 0 2 1208925819615080213381120 false true pAny) (pCons (pBox 0 2 133280301139 false true pAny) pNil)) fun (_,(c,(d,(e,(f,_))))) (a,(b,_))=>((Iter (xbg d e) (c,f,a,b)).isSome,xd4 d e ((Iter (xbg d e) (c,f,a,b)).getD (0,[])))
theorem xrW:LoopOk Tryz.prog (ITryz.at xfY.pin) xfY.nt (loopAt Tryz.f67 0) xnC:=xbr fun h i k j=>by
 obtain ⟨_,⟨e,⟨b,⟨c,⟨f,_⟩⟩⟩⟩⟩:=h
 obtain ⟨a,⟨d,_⟩⟩:=i
 obtain ⟨g,rfl⟩:=Prod.mk.inj j
 exact xaG mxTryz (inv0Ok Tryz.prog _) rfl xsW xp0 (xeV b c) (xd4 b c) (fun p=>by simp only [xd4,LR.eval];first|(simp;done)|(repeat' split<;>simp)) (xt1 b c) (s:=(e,f,a,d)) (xaf g)
def xhk:Env:=xAl.fn 60 0 (lsOf []) (lpsOf [(4,xnC)])
theorem xsU:OrcOk Tryz.prog (ITryz.at 0) xhk:=xvX.fn
theorem xrv:LoOk Tryz.prog (ITryz.at xhk.pin) xhk (Tryz.f67.body.getD .skip):=xa7 (ls:=[loopAt Tryz.f67 0]) (by kernel_rfl) (lkC xrW lkN)
def xl4 (l:LA):=Iter (xbg l (↑l.length:Int)) (0,0,[],[])
def xl5 (l:LA):=(xl4 l).getD (0,[])
def xjm (l:LA):=(xl5 l).fst
def xlx (l:LA):=(xl5 l).snd
def xl1 (l:LA):=xcB (xjm l) (xlx l)
def xlT (l:LA):=(xl1 l).getD []
def xjP {T:Type} (l:LA) (δ:T) (κ:LA→T):T:=br ((xl4 l).isSome) (br (rowsAll 2 1 (xlx l)) (br ((xl1 l).isSome) (br (decide (0+xjm l≤(xlT l).length)&&true) (κ (List.take (xjm l) (List.drop 0 (xlT l)))) δ) δ) δ) δ
def xcR (l:LA):Option (LA):=xjP l none some
theorem xv4 (l:LA):Enc (fun (p:LA)=>((AV.list 2 p):AV)) (xcR l) (XF Tryz.prog xhk Tryz.f67 (Tryz.f67.body.getD .skip) [AV.list 3 l]):=by
 refine eV (xjP l none (fun (p:LA)=>some ((AV.list 2 p):AV))) (by kernel_rfl) ?_;unfold xcR xjP;repeat' first|exact eN|exact eS rfl|apply eB
def xp7:LA→Option (Bool×AV):=ocOf (sCons (sList 3 pAny) sNil) fun (l,_)=>((xcR l).isSome,(AV.list 2 ((xcR l).getD [])))
theorem xw6:OcOk Tryz.prog ITryz 67 (xp7):=xbc fun c f e=>by
 obtain ⟨l,_⟩:=c
 obtain ⟨a,b⟩:=Prod.mk.inj e
 refine xaQ (p:=xhk.pin) (xa1 mxTryz (inv0Ok Tryz.prog _) rfl xsU Tryz.func67 rfl (by kernel_rfl) xrv ((xv4 _ _ (xaf (d:=[]) a)).trans ?_))
 exact congrArg some b
def xHO:Env:=xAl.with 67 xp7
theorem xGF:OrcOk Tryz.prog ITryz xHO:=xvX.with xw6
abbrev EKG:Env:=xHO
theorem xI5:OrcOk Tryz.prog ITryz EKG:=xGF
end Go.Sim.M
end
