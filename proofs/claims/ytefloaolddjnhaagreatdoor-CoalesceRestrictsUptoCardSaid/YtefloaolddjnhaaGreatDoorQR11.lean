/- Part 11 of the proof: Clone, Pat, E0, PatN, K1, K2, K3, KG. -/
import Derived.Test.YtefloaolddjnhaaGreatDoorQR10
import Derived.Deep.LoopGhost
import Derived.Lib.SliceRun
set_option linter.unusedVariables false
set_option linter.unusedSimpArgs false
set_option linter.unnecessarySimpa false
set_option linter.unusedSectionVars false
noncomputable section
namespace Go.Proofs
open Go.RowKit Go.Lib Go.Shelf
set_option maxHeartbeats 2000000 in
set_option maxRecDepth 100000 in
theorem Tryz.clone_nil (n c:Nat) (w:World) :
  Calls Tryz.prog 111 #[.slice none n c] w fun e w'=>e=.returned (.slice none 0 0)∧w'=w:=by
 have q22:∀ (w:World) (a:Option Addr) (n c n' c':Nat),(binOp .eql 40 (.slice a n c) (.slice none n' c')).run Tryz.prog w=.ok (.bool a.isNone) w:=fun w a n c n' c'=>Lib.run_eql_slice_nil w 40 73 a n c n' c' (by kernel_rfl)
 go_enter Tryz.func111,Tryz.ntmps111
 go_wp2
 go_ret
 exact ⟨rfl,rfl⟩
set_option maxHeartbeats 2000000 in
set_option maxRecDepth 100000 in
theorem Tryz.clone_some (i0:TypeInfo) (z:Value) (hi:Tryz.prog.info? 73=some i0) (hz0:i0.zero=some z) (hz1:i0.size=3) (hz2:i0.bytes=32) (hzs:z.cells.size=3)
  (a:Addr) (n c:Nat) (news:List Value) (w:World) (hl:news.length=n*3) (hn:n≤maxLen) (hbig:n*32≤140737488355328)
  (hc:∀ j u,news[j]?=some u→w.cell? (a.add j)=some u) (h1:∀ u∈news,u.oneCell'=true) :
  Calls Tryz.prog 111 #[.slice (some a) n c] w fun e w'=>∃ v',e=.returned v'∧w'.ownsRow w.heap.size 73 3 v' n news∧Below w.heap.size w w':=by
 have t22:Tryz.prog.underlying 40=some (.slice 73):=by kernel_rfl
 have q22:∀ (w:World) (a:Option Addr) (n c n' c':Nat),(binOp .eql 40 (.slice a n c) (.slice none n' c')).run Tryz.prog w=.ok (.bool a.isNone) w:=fun w a n c n' c'=>Lib.run_eql_slice_nil w 40 73 a n c n' c' t22
 have u22:∀ w,Sem.run Tryz.prog (underlying 40) w=.ok (TypeDesc.slice 73) w:=run_underlying t22
 have A:Aside (∀ j u,news[j]?=some u→w.cell? (a.add j)=some u):=hc
 clear hc
 go_enter Tryz.func111,Tryz.ntmps111
 go_wp2_with (at_builtin;refine wpList_append_own _ rfl _ _ 40 rfl w.heap.size 73 i0 z 3 32 t22 hi hz0 hz1 hz2 hzs (by decide) _ _ _ rfl (World.ownsRow_made w #[] 0 (Nat.le_refl _) (Nat.zero_le _) (by simp)) a n c news rfl ?qc1 ?qc2 ?qc3 ?qc4 ?qc5 ?qc6 ?_)
 case qc1=>exact hl
 case qc2 =>
  intro j u hj
  exact Lib.cell?_alloc_some _ (A.out j u hj)
 case qc3=>exact h1
 case qc4=>rw [Nat.zero_add];exact hn
 case qc5=>rw [Nat.zero_add];exact hbig
 case qc6=>simp
 intro v' w1 hown hgrow hnil
 go_wp2
 go_ret
 refine ⟨v',rfl,by simpa using hown,?_⟩
 exact ((Below.refl _ w).alloc (Nat.le_refl _) _).grown hgrow (by simp) (by intro k hk;simp [Value.ownBlock] at hk;omega)
end Go.Proofs
namespace Go.Sim
open Go.RowKit Go.Proofs
def xrk:List AV→Option (Bool×AV)
 | [.list 3 xs]=>some (decide (xs.length≤4398046511104),.list 3 xs)
 | _=>none
theorem xzb {w w':World} {A:Nat→Prop} {e:TypeId} {sz:Nat} {v:Value} {xs:List AV} {news:List Value} (hl:∀ b,A b→b<w.heap.size) (hown:w'.ownsRow w.heap.size e sz v xs.length news) (hok:∀ x,x∈xs→x.okElem sz=true)
  (hr:∀ i j,i<xs.length→j<sz→Rel w' A noBox (news.getD (i*sz+j) undef) ((xs.getD i .top).cells.getD j .top)):Rel w' A noBox v (.list sz xs):=by
 obtain ⟨hlen,h⟩:=hown
 rcases h with ⟨rfl,h0⟩|⟨g,cap,cur,rfl,hg,hh,hle,hcm,hcs,htk⟩
 · have:xs=[]:=List.eq_nil_of_length_eq_zero h0
   subst this
   exact .list0 _ _ _
 · by_cases hne:xs=[]
   · subst hne;exact .list0 _ _ _
   · have hgl:g<w'.heap.size:=by
      rcases Nat.lt_or_ge g w'.heap.size with h|h
      · exact h
      · rw [Array.getElem?_eq_none h] at hh;simp at hh
     have hcell:∀ i j,i<xs.length→j<sz→w'.cell? ⟨g,0+i*sz+j,none⟩=some (news.getD (i*sz+j) undef):=fun i j hi hj=>by
      have hk:i*sz+j<xs.length*sz:=xeT hi hj
      have hk2:i*sz+j<cur.size:=by
       rw [hcs];exact Nat.lt_of_lt_of_le hk (Nat.mul_le_mul_right _ hle)
      have e1:news.getD (i*sz+j) undef=cur[i*sz+j]:=by
       rw [←htk];simp [List.getD_eq_getElem?_getD,List.getElem?_take,hk,hk2]
      rw [e1,Nat.zero_add]
      simp [World.cell?,hh,hk2]
     exact .list g 0 cap sz xs (fun i j=>news.getD (i*sz+j) undef) (fun hA=>by have:=hl g hA;omega) hgl hne hle hok hcell hr
theorem xEP:OcOk Tryz.prog ITryz 111 xrk:=fun xs r h=>by
 unfold xrk at h;split at h
 · rename_i xs
   simp only [Option.some.injEq,Prod.mk.injEq,decide_eq_true_eq] at h;obtain ⟨hle,rfl⟩:=h
   refine ⟨xeq Tryz.func111 rfl (by kernel_rfl),fun w A vs hI hA hrc=>?_⟩
   obtain ⟨v,rfl,h1⟩:=rc1 hrc
   have hti:∃ ti,tinfo Tryz.prog 73=some ti∧ti.sz=3∧ti.bytes=32∧ti.zero.okElem 3=true:=by
    have h:(match tinfo Tryz.prog 73 with|some ti=>(ti.sz==3)&&((ti.bytes==32)&&ti.zero.okElem 3)|none=>false)=true:=by kernel_rfl
    split at h
    · rename_i ti hti
      simp only [Bool.and_eq_true,beq_iff_eq] at h
      exact ⟨ti,hti,h.1,h.2.1,h.2.2⟩
    · simp at h
   obtain ⟨ti,hti,s1,s2,s3⟩:=hti
   obtain ⟨i,z,g1,g2,g3,g4,g5,g6,_⟩:=xcy hti
   have hzs:z.cells.size=3:=by
    have hrz:Rel w A noBox z ti.zero:=by rw [g6];exact xeU w A noBox z
    rw [(hrz.cells (xbB s3)).1,xa5 s3]
   have hnil:∀ n c,v=.slice none n c→xs=[]→Calls Tryz.prog 111 [v].toArray w fun e w'=>∃ v,e=.returned v∧Below w.heap.size w w'∧Rel w' A noBox v (.list 3 xs):=by
    rintro n c rfl rfl
    refine (Tryz.clone_nil n c w).mono ?_
    rintro e w' ⟨rfl,rfl⟩
    exact ⟨_,rfl,Below.refl _ _,.list0 _ _ _⟩
   have hsome:∀ b off c (val:Nat→Nat→Value),v=.slice (some ⟨b,off,none⟩) xs.length c→(∀ x,x∈xs→x.okElem 3=true)→(∀ i j,i<xs.length→j<3→w.cell? ⟨b,off+i*3+j,none⟩=some (val i j))→(∀ i j,i<xs.length→j<3→Rel w A noBox (val i j) ((xs.getD i .top).cells.getD j .top)) →
     Calls Tryz.prog 111 [v].toArray w fun e w'=>∃ v,e=.returned v∧Below w.heap.size w w'∧Rel w' A noBox v (.list 3 xs):=by
    rintro b off c val rfl hok hc hr
    have hs:∀ i j,i<xs.length→j<3→∃ u,w.cell? ⟨b,off+(i*3+j),none⟩=some u∧Rel w A noBox u ((xs.getD i .top).cells.getD j .top):=fun i j hi hj=>⟨val i j,by rw [←Nat.add_assoc];exact hc i j hi hj,hr i j hi hj⟩
    refine (Tryz.clone_some i z g1 g3 (by rw [←g4,s1]) (by rw [←g5,s2]) hzs ⟨b,off,none⟩ xs.length c (srcCells w b off (xs.length*3)) w (xi1 _ _ _ _) (by unfold maxLen;omega) (by omega)
     (fun j u hj=>xwG (by decide) hs j u hj) (xJT (by decide) hs hok)).mono ?_
    rintro e w' ⟨v',rfl,hown,hbel⟩
    exact ⟨v',rfl,hbel,xzb hA hown hok fun i j hi hj=>(xJQ hs hi hj).grow hbel⟩
   have h1':=h1
   generalize hx:AV.list 3 xs=x at h1
   cases h1 with
   | list0 a cap sz =>
    simp only [AV.list.injEq] at hx
    obtain ⟨rfl,rfl⟩:=hx
    cases a with
    | none=>exact hnil 0 cap rfl rfl
    | some a =>
     refine (Tryz.clone_some i z g1 g3 (by rw [←g4,s1]) (by rw [←g5,s2]) hzs a 0 cap [] w rfl (Nat.zero_le _) (by omega) (by simp) (by simp)).mono ?_
     rintro e w' ⟨v',rfl,hown,hbel⟩
     exact ⟨v',rfl,hbel,xzb hA (xs:=[]) hown (by simp) (by simp)⟩
   | list b off cap sz ys val ha hb hne hcap hsz hc hr =>
    simp only [AV.list.injEq] at hx
    obtain ⟨rfl,rfl⟩:=hx
    exact hsome b off cap val rfl hsz hc hr
   | _=>simp at hx
 · simp at h
end Go.Sim
end
noncomputable section
namespace Go.Sim
open Go.RowKit
variable {α β γ : Type}
structure Pat (α β:Type) where
 enc:β→α
 dec:α→Option β
 ok:∀ a b,dec a=some b→a=enc b
def pAny:Pat α α:=⟨fun b=>b,some,fun a b h=>by simpa using h⟩
def pInt (k:IntKind):Pat AV Int:=⟨.int k,fun v=>match v with
 | .int k' n=>match decide (k'=k) with
  | true=>some n
  | false=>none
 | _=>none,fun v n h=>by
 split at h
 · split at h
   · rename_i hk;simp only [Option.some.injEq] at h;rw [of_decide_eq_true hk,h]
   · simp at h
 · simp at h⟩
def pStr:Pat AV (List UInt8):=⟨.str,fun v=>match v with
 | .str s=>some s
 | _=>none,fun v n h=>by
 split at h
 · simp only [Option.some.injEq] at h;rw [h]
 · simp at h⟩
def pBool:Pat AV Bool:=⟨.bool,fun v=>match v with
 | .bool s=>some s
 | _=>none,fun v n h=>by
 split at h
 · simp only [Option.some.injEq] at h;rw [h]
 · simp at h⟩
def pList (sz:Nat) (q:Pat (List AV) β):Pat AV β:=⟨fun b=>.list sz (q.enc b),fun v=>match v with
 | .list z xs=>match Nat.beq z sz with
  | true=>q.dec xs
  | false=>none
 | _=>none,fun v n h=>by
 split at h
 · split at h
   · rename_i hz;rw [Nat.eq_of_beq_eq_true hz,q.ok _ _ h]
   · simp at h
 · simp at h⟩
def pOsl (id ver off:Nat):Pat AV Nat:=⟨.osl id ver off,fun v=>match v with
 | .osl (.b i) e o n=>match Nat.beq i id&&(Nat.beq e ver&&Nat.beq o off) with
  | true=>some n
  | false=>none
 | _=>none,fun v n h=>by
 split at h
 · split at h
   · rename_i hz
     simp only [Bool.and_eq_true] at hz
     simp only [Option.some.injEq] at h
     rw [Nat.eq_of_beq_eq_true hz.1,Nat.eq_of_beq_eq_true hz.2.1,Nat.eq_of_beq_eq_true hz.2.2,h]
   · simp at h
 · simp at h⟩
def pOslV (id off:Nat):Pat AV (Nat×Nat):=⟨fun p=>.osl id p.1 off p.2,fun v=>match v with
 | .osl (.b i) e o n=>match Nat.beq i id&&Nat.beq o off with
  | true=>some (e,n)
  | false=>none
 | _=>none,fun v n h=>by
 split at h
 · split at h
   · rename_i hz
     simp only [Bool.and_eq_true] at hz
     simp only [Option.some.injEq] at h
     rw [Nat.eq_of_beq_eq_true hz.1,Nat.eq_of_beq_eq_true hz.2,←h]
   · simp at h
 · simp at h⟩
def pOwnV (id j:Nat):Pat AV (Nat×Nat):=⟨fun p=>.own id p.1 p.2 j,fun v=>match v with
 | .own (.b a) b c d=>match Nat.beq a id&&Nat.beq d j with
  | true=>some (b,c)
  | false=>none
 | _=>none,fun v n h=>by
 split at h
 · split at h
   · rename_i hz
     simp only [Bool.and_eq_true] at hz
     simp only [Option.some.injEq] at h
     rw [Nat.eq_of_beq_eq_true hz.1,Nat.eq_of_beq_eq_true hz.2,←h]
   · simp at h
 · simp at h⟩
def pOwn (id ver i j:Nat):Pat AV Unit:=⟨fun _=>.own id ver i j,fun v=>match v with
 | .own (.b a) b c d=>match Nat.beq a id&&(Nat.beq b ver&&(Nat.beq c i&&Nat.beq d j)) with
  | true=>some ()
  | false=>none
 | _=>none,fun v n h=>by
 split at h
 · split at h
   · rename_i hz
     simp only [Bool.and_eq_true] at hz
     rw [Nat.eq_of_beq_eq_true hz.1,Nat.eq_of_beq_eq_true hz.2.1,Nat.eq_of_beq_eq_true hz.2.2.1,Nat.eq_of_beq_eq_true hz.2.2.2]
   · simp at h
 · simp at h⟩
def pAgg (q:Pat (List AV) β):Pat AV β:=⟨fun b=>.agg (q.enc b),fun v=>match v with
 | .agg cs=>q.dec cs
 | _=>none,fun v n h=>by
 split at h
 · rw [q.ok _ _ h]
 · simp at h⟩
def pFunc (f:Nat) (q:Pat (List AV) β):Pat AV β:=⟨fun b=>.func f (q.enc b),fun v=>match v with
 | .func g cs=>match Nat.beq g f with
  | true=>q.dec cs
  | false=>none
 | _=>none,fun v n h=>by
 split at h
 · split at h
   · rename_i hz;rw [Nat.eq_of_beq_eq_true hz,q.ok _ _ h]
   · simp at h
 · simp at h⟩
def pNils:Pat AV Unit:=⟨fun _=>.nils,fun v=>match v with
 | .nils=>some ()
 | _=>none,fun v n h=>by
 split at h
 · rfl
 · simp at h⟩
def pNilptr:Pat AV Unit:=⟨fun _=>.nilptr,fun v=>match v with
 | .nilptr=>some ()
 | _=>none,fun v n h=>by
 split at h
 · rfl
 · simp at h⟩
def pNil:Pat (List α) Unit:=⟨fun _=>[],fun v=>match v with
 | []=>some ()
 | _=>none,fun v n h=>by
 split at h
 · rfl
 · simp at h⟩
def pCons (p:Pat α β) (q:Pat (List α) γ):Pat (List α) (β×γ):=⟨fun b=>p.enc b.1::q.enc b.2,fun v=>match v with
 | x::t=>match p.dec x with
  | some b=>match q.dec t with
   | some c=>some (b,c)
   | none=>none
  | none=>none
 | _=>none,fun v n h=>by
 split at h
 · split at h
   · rename_i hp
     split at h
     · rename_i hq
       simp only [Option.some.injEq] at h
       subst h
       rw [p.ok _ _ hp,q.ok _ _ hq]
     · simp at h
   · simp at h
 · simp at h⟩
def pBox (ver sz ty:Nat) (frz pm:Bool) (q:Pat (List AV) β):Pat Box β:=⟨fun b=>⟨ver,sz,ty,q.enc b,frz,pm⟩,fun v=>match v with
 | ⟨a,b,c,xs,f,p⟩=>match Nat.beq a ver&&(Nat.beq b sz&&(Nat.beq c ty&&((f==frz)&&(p==pm)))) with
  | true=>q.dec xs
  | false=>none,fun v n h=>by
 obtain ⟨a,b,c,xs,f,p⟩:=v
 dsimp only at h;split at h
 · rename_i hz
   simp only [Bool.and_eq_true,beq_iff_eq] at hz
   rw [Nat.eq_of_beq_eq_true hz.1,Nat.eq_of_beq_eq_true hz.2.1,Nat.eq_of_beq_eq_true hz.2.2.1,hz.2.2.2.1,hz.2.2.2.2,q.ok _ _ h]
 · simp at h⟩
def pBoxV (sz ty:Nat) (frz pm:Bool) (q:Pat (List AV) β):Pat Box (Nat×β):=⟨fun b=>⟨b.1,sz,ty,q.enc b.2,frz,pm⟩,fun v=>match v with
 | ⟨a,b,c,xs,f,p⟩=>match Nat.beq b sz&&(Nat.beq c ty&&((f==frz)&&(p==pm))) with
  | true=>match q.dec xs with
   | some y=>some (a,y)
   | none=>none
  | false=>none,fun v n h=>by
 obtain ⟨a,b,c,xs,f,p⟩:=v
 dsimp only at h;split at h
 · rename_i hz
   simp only [Bool.and_eq_true,beq_iff_eq] at hz
   split at h
   · rename_i y hy
     simp only [Option.some.injEq] at h
     rw [Nat.eq_of_beq_eq_true hz.1,Nat.eq_of_beq_eq_true hz.2.1,hz.2.2.1,hz.2.2.2,←h,q.ok _ _ hy]
   · simp at h
 · simp at h⟩
def Sub (a b:AV):Prop:=∀ (w:World) (A:Nat→Prop) (M:Id→Option MB) (v:Value),Rel w A M v a→Rel w A M v b
def SubL (aS bs:List AV):Prop:=aS.length=bs.length∧∀ i,i<aS.length→Sub (aS.getD i .top) (bs.getD i .top)
theorem Sub.refl (a:AV):Sub a a:=fun _ _ _ _ h=>h
theorem Sub.of_eq {a b:AV} (h:a=b):Sub a b:=h▸Sub.refl a
theorem xNy (sz:Nat):Sub .nils (.list sz []):=fun w A M v h=>by
 cases h;exact .list0 _ _ _
theorem xPP {aS bs:List AV} (h:SubL aS bs):Sub (.agg aS) (.agg bs):=fun w A M v hr=>by
 obtain ⟨vs,rfl,h1,h2⟩:=hr.agg_inv
 exact .agg vs bs (h1.trans h.1) fun i hi=>h.2 i (h.1.symm▸hi) w A M _ (h2 i (h.1.symm▸hi))
theorem xLZ {w:World} {A:Nat→Prop} {M:Id→Option MB} {vs:List Value} {aS bs:List AV} (h:SubL aS bs) (hr:RC w A M vs aS):RC w A M vs bs :=
 ⟨hr.1.trans h.1,fun i hi=>h.2 i (h.1.symm▸hi) w A M _ (hr.2 i (h.1.symm▸hi))⟩
structure SPat (β:Type) where
 enc:β→AV
 dec:AV→Option β
 ok:∀ a b,dec a=some b→Sub a (enc b)
structure SPatL (β:Type) where
 enc:β→List AV
 dec:List AV→Option β
 ok:∀ a b,dec a=some b→SubL a (enc b)
def sEq (p:Pat AV β):SPat β:=⟨p.enc,p.dec,fun a b h=>Sub.of_eq (p.ok a b h)⟩
def sList (sz:Nat) (q:Pat (List AV) β):SPat β:=⟨fun b=>.list sz (q.enc b),fun v=>match v with
 | .nils=>q.dec []
 | .list z xs=>match Nat.beq z sz with
  | true=>q.dec xs
  | false=>none
 | _=>none,fun v n h=>by
 split at h
 · rw [←q.ok _ _ h];exact xNy sz
 · split at h
   · rename_i hz;rw [Nat.eq_of_beq_eq_true hz,q.ok _ _ h];exact Sub.refl _
   · simp at h
 · simp at h⟩
def sAgg (q:SPatL β):SPat β:=⟨fun b=>.agg (q.enc b),fun v=>match v with
 | .agg cs=>q.dec cs
 | _=>none,fun v n h=>by
 split at h
 · exact xPP (q.ok _ _ h)
 · simp at h⟩
def sNil:SPatL Unit:=⟨fun _=>[],fun v=>match v with
 | []=>some ()
 | _=>none,fun v n h=>by
 split at h
 · exact ⟨rfl,fun i hi=>by simp at hi⟩
 · simp at h⟩
def sCons (p:SPat β) (q:SPatL γ):SPatL (β×γ):=⟨fun b=>p.enc b.1::q.enc b.2,fun v=>match v with
 | x::t=>match p.dec x with
  | some b=>match q.dec t with
   | some c=>some (b,c)
   | none=>none
  | none=>none
 | _=>none,fun v n h=>by
 split at h
 · split at h
   · rename_i hp
     split at h
     · rename_i hq
       simp only [Option.some.injEq] at h
       subst h
       obtain ⟨h1,h2⟩:=q.ok _ _ hq
       refine ⟨by simp [h1],fun i hi=>?_⟩
       cases i with
       | zero=>exact p.ok _ _ hp
       | succ i=>exact h2 i (by simpa using hi)
     · simp at h
   · simp at h
 · simp at h⟩
def ocOf (pv:SPatL β) (g:β→Bool×AV):List AV→Option (Bool×AV):=fun xs=>match pv.dec xs with
 | some b=>some (g b)
 | none=>none
def omOf (pv:SPatL β) (pb:Pat (List Box) γ) (g:β→γ→Bool×AV×List Box):List AV→List Box→Option (Bool×AV×List Box):=fun xs H=>match pv.dec xs with
 | some b=>match pb.dec H with
  | some c=>some (g b c)
  | none=>none
 | none=>none
def lpOf (live liveO:List Nat) (conv:List (Nat×Nat×TypeId)) (pv:Pat (List AV) β) (pb:Pat (List Box) γ) (g:β→γ→Bool×LR):Lp:=⟨live,liveO,conv,fun xs H=>match pv.dec xs with
 | some b=>match pb.dec H with
  | some c=>some (g b c)
  | none=>none
 | none=>none⟩
section
variable {P : Program} {Inv : IV}
theorem xaN {n:FuncId} {pv:SPatL β} {g:β→Bool×AV} (h:∀ b r,g b=(true,r)→Good P Inv n (pv.enc b) r):OcOk P Inv n (ocOf pv g):=fun xs r e=>by
 unfold ocOf at e;split at e
 · rename_i b hb
   simp only [Option.some.injEq] at e
   obtain ⟨h1,h2⟩:=h b r e
   exact ⟨h1,fun w A vs hi ha hr=>h2 w A vs hi ha (xLZ (pv.ok _ _ hb) hr)⟩
 · simp at e
theorem xfQ {n:FuncId} {pv:SPatL β} {pb:Pat (List Box) γ} {g:β→γ→Bool×AV×List Box} (h:∀ b c r H',g b c=(true,r,H')→GoodM P Inv n (pv.enc b) (pb.enc c) r H'):OmOk P Inv n (omOf pv pb g):=fun xs H r H' e=>by
 unfold omOf at e;split at e
 · rename_i b hb
   split at e
   · rename_i c hc
     simp only [Option.some.injEq] at e
     rw [pb.ok _ _ hc]
     obtain ⟨h1,h2⟩:=h b c r H' e
     exact ⟨h1,fun w0 w A M vs hi hb' hR hr=>h2 w0 w A M vs hi hb' hR (xLZ (pv.ok _ _ hb) hr)⟩
   · simp at e
 · simp at e
theorem xaY {nt:Nat} {l:Code} {live liveO:List Nat} {conv:List (Nat×Nat×TypeId)} {pv:Pat (List AV) β} {pb:Pat (List Box) γ} {g:β→γ→Bool×LR}
  (h:∀ b c r,g b c=(true,r)→DoesL P Inv l (fun e1 s1=>e1=r.eval.1∧s1=⟨mkTs nt (liveO.zip r.eval.2.1),r.eval.2.2⟩) ⟨mkTs nt (live.zip (pv.enc b)),pb.enc c⟩):LoopOk P Inv nt l (lpOf live liveO conv pv pb g):=fun vals H r e=>by
 unfold lpOf at e;dsimp only at e;split at e
 · rename_i b hb
   split at e
   · rename_i c hc
     simp only [Option.some.injEq] at e
     rw [pv.ok _ _ hb,pb.ok _ _ hc]
     exact h b c r e
   · simp at e
 · simp at e
end
theorem xab {x:Option α} {d:α} (h:x.isSome=true):x=some (x.getD d):=by
 cases x with
 | none=>simp at h
 | some y=>rfl
end Go.Sim
end
noncomputable section
namespace Go.Sim.M
open Go.RowKit Go.Proofs
def E0:Env:=((((Env.none.with 138 xnY).with 116 xra).with 111 xrk).withM 139 xuY).withM 118 xoX
theorem xKY:OrcOk Tryz.prog ITryz E0:=((((xLa.with xBf).with xFy).with xEP).withM xJi).withM xCG
end Go.Sim.M
end
noncomputable section
namespace Go.Sim
open Go.RowKit
def EncS {α:Type} (f:α→AV) (a:Option α) (b:Option AV):Prop:=∀ r,a=some r→∃ x,b=some x∧Sub x (f r)
theorem EncS.none {α:Type} {f:α→AV} {b:Option AV}:EncS f .none b:=fun r h=>by simp at h
theorem EncS.some {α:Type} {f:α→AV} {a:α} {b:AV} (h:Sub b (f a)):EncS f (Option.some a) (Option.some b):=fun r e=>by simp only [Option.some.injEq] at e;subst e;exact ⟨b,rfl,h⟩
theorem EncS.br {α:Type} {f:α→AV} {t:Bool} {a a':Option α} {b b':Option AV} (h1:EncS f a b) (h2:EncS f a' b'):EncS f (Sim.br t a a') (Sim.br t b b'):=by cases t<;>assumption
theorem Good.sub {P:Program} {Inv:IV} {f:FuncId} {args:List AV} {r r':AV} (h:Good P Inv f args r) (hs:Sub r r'):Good P Inv f args r' :=
 ⟨h.1,fun w A vs hI hA hrc=>(h.2 w A vs hI hA hrc).mono fun e w' ⟨v,he,hb,hr⟩=>⟨v,he,hb,hs w' A noBox v hr⟩⟩
theorem GoodM.bump1 {P:Program} {Inv:IV} {f:FuncId} {args:List AV} {H:List Box} {v v' k sz:Nat} {ty:TypeId} {xs:List AV} {frz pm:Bool} (hpl:isC ty=false) (hv:v<v')
  (h:GoodM P Inv f args H (.osl (.b 0) v 0 k) [⟨v,sz,ty,xs,frz,pm⟩]):GoodM P Inv f args H (.osl (.b 0) v' 0 k) [⟨v',sz,ty,xs,frz,pm⟩]:=by
 refine ⟨h.1,fun w0 w A M vs hI hB hR hrc=>(h.2 w0 w A M vs hI hB hR hrc).mono ?_⟩
 rintro e w' ⟨u,A',M',rfl,h1,h2,h3,h4,h5⟩
 obtain ⟨m,g1,g2,g3,g4⟩:=Rel.osl_inv h5
 obtain ⟨bx,q1,q2⟩:=h4.box _ m g1
 have:bx=⟨v,sz,ty,xs,frz,pm⟩:=by
  have:=q1
  rw [xdL] at this
  simpa using this.symm
 subst this
 have hver:v=m.ver:=q2.ver
 have hext:MExt M' (MSet M' (.b 0) ⟨m.b,v',m.sz,m.cap,m.ty⟩):=xrb g1 (.inr (by simp only;omega))
 have hsame:∀ id m1,MSet M' (.b 0) ⟨m.b,v',m.sz,m.cap,m.ty⟩ id=some m1→∃ m0,M' id=some m0∧m1.b=m0.b∧m1.cap=m0.cap:=fun id m1 hm1=>by
  by_cases hi:id=.b 0
  · subst hi;simp [MSet] at hm1;subst hm1;exact ⟨m,g1,rfl,rfl⟩
  · exact ⟨m1,by simpa [MSet,hi] using hm1,rfl,rfl⟩
 have hR':HR w' A' (MSet M' (.b 0) ⟨m.b,v',m.sz,m.cap,m.ty⟩) w0.heap.size [⟨v',sz,ty,xs,frz,pm⟩]:=by
  refine ⟨fun id m1 hm1=>?_,fun id id' m1 m2 k1 k2 c1 c2 he=>?_,h4.lt⟩
  · by_cases hi:id=.b 0
    · subst hi
      have:m1=⟨m.b,v',m.sz,m.cap,m.ty⟩:=by simp [MSet] at hm1;exact hm1.symm
      subst this
      have q3:=q2.mono (w':=w') (fun _=>rfl) (fun _ _ _=>rfl) (Nat.le_refl _) (fun _ _ h=>h) q2.guard hext
      exact ⟨⟨v',sz,ty,xs,frz,pm⟩,rfl,rfl,q3.sz,q3.ty,q3.capm,q3.fits,q3.ok,q3.low,q3.lt,q3.cells,q3.guard⟩
    · have hm2:M' id=some m1:=by simpa [MSet,hi] using hm1
      obtain ⟨bx,k1,k2⟩:=h4.box id m1 hm2
      have k3:getB [⟨v',sz,ty,xs,frz,pm⟩] id=some bx:=by
       rw [←k1]
       exact xeE (H:=[⟨v,sz,ty,xs,frz,pm⟩]) (n:=0) (bx:=⟨v,sz,ty,xs,frz,pm⟩) (bx':=⟨v',sz,ty,xs,frz,pm⟩) rfl hpl hpl hi
      exact ⟨bx,k3,k2.mono (fun _=>rfl) (fun _ _ _=>rfl) (Nat.le_refl _) (fun _ _ h=>h) k2.guard hext⟩
  · obtain ⟨n1,a1,a2,a3⟩:=hsame id m1 k1
    obtain ⟨n2,b1,b2,b3⟩:=hsame id' m2 k2
    exact h4.inj id id' n1 n2 a1 b1 (by omega) (by omega) (by rw [←a2,←b2,he])
 refine ⟨u,A',MSet M' (.b 0) ⟨m.b,v',m.sz,m.cap,m.ty⟩,rfl,h1,h2,h3.step ⟨Nat.le_refl _,fun _ _ _=>rfl,fun _ _ h=>h,fun _ _ h _=>h,hext,⟨fun _ _ _=>rfl,fun id m1 hm1 h0=>?_⟩⟩,hR',?_⟩
 · obtain ⟨n1,a1,a2,a3⟩:=hsame id m1 hm1
   exact .inl ⟨id,n1,a1,by omega,a2⟩
 · exact .osl u (.b 0) v' 0 k ⟨m.b,v',m.sz,m.cap,m.ty⟩ (by simp [MSet]) (Nat.le_refl _) g3 fun _=>g4 hver
theorem GoodM.weaken {P:Program} {Inv:IV} {f:FuncId} {args:List AV} {H H1 H2:List Box} {r r2:AV} (h:GoodM P Inv f args H r H1)
  (hw:∀ w A M B v,HR w A M B H1→Rel w A M v r→∃ M',HR w A M' B H2∧Mv w A M w A M'∧Rel w A M' v r2):GoodM P Inv f args H r2 H2:=by
 refine ⟨h.1,fun w0 w A M vs hI hB hR hrc=>(h.2 w0 w A M vs hI hB hR hrc).mono ?_⟩
 rintro e w' ⟨u,A',M',rfl,h1,h2,h3,h4,h5⟩
 obtain ⟨M2,g1,g2,g3⟩:=hw w' A' M' _ u h4 h5
 exact ⟨u,A',M2,rfl,h1,h2,h3.step g2,g1,g3⟩
theorem xMb {w:World} {A:Nat→Prop} {M:Id→Option MB} {B:Nat} {H:List Box} (hR:HR w A M B H) {n:Nat} {m:MB} {bx:Box} (hm:M (.b n)=some m) (hb:H[n]?=some bx) (hpl:isC bx.ty=false) (v:Nat) (hv:m.ver<v) (sz:Nat) (ty:TypeId) (hty:isC ty=false) :
  HR w A (MSet M (.b n) ⟨m.b,v,sz,0,ty⟩) B (H.set n ⟨v,sz,ty,[],false,true⟩)∧Mv w A M w A (MSet M (.b n) ⟨m.b,v,sz,0,ty⟩):=by
 have hext:MExt M (MSet M (.b n) ⟨m.b,v,sz,0,ty⟩):=xrb hm (.inr hv)
 have hc:∀ {p:Prop},0<(0:Nat)→p:=fun h=>absurd h (by omega)
 have hcase:∀ i m1,MSet M (.b n) ⟨m.b,v,sz,0,ty⟩ i=some m1→0<m1.cap→i≠.b n∧M i=some m1:=fun i m1 h1 h0=>by
  by_cases hi:i=.b n
  · subst hi;simp [MSet] at h1;subst h1;exact absurd h0 (by simp)
  · exact ⟨hi,by simpa [MSet,hi] using h1⟩
 refine ⟨⟨fun i m1 h1=>?_,fun i i' m1 m2 h1 h2 c1 c2 he=>hR.inj i i' m1 m2 (hcase i m1 h1 c1).2 (hcase i' m2 h2 c2).2 c1 c2 he,hR.lt⟩,⟨Nat.le_refl _,fun _ _ _=>rfl,fun _ _ h=>h,fun _ _ h _=>h,hext,⟨fun _ _ _=>rfl,fun i m1 h1 h0=>.inl ⟨i,m1,(hcase i m1 h1 h0).2,h0,rfl⟩⟩⟩⟩
 by_cases hi:i=.b n
 · subst hi
   have:m1=⟨m.b,v,sz,0,ty⟩:=by simp [MSet] at h1;exact h1.symm
   subst this
   exact ⟨⟨v,sz,ty,[],false,true⟩,by rw [xdL,List.getElem?_set_self (xfB hb)],rfl,rfl,xcz hty,Nat.zero_le _,Nat.zero_le _,fun x hx=>by simp at hx,hc,hc,hc,hc⟩
 · have hm2:M i=some m1:=by simpa [MSet,hi] using h1
   obtain ⟨bx2,g1,g2⟩:=hR.box i m1 hm2
   exact ⟨bx2,by rw [xeE hb hpl hty hi];exact g1,g2.mono (fun _=>rfl) (fun _ _ _=>rfl) (Nat.le_refl _) (fun _ _ h=>h) g2.guard hext⟩
theorem GoodM.drop0 {P:Program} {Inv:IV} {f:FuncId} {args:List AV} {H:List Box} {v v' w k sz sz':Nat} {ty ty':TypeId} {xs ys:List AV} {frz pm fr1 pm1:Bool} (hpl:isC ty=false) (hv:v<v')
  (h:GoodM P Inv f args H (.osl (.b 1) w 0 k) [⟨v,sz,ty,xs,frz,pm⟩,⟨w,sz',ty',ys,fr1,pm1⟩]):GoodM P Inv f args H (.osl (.b 1) w 0 k) [⟨v',sz,ty,[],false,true⟩,⟨w,sz',ty',ys,fr1,pm1⟩] :=
 h.weaken fun w1 A M B u hR hr=>by
  cases hm:M (.b 0) with
  | some m =>
   obtain ⟨bx,q1,q2⟩:=hR.box _ m hm
   have hb:[(⟨v,sz,ty,xs,frz,pm⟩:Box),⟨w,sz',ty',ys,fr1,pm1⟩][0]?=some ⟨v,sz,ty,xs,frz,pm⟩:=rfl
   rw [xdL,hb] at q1
   simp only [Option.some.injEq] at q1
   subst q1
   obtain ⟨g1,g2⟩:=xMb hR hm hb hpl v' (by have:v=m.ver:=q2.ver;omega) sz ty hpl
   exact ⟨_,g1,g2,g2.rel hr⟩
  | none =>
   refine ⟨M,⟨fun i m hm1=>?_,hR.inj,hR.lt⟩,Mv.refl,hr⟩
   obtain ⟨bx,q1,q2⟩:=hR.box i m hm1
   refine ⟨bx,?_,q2⟩
   by_cases hi:i=.b 0
   · subst hi;rw [hm] at hm1;cases hm1
   · rw [←q1]
     exact xeE (H:=[⟨v,sz,ty,xs,frz,pm⟩,⟨w,sz',ty',ys,fr1,pm1⟩]) (n:=0) (bx:=⟨v,sz,ty,xs,frz,pm⟩) (bx':=⟨v',sz,ty,[],false,true⟩) rfl hpl hpl hi
theorem GoodM.move0 {P:Program} {Inv:IV} {f:FuncId} {args:List AV} {H:List Box} {v v' w k sz:Nat} {ty:TypeId} {xs:List AV} {frz:Bool} (hpl:isC ty=false) (hv:v<v')
  (h:GoodM P Inv f args H (.osl (.b 0) v 0 k) [⟨v,sz,ty,xs,frz,true⟩]):GoodM P Inv f args H (.osl (.b 1) w 0 k) [⟨v',sz,ty,[],false,true⟩,⟨w,sz,ty,xs,frz,true⟩] :=
 h.weaken fun w1 A M B u hR hr=>by
  obtain ⟨m,g1,g2,g3,g4⟩:=Rel.osl_inv hr
  obtain ⟨bx,q1,q2⟩:=hR.box _ m g1
  have:bx=⟨v,sz,ty,xs,frz,true⟩:=by
   have:=q1
   rw [xdL] at this
   simpa using this.symm
  subst this
  have hver:v=m.ver:=q2.ver
  have hn1:M (.b 1)=none:=by
   cases h1:M (.b 1) with
   | none=>rfl
   | some m1=>obtain ⟨b1,k1,_⟩:=hR.box _ m1 h1;rw [xdL] at k1;simp at k1
  have hrow:∀ n i j m1,M (.r n i j)=some m1→n=0:=fun n i j m1 h1=>by
   obtain ⟨b1,k1,_⟩:=hR.box _ m1 h1
   obtain ⟨b0,k2,_⟩:=xpJ k1
   have:=xfB k2
   simp at this;omega
  let M2:Id→Option MB:=MSet (MSet M (.b 0) ⟨m.b,v',sz,0,ty⟩) (.b 1) ⟨m.b,w,m.sz,m.cap,m.ty⟩
  have e1:M2 (.b 1)=some ⟨m.b,w,m.sz,m.cap,m.ty⟩:=by simp [M2,MSet]
  have e0:M2 (.b 0)=some ⟨m.b,v',sz,0,ty⟩:=by simp [M2,MSet]
  have eo:∀ i,i≠.b 0→i≠.b 1→M2 i=M i:=fun i h0 h1=>by simp [M2,MSet,h0,h1]
  have hext:MExt M M2:=fun i m1 h1=>by
   by_cases h0:i=.b 0
   · subst h0;rw [g1] at h1;simp only [Option.some.injEq] at h1;subst h1;exact ⟨_,e0,.inr (by simp only;omega)⟩
   · by_cases h2:i=.b 1
     · subst h2;rw [hn1] at h1;cases h1
     · exact ⟨m1,by rw [eo i h0 h2];exact h1,.inl rfl⟩
  have hsrc:∀ i m1,M2 i=some m1→0<m1.cap→i≠.b 0∧∃ i0 m0,M i0=some m0∧m0.b=m1.b∧m0.cap=m1.cap∧(i=.b 1→i0=.b 0)∧(i≠.b 1→i0=i):=fun i m1 h1 h0=>by
   by_cases hi:i=.b 0
   · subst hi;rw [e0] at h1;simp only [Option.some.injEq] at h1;subst h1;exact absurd h0 (by simp)
   · refine ⟨hi,?_⟩
     by_cases h2:i=.b 1
     · subst h2;rw [e1] at h1;simp only [Option.some.injEq] at h1;subst h1;exact ⟨.b 0,m,g1,rfl,rfl,fun _=>rfl,fun h=>absurd rfl h⟩
     · rw [eo i hi h2] at h1;exact ⟨i,m1,h1,rfl,rfl,fun h=>absurd h h2,fun _=>rfl⟩
  refine ⟨M2,⟨fun i m1 h1=>?_,fun i i' m1 m2 h1 h2 c1 c2 he=>?_,hR.lt⟩,⟨Nat.le_refl _,fun _ _ _=>rfl,fun _ _ h=>h,fun _ _ h _=>h,hext,⟨fun _ _ _=>rfl,fun i m1 h1 h0=>?_⟩⟩,?_⟩
  · by_cases hi:i=.b 0
    · subst hi
      rw [e0] at h1;simp only [Option.some.injEq] at h1;subst h1
      have hc:∀ {p:Prop},0<(0:Nat)→p:=fun h=>absurd h (by omega)
      exact ⟨⟨v',sz,ty,[],false,true⟩,rfl,rfl,rfl,xcz hpl,Nat.zero_le _,Nat.zero_le _,fun x hx=>by simp at hx,hc,hc,hc,hc⟩
    · by_cases h2:i=.b 1
      · subst h2
        rw [e1] at h1;simp only [Option.some.injEq] at h1;subst h1
        have q3:=q2.mono (w':=w1) (A':=A) (fun _=>rfl) (fun _ _ _=>rfl) (Nat.le_refl _) (fun _ _ h=>h) q2.guard hext
        refine ⟨⟨w,sz,ty,xs,frz,true⟩,rfl,rfl,q3.sz,q3.ty,q3.capm,q3.fits,q3.ok,q3.low,q3.lt,fun h0=>?_,q3.guard⟩
        obtain ⟨c,c1,c2,c3⟩:=q3.cells h0
        refine ⟨c,c1,c2,fun i j hi hj=>?_⟩
        have:=c3 i j hi hj
        rw [xaZ hpl,xcg hpl] at this
        rw [xaZ hpl,xcg (bx:=⟨w,sz,ty,xs,frz,true⟩) hpl]
        exact this
      · rw [eo i hi h2] at h1
        obtain ⟨b1,k1,k2⟩:=hR.box i m1 h1
        cases i with
        | b n =>
         rw [xdL] at k1
         have:=xfB k1
         have:n=0:=by simp at this;omega
         subst this;exact absurd rfl hi
        | r n a b =>
         have hn:=hrow n a b m1 h1
         subst hn
         rw [xet (H:=[⟨v,sz,ty,xs,frz,true⟩]) (by rfl) hpl] at k1
         simp only [Option.some.injEq] at k1
         subst k1
         exact ⟨tombB,xet (by rfl) hpl,k2.mono (fun _=>rfl) (fun _ _ _=>rfl) (Nat.le_refl _) (fun _ _ h=>h) k2.guard hext⟩
  · obtain ⟨a1,i0,n0,a2,a3,a4,a5,a6⟩:=hsrc i m1 h1 c1
    obtain ⟨b1,j0,n1,b2,b3,b4,b5,b6⟩:=hsrc i' m2 h2 c2
    have:=hR.inj i0 j0 n0 n1 a2 b2 (by omega) (by omega) (by rw [a3,b3,he])
    by_cases hi:i=.b 1
    · by_cases hj:i'=.b 1
      · rw [hi,hj]
      · rw [a5 hi,b6 hj] at this;exact absurd this.symm b1
    · by_cases hj:i'=.b 1
      · rw [a6 hi,b5 hj] at this;exact absurd this a1
      · rw [a6 hi,b6 hj] at this;exact this
  · obtain ⟨a1,i0,n0,a2,a3,a4,_,_⟩:=hsrc i m1 h1 h0
    exact .inl ⟨i0,n0,a2,by omega,a3.symm⟩
  · exact .osl u (.b 1) w 0 k ⟨m.b,w,m.sz,m.cap,m.ty⟩ e1 (Nat.le_refl _) g3 fun _=>g4 hver
end Go.Sim
end
noncomputable section
set_option maxRecDepth 100000
namespace Go.Sim.M
open Go.IntKind (i64 u64 u8)
open Go.RowKit Go.Proofs
def xcJ:Env:=E0.fn 19 1 (lsOf []) (lpsOf [])
theorem xna:OrcOk Tryz.prog (ITryz.at 1) xcJ:=xKY.fn
theorem xl6:LoOk Tryz.prog (ITryz.at xcJ.pin) xcJ (Tryz.f115.body.getD .skip):=xaq (by kernel_rfl)
def xdO {T:Type} (a:List UInt8) (δ:T) (κ:Int×Nat×LA→T):T:=br (decide ((byteAVs a).length*1≤140737488355328)&&decide ((byteAVs a).length≤4611686018427387904)) (κ ((↑a.length:Int),(byteAVs a).length,byteAVs a)) δ
def xaQ (a:List UInt8):Option (Int×Nat×LA):=xdO a none some
theorem xpl (a:List UInt8):Enc (fun (p:Int×Nat×LA)=>(((AV.tuple [AV.int .i64 p.1,.top],([⟨0,2,137,[AV.agg [AV.own 0 0 0 0,AV.osl 1 0 0 p.2.1]],false,false⟩,⟨0,1,5,p.2.2,false,true⟩]:List Box))):(AV×List Box))) (xaQ a) (XFM Tryz.prog xcJ Tryz.f115 (Tryz.f115.body.getD .skip) [AV.own (0:Id) 0 0 0,AV.str a] [{ ver:=0,sz:=2,ty:=(137:TypeId),xs:=[AV.agg [AV.nilptr,AV.nils]],frz:=false,pm:=true }]):=by
 refine eV (xdO a none (fun (p:Int×Nat×LA)=>some (((AV.tuple [AV.int .i64 p.1,.top],([⟨0,2,137,[AV.agg [AV.own 0 0 0 0,AV.osl 1 0 0 p.2.1]],false,false⟩,⟨0,1,5,p.2.2,false,true⟩]:List Box))):(AV×List Box)))) (by kernel_rfl) ?_;unfold xaQ xdO;repeat' first|exact eN|exact eS rfl|apply eB
def xja:LA→List Box→Option (Bool×AV×List Box):=omOf (sCons (sEq (pOwn 0 0 0 0)) (sCons (sEq pStr) sNil)) (pCons (pBox 0 2 (137:TypeId) false true (pCons (pAgg (pCons pNilptr (pCons pNils pNil))) pNil)) pNil) fun (_,(a,_)) (((_,(_,_)),_),_)=>((xaQ a).isSome,((AV.tuple [AV.int .i64 ((xaQ a).getD (0,0,[])).1,.top],([⟨0,2,137,[AV.agg [AV.own 0 0 0 0,AV.osl 1 0 0 ((xaQ a).getD (0,0,[])).2.1]],false,false⟩,⟨0,1,5,((xaQ a).getD (0,0,[])).2.2,false,true⟩]:List Box))))
theorem xph:OmOk Tryz.prog ITryz 115 (xja):=xfQ fun c e h g f=>by
 obtain ⟨_,⟨i,_⟩⟩:=c
 obtain ⟨⟨⟨_,⟨_,_⟩⟩,_⟩,_⟩:=e
 obtain ⟨a,b⟩:=Prod.mk.inj f
 refine xdv (p:=xcJ.pin) (xdZ mxTryz (inv0Ok Tryz.prog _) rfl xna rfl Tryz.func115 rfl (by kernel_rfl) xl6 ((xpl _ _ (xab (d:=(0,0,[])) a)).trans ?_))
 exact congrArg some b
def xLb:Env:=E0.withM 115 xja
theorem xIv:OrcOk Tryz.prog ITryz xLb:=xKY.withM xph
def xcD:Env:=xLb.fn 19 2 (lsOf []) (lpsOf [])
theorem xmt:OrcOk Tryz.prog (ITryz.at 2) xcD:=xIv.fn
theorem xlO:LoOk Tryz.prog (ITryz.at xcD.pin) xcD (Tryz.f115.body.getD .skip):=xaq (by kernel_rfl)
def xdE {T:Type} (a:List UInt8) (n:Nat) (b:LA) (δ:T) (κ:Int×Nat×LA→T):T:=br (n==b.length&&(decide ((n+(byteAVs a).length)*1≤140737488355328)&&decide (n+(byteAVs a).length≤4611686018427387904))) (κ ((↑a.length:Int),n+(byteAVs a).length,b++byteAVs a)) δ
def xaM (a:List UInt8) (n:Nat) (b:LA):Option (Int×Nat×LA):=xdE a n b none some
theorem xoK (a:List UInt8) (n:Nat) (xs:LA):Enc (fun (p:Int×Nat×LA)=>(((AV.tuple [AV.int .i64 p.1,.top],([⟨0,2,137,[AV.agg [AV.own 0 0 0 0,AV.osl 1 1 0 p.2.1]],false,false⟩,⟨1,1,5,p.2.2,false,true⟩]:List Box))):(AV×List Box))) (xaM a n xs) (XFM Tryz.prog xcD Tryz.f115 (Tryz.f115.body.getD .skip) [AV.own (0:Id) 0 0 0,AV.str a] [{ ver:=0,sz:=2,ty:=(137:TypeId),xs:=[AV.agg [AV.own (0:Id) 0 0 0,AV.osl (1:Id) 0 0 n]],frz:=false,pm:=false },{ ver:=0,sz:=1,ty:=(5:TypeId),xs:=xs,frz:=false,pm:=true }]):=by
 refine eV (xdE a n xs none (fun (p:Int×Nat×LA)=>some (((AV.tuple [AV.int .i64 p.1,.top],([⟨0,2,137,[AV.agg [AV.own 0 0 0 0,AV.osl 1 1 0 p.2.1]],false,false⟩,⟨1,1,5,p.2.2,false,true⟩]:List Box))):(AV×List Box)))) (by kernel_rfl) ?_;unfold xaM xdE;repeat' first|exact eN|exact eS rfl|apply eB
def xiY:LA→List Box→Option (Bool×AV×List Box):=omOf (sCons (sEq (pOwn 0 0 0 0)) (sCons (sEq pStr) sNil)) (pCons (pBox 0 2 (137:TypeId) false false (pCons (pAgg (pCons (pOwn 0 0 0 0) (pCons (pOsl 1 0 0) pNil))) pNil)) (pCons (pBox 0 1 (5:TypeId) false true pAny) pNil)) fun (_,(a,_)) (((_,(n,_)),_),(b,_))=>((xaM a n b).isSome,((AV.tuple [AV.int .i64 ((xaM a n b).getD (0,0,[])).1,.top],([⟨0,2,137,[AV.agg [AV.own 0 0 0 0,AV.osl 1 1 0 ((xaM a n b).getD (0,0,[])).2.1]],false,false⟩,⟨1,1,5,((xaM a n b).getD (0,0,[])).2.2,false,true⟩]:List Box))))
theorem xoH:OmOk Tryz.prog ITryz 115 (xiY):=xfQ fun c e h g f=>by
 obtain ⟨_,⟨i,_⟩⟩:=c
 obtain ⟨⟨⟨_,⟨n,_⟩⟩,_⟩,⟨j,_⟩⟩:=e
 obtain ⟨a,b⟩:=Prod.mk.inj f
 refine xdv (p:=xcD.pin) (xdZ mxTryz (inv0Ok Tryz.prog _) rfl xmt rfl Tryz.func115 rfl (by kernel_rfl) xlO ((xoK _ _ _ _ (xab (d:=(0,0,[])) a)).trans ?_))
 exact congrArg some b
def xKR:Env:=xLb.withM 115 xiY
theorem xIq:OrcOk Tryz.prog ITryz xKR:=xIv.withM xoH
def xcA:Env:=xKR.fn 19 2 (lsOf []) (lpsOf [])
theorem xmI:OrcOk Tryz.prog (ITryz.at 2) xcA:=xIq.fn
theorem xlJ:LoOk Tryz.prog (ITryz.at xcA.pin) xcA (Tryz.f115.body.getD .skip):=xaq (by kernel_rfl)
def xfJ {T:Type} (a:List UInt8) (n:Nat) (b:LA) (δ:T) (κ:Int×Nat×LA→T):T:=br (n==b.length&&(decide ((n+(byteAVs a).length)*1≤140737488355328)&&decide (n+(byteAVs a).length≤4611686018427387904))) (κ ((↑a.length:Int),n+(byteAVs a).length,b++byteAVs a)) δ
def xcc (a:List UInt8) (n:Nat) (b:LA):Option (Int×Nat×LA):=xfJ a n b none some
theorem xoT (a:List UInt8) (n:Nat) (xs:LA):Enc (fun (p:Int×Nat×LA)=>(((AV.tuple [AV.int .i64 p.1,.top],([⟨0,2,137,[AV.agg [AV.own 0 0 0 0,AV.osl 1 2 0 p.2.1]],false,false⟩,⟨2,1,5,p.2.2,false,true⟩]:List Box))):(AV×List Box))) (xcc a n xs) (XFM Tryz.prog xcA Tryz.f115 (Tryz.f115.body.getD .skip) [AV.own (0:Id) 0 0 0,AV.str a] [{ ver:=0,sz:=2,ty:=(137:TypeId),xs:=[AV.agg [AV.own (0:Id) 0 0 0,AV.osl (1:Id) 1 0 n]],frz:=false,pm:=false },{ ver:=1,sz:=1,ty:=(5:TypeId),xs:=xs,frz:=false,pm:=true }]):=by
 refine eV (xfJ a n xs none (fun (p:Int×Nat×LA)=>some (((AV.tuple [AV.int .i64 p.1,.top],([⟨0,2,137,[AV.agg [AV.own 0 0 0 0,AV.osl 1 2 0 p.2.1]],false,false⟩,⟨2,1,5,p.2.2,false,true⟩]:List Box))):(AV×List Box)))) (by kernel_rfl) ?_;unfold xcc xfJ;repeat' first|exact eN|exact eS rfl|apply eB
def xi2:LA→List Box→Option (Bool×AV×List Box):=omOf (sCons (sEq (pOwn 0 0 0 0)) (sCons (sEq pStr) sNil)) (pCons (pBox 0 2 (137:TypeId) false false (pCons (pAgg (pCons (pOwn 0 0 0 0) (pCons (pOsl 1 1 0) pNil))) pNil)) (pCons (pBox 1 1 (5:TypeId) false true pAny) pNil)) fun (_,(a,_)) (((_,(n,_)),_),(b,_))=>((xcc a n b).isSome,((AV.tuple [AV.int .i64 ((xcc a n b).getD (0,0,[])).1,.top],([⟨0,2,137,[AV.agg [AV.own 0 0 0 0,AV.osl 1 2 0 ((xcc a n b).getD (0,0,[])).2.1]],false,false⟩,⟨2,1,5,((xcc a n b).getD (0,0,[])).2.2,false,true⟩]:List Box))))
theorem xo3:OmOk Tryz.prog ITryz 115 (xi2):=xfQ fun c e h g f=>by
 obtain ⟨_,⟨i,_⟩⟩:=c
 obtain ⟨⟨⟨_,⟨n,_⟩⟩,_⟩,⟨j,_⟩⟩:=e
 obtain ⟨a,b⟩:=Prod.mk.inj f
 refine xdv (p:=xcA.pin) (xdZ mxTryz (inv0Ok Tryz.prog _) rfl xmI rfl Tryz.func115 rfl (by kernel_rfl) xlJ ((xoT _ _ _ _ (xab (d:=(0,0,[])) a)).trans ?_))
 exact congrArg some b
def xKC:Env:=xKR.withM 115 xi2
theorem xIy:OrcOk Tryz.prog ITryz xKC:=xIq.withM xo3
def xb9:Env:=xKC.fn 17 1 (lsOf []) (lpsOf [])
theorem xof:OrcOk Tryz.prog (ITryz.at 1) xb9:=xIy.fn
theorem xmk:LoOk Tryz.prog (ITryz.at xb9.pin) xb9 (Tryz.f117.body.getD .skip):=xaq (by kernel_rfl)
def xhs (c:Int):Int:=((c))
def xjd (c:Int):Bool:=true
def xkt {T:Type} (c:Int) (δ:T) (κ:Int→T):T:=κ (c)
theorem xqS (c:Int):Pre (xjd c) (XFM Tryz.prog xb9 Tryz.f117 (Tryz.f117.body.getD .skip) [AV.own (0:Id) 0 0 0,AV.int .u8 c] [{ ver:=0,sz:=2,ty:=(137:TypeId),xs:=[AV.agg [AV.nilptr,AV.nils]],frz:=false,pm:=true }]) ((.top,([⟨0,2,137,[AV.agg [AV.own 0 0 0 0,AV.osl 1 0 0 1]],false,false⟩,⟨0,1,5,[AV.int .u8 (xhs c)],false,true⟩]:List Box))):=by
 have h:XFM Tryz.prog xb9 Tryz.f117 (Tryz.f117.body.getD .skip) [AV.own (0:Id) 0 0 0,AV.int .u8 c] [{ ver:=0,sz:=2,ty:=(137:TypeId),xs:=[AV.agg [AV.nilptr,AV.nils]],frz:=false,pm:=true }]=xkt c none (fun (p:Int)=>some (((.top,([⟨0,2,137,[AV.agg [AV.own 0 0 0 0,AV.osl 1 0 0 1]],false,false⟩,⟨0,1,5,[AV.int .u8 p],false,true⟩]:List Box))):(AV×List Box))):=by kernel_rfl
 rw [h];unfold xhs xjd xkt;repeat' (first|exact Pre.none|exact Pre.tt rfl|exact Pre.some rfl|refine Pre.l ?_|refine Pre.r ?_|refine Pre.br (f:=fun (p:Int)=>(((.top,([⟨0,2,137,[AV.agg [AV.own 0 0 0 0,AV.osl 1 0 0 1]],false,false⟩,⟨0,1,5,[AV.int .u8 p],false,true⟩]:List Box))):(AV×List Box))) ?_ ?_|refine Pre.brt (f:=fun (p:Int)=>(((.top,([⟨0,2,137,[AV.agg [AV.own 0 0 0 0,AV.osl 1 0 0 1]],false,false⟩,⟨0,1,5,[AV.int .u8 p],false,true⟩]:List Box))):(AV×List Box))) ?_ ?_)
def xku:LA→List Box→Option (Bool×AV×List Box):=omOf (sCons (sEq (pOwn 0 0 0 0)) (sCons (sEq (pInt .u8)) sNil)) (pCons (pBox 0 2 (137:TypeId) false true (pCons (pAgg (pCons pNilptr (pCons pNils pNil))) pNil)) pNil) fun (_,(c,_)) (((_,(_,_)),_),_)=>(true,((.top,([⟨0,2,137,[AV.agg [AV.own 0 0 0 0,AV.osl 1 0 0 1]],false,false⟩,⟨0,1,5,[AV.int .u8 (xhs c)],false,true⟩]:List Box))))
theorem xqT:OmOk Tryz.prog ITryz 117 (xku):=xfQ fun b d h f e=>by
 obtain ⟨_,⟨c,_⟩⟩:=b
 obtain ⟨⟨⟨_,⟨_,_⟩⟩,_⟩,_⟩:=d
 obtain ⟨g,a⟩:=Prod.mk.inj e
 refine xdv (p:=xb9.pin) (xdZ mxTryz (inv0Ok Tryz.prog _) rfl xof rfl Tryz.func117 rfl (by kernel_rfl) xmk ((Pre.get (xqS _) rfl).trans ?_))
 exact congrArg some a
def xKV:Env:=xKC.withM 117 xku
theorem xHk:OrcOk Tryz.prog ITryz xKV:=xIy.withM xqT
def xcV:Env:=xKV.fn 17 2 (lsOf []) (lpsOf [])
theorem xnX:OrcOk Tryz.prog (ITryz.at 2) xcV:=xHk.fn
theorem xmh:LoOk Tryz.prog (ITryz.at xcV.pin) xcV (Tryz.f117.body.getD .skip):=xaq (by kernel_rfl)
def xf8 {T:Type} (c:Int) (n:Nat) (a:LA) (δ:T) (κ:Nat×LA→T):T:=br (n==a.length&&(decide ((n+1)*1≤140737488355328)&&decide (n+1≤4611686018427387904))) (κ (n+1,a++[AV.int .u8 c])) δ
def xbI (c:Int) (n:Nat) (a:LA):Option (Nat×LA):=xf8 c n a none some
theorem xpv (c:Int) (n:Nat) (xs:LA):Enc (fun (p:Nat×LA)=>(((.top,([⟨0,2,137,[AV.agg [AV.own 0 0 0 0,AV.osl 1 1 0 p.1]],false,false⟩,⟨1,1,5,p.2,false,true⟩]:List Box))):(AV×List Box))) (xbI c n xs) (XFM Tryz.prog xcV Tryz.f117 (Tryz.f117.body.getD .skip) [AV.own (0:Id) 0 0 0,AV.int .u8 c] [{ ver:=0,sz:=2,ty:=(137:TypeId),xs:=[AV.agg [AV.own (0:Id) 0 0 0,AV.osl (1:Id) 0 0 n]],frz:=false,pm:=false },{ ver:=0,sz:=1,ty:=(5:TypeId),xs:=xs,frz:=false,pm:=true }]):=by
 refine eV (xf8 c n xs none (fun (p:Nat×LA)=>some (((.top,([⟨0,2,137,[AV.agg [AV.own 0 0 0 0,AV.osl 1 1 0 p.1]],false,false⟩,⟨1,1,5,p.2,false,true⟩]:List Box))):(AV×List Box)))) (by kernel_rfl) ?_;unfold xbI xf8;repeat' first|exact eN|exact eS rfl|apply eB
def xkh:LA→List Box→Option (Bool×AV×List Box):=omOf (sCons (sEq (pOwn 0 0 0 0)) (sCons (sEq (pInt .u8)) sNil)) (pCons (pBox 0 2 (137:TypeId) false false (pCons (pAgg (pCons (pOwn 0 0 0 0) (pCons (pOsl 1 0 0) pNil))) pNil)) (pCons (pBox 0 1 (5:TypeId) false true pAny) pNil)) fun (_,(c,_)) (((_,(n,_)),_),(a,_))=>((xbI c n a).isSome,((.top,([⟨0,2,137,[AV.agg [AV.own 0 0 0 0,AV.osl 1 1 0 ((xbI c n a).getD (0,[])).1]],false,false⟩,⟨1,1,5,((xbI c n a).getD (0,[])).2,false,true⟩]:List Box))))
theorem xpw:OmOk Tryz.prog ITryz 117 (xkh):=xfQ fun e f i h g=>by
 obtain ⟨_,⟨c,_⟩⟩:=e
 obtain ⟨⟨⟨_,⟨n,_⟩⟩,_⟩,⟨j,_⟩⟩:=f
 obtain ⟨a,b⟩:=Prod.mk.inj g
 refine xdv (p:=xcV.pin) (xdZ mxTryz (inv0Ok Tryz.prog _) rfl xnX rfl Tryz.func117 rfl (by kernel_rfl) xmh ((xpv _ _ _ _ (xab (d:=(0,[])) a)).trans ?_))
 exact congrArg some b
def xKZ:Env:=xKV.withM 117 xkh
theorem xIz:OrcOk Tryz.prog ITryz xKZ:=xHk.withM xpw
def xcW:Env:=xKZ.fn 17 2 (lsOf []) (lpsOf [])
theorem xnV:OrcOk Tryz.prog (ITryz.at 2) xcW:=xIz.fn
theorem xmg:LoOk Tryz.prog (ITryz.at xcW.pin) xcW (Tryz.f117.body.getD .skip):=xaq (by kernel_rfl)
def xd0 {T:Type} (c:Int) (n:Nat) (a:LA) (δ:T) (κ:Nat×LA→T):T:=br (n==a.length&&(decide ((n+1)*1≤140737488355328)&&decide (n+1≤4611686018427387904))) (κ (n+1,a++[AV.int .u8 c])) δ
def xbn (c:Int) (n:Nat) (a:LA):Option (Nat×LA):=xd0 c n a none some
theorem xqf (c:Int) (n:Nat) (xs:LA):Enc (fun (p:Nat×LA)=>(((.top,([⟨0,2,137,[AV.agg [AV.own 0 0 0 0,AV.osl 1 2 0 p.1]],false,false⟩,⟨2,1,5,p.2,false,true⟩]:List Box))):(AV×List Box))) (xbn c n xs) (XFM Tryz.prog xcW Tryz.f117 (Tryz.f117.body.getD .skip) [AV.own (0:Id) 0 0 0,AV.int .u8 c] [{ ver:=0,sz:=2,ty:=(137:TypeId),xs:=[AV.agg [AV.own (0:Id) 0 0 0,AV.osl (1:Id) 1 0 n]],frz:=false,pm:=false },{ ver:=1,sz:=1,ty:=(5:TypeId),xs:=xs,frz:=false,pm:=true }]):=by
 refine eV (xd0 c n xs none (fun (p:Nat×LA)=>some (((.top,([⟨0,2,137,[AV.agg [AV.own 0 0 0 0,AV.osl 1 2 0 p.1]],false,false⟩,⟨2,1,5,p.2,false,true⟩]:List Box))):(AV×List Box)))) (by kernel_rfl) ?_;unfold xbn xd0;repeat' first|exact eN|exact eS rfl|apply eB
def xj1:LA→List Box→Option (Bool×AV×List Box):=omOf (sCons (sEq (pOwn 0 0 0 0)) (sCons (sEq (pInt .u8)) sNil)) (pCons (pBox 0 2 (137:TypeId) false false (pCons (pAgg (pCons (pOwn 0 0 0 0) (pCons (pOsl 1 1 0) pNil))) pNil)) (pCons (pBox 1 1 (5:TypeId) false true pAny) pNil)) fun (_,(c,_)) (((_,(n,_)),_),(a,_))=>((xbn c n a).isSome,((.top,([⟨0,2,137,[AV.agg [AV.own 0 0 0 0,AV.osl 1 2 0 ((xbn c n a).getD (0,[])).1]],false,false⟩,⟨2,1,5,((xbn c n a).getD (0,[])).2,false,true⟩]:List Box))))
theorem xpB:OmOk Tryz.prog ITryz 117 (xj1):=xfQ fun e f i h g=>by
 obtain ⟨_,⟨c,_⟩⟩:=e
 obtain ⟨⟨⟨_,⟨n,_⟩⟩,_⟩,⟨j,_⟩⟩:=f
 obtain ⟨a,b⟩:=Prod.mk.inj g
 refine xdv (p:=xcW.pin) (xdZ mxTryz (inv0Ok Tryz.prog _) rfl xnV rfl Tryz.func117 rfl (by kernel_rfl) xmg ((xqf _ _ _ _ (xab (d:=(0,[])) a)).trans ?_))
 exact congrArg some b
def xOJ:Env:=xKZ.withM 117 xj1
theorem xOg:OrcOk Tryz.prog ITryz xOJ:=xIz.withM xpB
abbrev EK1:Env:=xOJ
theorem xLK:OrcOk Tryz.prog ITryz EK1:=xOg
end Go.Sim.M
end
noncomputable section
set_option maxRecDepth 100000
namespace Go.Sim.M
open Go.IntKind (i64 u64 u8)
open Go.RowKit Go.Proofs
def xhM:Env:=EK1.fn 18 0 (lsOf []) (lpsOf [])
theorem xAg:OrcOk Tryz.prog (ITryz.at 0) xhM:=xLK.fn
theorem xwZ:LoOk Tryz.prog (ITryz.at xhM.pin) xhM (Tryz.f52.body.getD .skip):=xaq (by kernel_rfl)
def xdm (a b:Int):Bool:=(br (decide (a≥0)) (br (decide (a<b)) ((decide (b≤1099511627776))) ((false))) ((false)))
def xtp (a b:Int):Bool:=true
def xvz {T:Type} (a b:Int) (δ:T) (κ:Bool→T):T:=br (decide (a≥0)) (br (decide (a<b)) (κ (decide (b≤1099511627776))) (κ (false))) (κ (false))
theorem xE7 (a b:Int):Pre (xtp a b) (XF Tryz.prog xhM Tryz.f52 (Tryz.f52.body.getD .skip) [AV.agg [AV.int .i64 a,AV.int .i64 b]]) (AV.bool (xdm a b)):=by
 have h:XF Tryz.prog xhM Tryz.f52 (Tryz.f52.body.getD .skip) [AV.agg [AV.int .i64 a,AV.int .i64 b]]=xvz a b none (fun (p:Bool)=>some ((AV.bool p):AV)):=by kernel_rfl
 rw [h];unfold xdm xtp xvz;repeat' (first|exact Pre.none|exact Pre.tt rfl|exact Pre.some rfl|refine Pre.l ?_|refine Pre.r ?_|refine Pre.br (f:=fun (p:Bool)=>((AV.bool p):AV)) ?_ ?_|refine Pre.brt (f:=fun (p:Bool)=>((AV.bool p):AV)) ?_ ?_)
def xvy:LA→Option (Bool×AV):=ocOf (sCons (sAgg (sCons (sEq (pInt .i64)) (sCons (sEq (pInt .i64)) sNil))) sNil) fun ((a,(b,_)),_)=>(true,(AV.bool (xdm a b)))
theorem xE1:OcOk Tryz.prog ITryz 52 (xvy):=xaN fun b g c=>by
 obtain ⟨⟨d,⟨e,_⟩⟩,_⟩:=b
 obtain ⟨f,a⟩:=Prod.mk.inj c
 refine xaH (p:=xhM.pin) (xaL mxTryz (inv0Ok Tryz.prog _) rfl xAg Tryz.func52 rfl (by kernel_rfl) xwZ ((Pre.get (xE7 _ _) rfl).trans ?_))
 exact congrArg some a
def xDm:Env:=EK1.with 52 xvy
theorem xwV:OrcOk Tryz.prog ITryz xDm:=xLK.with xE1
def xh6:Env:=xDm.fn 37 0 (lsOf []) (lpsOf [])
theorem xzl:OrcOk Tryz.prog (ITryz.at 0) xh6:=xwV.fn
theorem xu3:LoOk Tryz.prog (ITryz.at xh6.pin) xh6 (loopAt Tryz.f91 1):=xaq (by kernel_rfl)
def xhz (b:Int) (a:LA):=((a.getD (0+b.toNat) .top).cells.getD 0 .top).toInt
def xmU (d:Int) (c:Nat) (b a:LA):=((xaM (Lib.itoa (xhz d b)) c a).getD (0,0,[])).snd
def xmM (d:Int) (c:Nat) (b a:LA):=xbn 32 (xmU d c b a).fst (xmU d c b a).snd
def xm0 (d:Int) (c:Nat) (b a:LA):=(xmM d c b a).getD (0,[])
def xid {T:Type} (k:LA) (l j:Int) (e:Nat) (i c:Int) (d:Nat) (f g:Int) (h:List UInt8) (a b:LA) (δ:T) (κl:(Int×Nat×Int×Int×List UInt8×LA×LA)→T) (κr:(Nat×Int×Int×List UInt8×LA)→T):T:=br (decide (c<i)) (br (decide (0≤c)&&decide (c<(↑e:Int))) (br (decide (0+c.toNat<a.length)&&hasSh1 (Sh.int .i64) ((a.getD (0+c.toNat) .top).cells.getD 0 .top)) (br (decide ((-9223372036854775808)≤xhz c a)&&decide (xhz c a≤9223372036854775807)) (br ((xaM (Lib.itoa (xhz c a)) d b).isSome) (br ((xmM c d a b).isSome) (κl (i64.wrap (c+1),(xm0 c d a b).fst,f,g,h,a,(xm0 c d a b).snd)) δ) δ) δ) δ) δ) (κr (d,f,g,h,b))
def xbg (k:LA) (l e:Int) (c:Nat) (f:Int):(Int×Nat×Int×Int×List UInt8×LA×LA)→Option ((Int×Nat×Int×Int×List UInt8×LA×LA)⊕(Nat×Int×Int×List UInt8×LA)):=fun (g,d,h,i,j,b,a)=>xid k l e c f g d h i j b a none (fun s=>some (.inl s)) (fun p=>some (.inr p))
def xgA (k:LA) (l e:Int) (c:Nat) (f:Int):(Int×Nat×Int×Int×List UInt8×LA×LA)→LA×List Box:=fun (g,d,h,i,j,b,a)=>([AV.own 0 0 0 0,AV.own 1 0 0 0,AV.list 3 k,AV.int .i64 l,AV.int .i64 e,AV.osl 2 0 0 c,AV.int .i64 f,AV.int .i64 g],[⟨0,2,137,[AV.agg [AV.own 0 0 0 0,AV.osl 3 0 0 d]],false,false⟩,⟨0,3,73,[AV.agg [AV.int .i64 h,AV.int .i64 i,AV.str j]],false,true⟩,⟨0,1,3,b,false,true⟩,⟨0,1,5,a,false,true⟩])
def xe5 (c:LA) (d a:Int) (b:Nat) (e:Int):(Nat×Int×Int×List UInt8×LA)→LR:=fun p=>(.leaf (.exit 2) [AV.own 0 0 0 0,AV.own 1 0 0 0,AV.list 3 c,AV.int .i64 d,AV.int .i64 a] [⟨0,2,137,[AV.agg [AV.own 0 0 0 0,AV.osl 2 0 0 p.1]],false,false⟩,⟨0,3,73,[AV.agg [AV.int .i64 p.2.1,AV.int .i64 p.2.2.1,AV.str p.2.2.2.1]],false,true⟩,⟨0,1,5,p.2.2.2.2,false,true⟩])
abbrev xBu (a:LA) (H:List Box):=XR Tryz.prog xh6 [3,5,8,9,10,21,22,23] [3,5,8,9,10] [] (loopAt Tryz.f91 1) a H
theorem xBg (d:LA) (e b:Int) (a:Nat) (c:Int) (s:Int×Nat×Int×Int×List UInt8×LA×LA):Enc (encR (xgA d e b a c) (xe5 d e b a c)) (xbg d e b a c s) (xBu (xgA d e b a c s).1 (xgA d e b a c s).2):=by
 obtain ⟨i,h,j,k,l,g,f⟩:=s
 refine eV (xid d e b a c i h j k l g f none (fun s=>some (encR (xgA d e b a c) (xe5 d e b a c) (.inl s))) (fun p=>some (encR (xgA d e b a c) (xe5 d e b a c) (.inr p)))) (by kernel_rfl) ?_;unfold xbg xid;repeat' first|exact eN|exact eS rfl|apply eB
def xm1:Lp:=lpOf [3,5,8,9,10,21,22,23] [3,5,8,9,10] [] (pCons (pOwn 0 0 0 0) (pCons (pOwn 1 0 0 0) (pCons (pList 3 pAny) (pCons (pInt .i64) (pCons (pInt .i64) (pCons (pOsl 2 0 0) (pCons (pInt .i64) (pCons (pInt .i64) pNil)))))))) (pCons (pBox 0 2 137 false false (pCons (pAgg (pCons (pOwn 0 0 0 0) (pCons (pOsl 3 0 0) pNil))) pNil)) (pCons (pBox 0 3 73 false true (pCons (pAgg (pCons (pInt .i64) (pCons (pInt .i64) (pCons pStr pNil)))) pNil)) (pCons (pBox 0 1 3 false true pAny) (pCons (pBox 0 1 5 false true pAny) pNil)))) fun (_,(_,(k,(l,(d,(b,(e,(g,_)))))))) (((_,(f,_)),_),(((h,(i,(j,_))),_),(c,(a,_))))=>((Iter (xbg k l d b e) (g,f,h,i,j,c,a)).isSome,xe5 k l d b e ((Iter (xbg k l d b e) (g,f,h,i,j,c,a)).getD (0,0,0,[],[])))
theorem xqW:LoopOk Tryz.prog (ITryz.at xh6.pin) xh6.nt (loopAt Tryz.f91 1) xm1:=xaY fun n o r q=>by
 obtain ⟨_,⟨_,⟨f,⟨g,⟨c,⟨a,⟨d,⟨i,_⟩⟩⟩⟩⟩⟩⟩⟩:=n
 obtain ⟨⟨⟨_,⟨h,_⟩⟩,_⟩,⟨⟨⟨j,⟨k,⟨l,_⟩⟩⟩,_⟩,⟨e,⟨b,_⟩⟩⟩⟩:=o
 obtain ⟨m,rfl⟩:=Prod.mk.inj q
 exact xaG mxTryz (inv0Ok Tryz.prog _) rfl xzl xu3 (xgA f g c a d) (xe5 f g c a d) (fun p=>by simp only [xe5,LR.eval];first|(simp;done)|(repeat' split<;>simp)) (xBg f g c a d) (s:=(i,h,j,k,l,e,b)) (xab m)
def xhC:Env:=xDm.fn 37 0 (lsOf []) (lpsOf [(6,xm1)])
theorem xzp:OrcOk Tryz.prog (ITryz.at 0) xhC:=xwV.fn
theorem xvo:LoOk Tryz.prog (ITryz.at xhC.pin) xhC (loopAt Tryz.f91 0):=xaP (ls:=[loopAt Tryz.f91 1]) (by kernel_rfl) (lkC xqW lkN)
def xmE (b:LA) (e a:Int) (d:Nat) (c:LA):=Iter (xbg b e a 3 3) (0,d,((b.getD a.toNat .top).cells.getD 0 .top).toInt,((b.getD a.toNat .top).cells.getD 1 .top).toInt,((b.getD a.toNat .top).cells.getD 2 .top).toStr,[AV.int .i64 ((b.getD a.toNat .top).cells.getD 0 .top).toInt,AV.int .i64 ((b.getD a.toNat .top).cells.getD 1 .top).toInt,AV.int .i64 (↑((b.getD a.toNat .top).cells.getD 2 .top).toStr.length:Int)],c)
def xm7 (d:LA) (e c:Int) (b:Nat) (a:LA):=(xmE d e c b a).getD (0,0,0,[],[])
def xmY (d:LA) (e c:Int) (b:Nat) (a:LA):=(xm7 d e c b a).snd.snd.snd
def xmo (d:LA) (e c:Int) (b:Nat) (a:LA):=xaM (xmY d e c b a).fst (xm7 d e c b a).fst (xmY d e c b a).snd
def xmA (d:LA) (e c:Int) (b:Nat) (a:LA):=((xmo d e c b a).getD (0,0,[])).snd
def xia {T:Type} (d:LA) (e b:Int) (c:Nat) (a:LA) (δ:T) (κl:(Int×Nat×LA)→T) (κr:(Nat×LA)→T):T:=br (decide (b<e)) (br (decide (0≤b)&&decide (b<d.length)) (br (decide (b.toNat<d.length)&&((d.getD b.toNat .top).cells.length==3&&hasShs [Sh.int .i64,Sh.int .i64,Sh.str] (d.getD b.toNat .top).cells 0)) (br ((xmE d e b c a).isSome) (br ((xmo d e b c a).isSome) (κl (i64.wrap (b+1),(xmA d e b c a).fst,(xmA d e b c a).snd)) δ) δ) δ) δ) (κr (c,a))
def xct (d:LA) (e:Int):(Int×Nat×LA)→Option ((Int×Nat×LA)⊕(Nat×LA)):=fun (c,b,a)=>xia d e c b a none (fun s=>some (.inl s)) (fun p=>some (.inr p))
def xgs (d:LA) (e:Int):(Int×Nat×LA)→LA×List Box:=fun (c,b,a)=>([AV.own 0 0 0 0,AV.list 3 d,AV.int .i64 e,AV.int .i64 c],[⟨0,2,137,[AV.agg [AV.own 0 0 0 0,AV.osl 1 0 0 b]],false,false⟩,⟨0,1,5,a,false,true⟩])
def xe6 (a:LA) (b:Int):(Nat×LA)→LR:=fun p=>(.leaf (.exit 0) [AV.own 0 0 0 0] [⟨0,2,137,[AV.agg [AV.own 0 0 0 0,AV.osl 1 0 0 p.1]],false,false⟩,⟨0,1,5,p.2,false,true⟩])
abbrev xBn (a:LA) (H:List Box):=XR Tryz.prog xhC [3,8,9,10] [3] [] (loopAt Tryz.f91 0) a H
theorem xAZ (a:LA) (b:Int) (s:Int×Nat×LA):Enc (encR (xgs a b) (xe6 a b)) (xct a b s) (xBn (xgs a b s).1 (xgs a b s).2):=by
 obtain ⟨e,d,c⟩:=s
 refine eV (xia a b e d c none (fun s=>some (encR (xgs a b) (xe6 a b) (.inl s))) (fun p=>some (encR (xgs a b) (xe6 a b) (.inr p)))) (by kernel_rfl) ?_;unfold xct xia;repeat' first|exact eN|exact eS rfl|apply eB
def xrx:Lp:=lpOf [3,8,9,10] [3] [] (pCons (pOwn 0 0 0 0) (pCons (pList 3 pAny) (pCons (pInt .i64) (pCons (pInt .i64) pNil)))) (pCons (pBox 0 2 137 false false (pCons (pAgg (pCons (pOwn 0 0 0 0) (pCons (pOsl 1 0 0) pNil))) pNil)) (pCons (pBox 0 1 5 false true pAny) pNil)) fun (_,(d,(e,(c,_)))) (((_,(b,_)),_),(a,_))=>((Iter (xct d e) (c,b,a)).isSome,xe6 d e ((Iter (xct d e) (c,b,a)).getD (0,[])))
theorem xyz:LoopOk Tryz.prog (ITryz.at xhC.pin) xhC.nt (loopAt Tryz.f91 0) xrx:=xaY fun g h j i=>by
 obtain ⟨_,⟨b,⟨c,⟨e,_⟩⟩⟩⟩:=g
 obtain ⟨⟨⟨_,⟨d,_⟩⟩,_⟩,⟨a,_⟩⟩:=h
 obtain ⟨f,rfl⟩:=Prod.mk.inj i
 exact xaG mxTryz (inv0Ok Tryz.prog _) rfl xzp xvo (xgs b c) (xe6 b c) (fun p=>by simp only [xe6,LR.eval];first|(simp;done)|(repeat' split<;>simp)) (xAZ b c) (s:=(e,d,a)) (xab f)
def xjI:Env:=xDm.fn 37 0 (lsOf []) (lpsOf [(6,xm1),(3,xrx)])
theorem xAj:OrcOk Tryz.prog (ITryz.at 0) xjI:=xwV.fn
theorem xwt:LoOk Tryz.prog (ITryz.at xjI.pin) xjI (Tryz.f91.body.getD .skip):=xaP (ls:=[loopAt Tryz.f91 0,loopAt Tryz.f91 1]) (by kernel_rfl) (lkC xyz (lkC xqW lkN))
def xer (a:LA):=((a.getD 0 .top).cells.getD 0 .top).toInt
def xqc (a:LA):=xbI 32 ((xaQ (Lib.itoa (xer a))).getD (0,0,[])).snd.fst ((xaQ (Lib.itoa (xer a))).getD (0,0,[])).snd.snd
def xpN (a:LA):=(xqc a).getD (0,[])
def xp3 (a:LA):=Iter (xbg a (↑a.length:Int) 0 3 3) (1,(xpN a).fst,xer a,((a.getD 0 .top).cells.getD 1 .top).toInt,((a.getD 0 .top).cells.getD 2 .top).toStr,[AV.int .i64 (xer a),AV.int .i64 ((a.getD 0 .top).cells.getD 1 .top).toInt,AV.int .i64 (↑((a.getD 0 .top).cells.getD 2 .top).toStr.length:Int)],(xpN a).snd)
def xqA (a:LA):=(xp3 a).getD (0,0,0,[],[])
def xpz (a:LA):=(xqA a).snd.snd.snd
def xp9 (a:LA):=xaM (xpz a).fst (xqA a).fst (xpz a).snd
def xpH (a:LA):=((xp9 a).getD (0,0,[])).snd
def xqm (a:LA):=Iter (xct a (↑a.length:Int)) (1,(xpH a).fst,(xpH a).snd)
def xpt (a:LA):=(xqm a).getD (0,[])
def xjW (a:LA):=(xpt a).snd
def xny {T:Type} (a:LA) (δ:T) (κ:List UInt8→T):T:=br (decide (0<(↑a.length:Int))) (br (decide (0<(↑a.length:Int))) (br (decide (0<a.length)&&((a.getD 0 .top).cells.length==3&&hasShs [Sh.int .i64,Sh.int .i64,Sh.str] (a.getD 0 .top).cells 0)) (br (decide ((-9223372036854775808)≤xer a)&&decide (xer a≤9223372036854775807)) (br ((xaQ (Lib.itoa (xer a))).isSome) (br ((xqc a).isSome) (br ((xp3 a).isSome) (br ((xp9 a).isSome) (br ((xqm a).isSome) (br (decide ((xpt a).fst=(xjW a).length)&&isBytes (xjW a)&&decide ((xjW a).length≠0)) (κ (strOf (xjW a))) δ) δ) δ) δ) δ) δ) δ) δ) δ) (κ ([]))
def xf1 (a:LA):Option (List UInt8):=xny a none some
theorem xFb (a:LA):Enc (fun (p:List UInt8)=>((AV.str p):AV)) (xf1 a) (XF Tryz.prog xjI Tryz.f91 (Tryz.f91.body.getD .skip) [AV.list 3 a]):=by
 refine eV (xny a none (fun (p:List UInt8)=>some ((AV.str p):AV))) (by kernel_rfl) ?_;unfold xf1 xny;repeat' first|exact eN|exact eS rfl|apply eB
def xwb:LA→Option (Bool×AV):=ocOf (sCons (sList 3 pAny) sNil) fun (a,_)=>((xf1 a).isSome,(AV.str ((xf1 a).getD [])))
theorem xFk:OcOk Tryz.prog ITryz 91 (xwb):=xaN fun c g e=>by
 obtain ⟨f,_⟩:=c
 obtain ⟨a,b⟩:=Prod.mk.inj e
 refine xaH (p:=xjI.pin) (xaL mxTryz (inv0Ok Tryz.prog _) rfl xAj Tryz.func91 rfl (by kernel_rfl) xwt ((xFb _ _ (xab (d:=[]) a)).trans ?_))
 exact congrArg some b
def xOV:Env:=xDm.with 91 xwb
theorem xNV:OrcOk Tryz.prog ITryz xOV:=xwV.with xFk
abbrev EK2:Env:=xOV
theorem xMJ:OrcOk Tryz.prog ITryz EK2:=xNV
end Go.Sim.M
end
noncomputable section
set_option maxRecDepth 100000
namespace Go.Sim.M
open Go.IntKind (i64 u64 u8)
open Go.RowKit Go.Proofs
def xkZ:Env:=EK2.fn 6 0 (lsOf []) (lpsOf [])
theorem xDi:OrcOk Tryz.prog (ITryz.at 0) xkZ:=xMJ.fn
theorem xBy:LoOk Tryz.prog (ITryz.at xkZ.pin) xkZ (Tryz.f84.body.getD .skip):=xaq (by kernel_rfl)
def xiD (x:Int):Bool:=((x != x))
def xyf (x:Int):Bool:=true
def xB1 {T:Type} (x:Int) (δ:T) (κ:Bool→T):T:=κ (x != x)
theorem xIx (x:Int):Pre (xyf x) (XF Tryz.prog xkZ Tryz.f84 (Tryz.f84.body.getD .skip) [AV.int .i64 x]) (AV.bool (xiD x)):=by
 have h:XF Tryz.prog xkZ Tryz.f84 (Tryz.f84.body.getD .skip) [AV.int .i64 x]=xB1 x none (fun (p:Bool)=>some ((AV.bool p):AV)):=by kernel_rfl
 rw [h];unfold xiD xyf xB1;repeat' (first|exact Pre.none|exact Pre.tt rfl|exact Pre.some rfl|refine Pre.l ?_|refine Pre.r ?_|refine Pre.br (f:=fun (p:Bool)=>((AV.bool p):AV)) ?_ ?_|refine Pre.brt (f:=fun (p:Bool)=>((AV.bool p):AV)) ?_ ?_)
def xBW:LA→Option (Bool×AV):=ocOf (sCons (sEq (pInt .i64)) sNil) fun (x,_)=>(true,(AV.bool (xiD x)))
theorem xI6:OcOk Tryz.prog ITryz 84 (xBW):=xaN fun b e c=>by
 obtain ⟨x,_⟩:=b
 obtain ⟨d,a⟩:=Prod.mk.inj c
 refine xaH (p:=xkZ.pin) (xaL mxTryz (inv0Ok Tryz.prog _) rfl xDi Tryz.func84 rfl (by kernel_rfl) xBy ((Pre.get (xIx _) rfl).trans ?_))
 exact congrArg some a
def xK9:Env:=EK2.with 84 xBW
theorem xH6:OrcOk Tryz.prog ITryz xK9:=xMJ.with xI6
def xiI:Env:=xK9.fn 20 0 (lsOf []) (lpsOf [])
theorem xA1:OrcOk Tryz.prog (ITryz.at 0) xiI:=xH6.fn
theorem xyU:LoOk Tryz.prog (ITryz.at xiI.pin) xiI (Tryz.f54.body.getD .skip):=xaq (by kernel_rfl)
def xhn (x y:Int):Int:=(br (xiD x) (br (xiD y) ((0)) (((-1)))) (br (xiD y) ((1)) (br (decide (x<y)) (((-1))) (br (decide (x>y)) ((1)) ((0))))))
def xui (x y:Int):Bool:=true
def xyp {T:Type} (x y:Int) (δ:T) (κ:Int→T):T:=br (xiD x) (br (xiD y) (κ (0)) (κ ((-1)))) (br (xiD y) (κ (1)) (br (decide (x<y)) (κ ((-1))) (br (decide (x>y)) (κ (1)) (κ (0)))))
theorem xGI (x y:Int):Pre (xui x y) (XF Tryz.prog xiI Tryz.f54 (Tryz.f54.body.getD .skip) [AV.int .i64 x,AV.int .i64 y]) (AV.int .i64 (xhn x y)):=by
 have h:XF Tryz.prog xiI Tryz.f54 (Tryz.f54.body.getD .skip) [AV.int .i64 x,AV.int .i64 y]=xyp x y none (fun (p:Int)=>some ((AV.int .i64 p):AV)):=by kernel_rfl
 rw [h];unfold xhn xui xyp;repeat' (first|exact Pre.none|exact Pre.tt rfl|exact Pre.some rfl|refine Pre.l ?_|refine Pre.r ?_|refine Pre.br (f:=fun (p:Int)=>((AV.int .i64 p):AV)) ?_ ?_|refine Pre.brt (f:=fun (p:Int)=>((AV.int .i64 p):AV)) ?_ ?_)
def xym:LA→Option (Bool×AV):=ocOf (sCons (sEq (pInt .i64)) (sCons (sEq (pInt .i64)) sNil)) fun (x,(y,_))=>(true,(AV.int .i64 (xhn x y)))
theorem xGE:OcOk Tryz.prog ITryz 54 (xym):=xaN fun b e c=>by
 obtain ⟨x,⟨y,_⟩⟩:=b
 obtain ⟨d,a⟩:=Prod.mk.inj c
 refine xaH (p:=xiI.pin) (xaL mxTryz (inv0Ok Tryz.prog _) rfl xA1 Tryz.func54 rfl (by kernel_rfl) xyU ((Pre.get (xGI _ _) rfl).trans ?_))
 exact congrArg some a
def xKs:Env:=xK9.with 54 xym
theorem xHl:OrcOk Tryz.prog ITryz xKs:=xH6.with xGE
def xmJ:Env:=xKs.fn 18 0 (lsOf []) (lpsOf [])
theorem xIP:OrcOk Tryz.prog (ITryz.at 0) xmJ:=xHl.fn
theorem xEZ:LoOk Tryz.prog (ITryz.at xmJ.pin) xmJ (Tryz.f71.body.getD .skip):=xaP (ls:=[loopAt Tryz.f71 0]) (by kernel_rfl) (fun l a lp b=>by
 simp only [List.mem_cons,List.not_mem_nil,or_false] at a
 rcases a with rfl
 · rw [show xmJ.lp (codeId (loopAt Tryz.f71 0))=none by kernel_rfl] at b
   simp at b)
def xtf (a b c:Int):Int:=(br (a != 0) ((a)) (br (b != 0) ((b)) (br (c != 0) ((c)) ((0)))))
def xDK (a b c:Int):Bool:=true
def xIl {T:Type} (a b c:Int) (δ:T) (κ:Int→T):T:=br (a != 0) (κ (a)) (br (b != 0) (κ (b)) (br (c != 0) (κ (c)) (κ (0))))
theorem xOs (a b c:Int):Pre (xDK a b c) (XF Tryz.prog xmJ Tryz.f71 (Tryz.f71.body.getD .skip) [AV.list 1 [AV.int .i64 a,AV.int .i64 b,AV.int .i64 c]]) (AV.int .i64 (xtf a b c)):=by
 have h:XF Tryz.prog xmJ Tryz.f71 (Tryz.f71.body.getD .skip) [AV.list 1 [AV.int .i64 a,AV.int .i64 b,AV.int .i64 c]]=xIl a b c none (fun (p:Int)=>some ((AV.int .i64 p):AV)):=by kernel_rfl
 rw [h];unfold xtf xDK xIl;repeat' (first|exact Pre.none|exact Pre.tt rfl|exact Pre.some rfl|refine Pre.l ?_|refine Pre.r ?_|refine Pre.br (f:=fun (p:Int)=>((AV.int .i64 p):AV)) ?_ ?_|refine Pre.brt (f:=fun (p:Int)=>((AV.int .i64 p):AV)) ?_ ?_)
def xHC:LA→Option (Bool×AV):=ocOf (sCons (sList 1 (pCons (pInt .i64) (pCons (pInt .i64) (pCons (pInt .i64) pNil)))) sNil) fun ((a,(b,(c,_))),_)=>(true,(AV.int .i64 (xtf a b c)))
theorem xNK:OcOk Tryz.prog ITryz 71 (xHC):=xaN fun e h f=>by
 obtain ⟨⟨a,⟨b,⟨c,_⟩⟩⟩,_⟩:=e
 obtain ⟨g,d⟩:=Prod.mk.inj f
 refine xaH (p:=xmJ.pin) (xaL mxTryz (inv0Ok Tryz.prog _) rfl xIP Tryz.func71 rfl (by kernel_rfl) xEZ ((Pre.get (xOs _ _ _) rfl).trans ?_))
 exact congrArg some d
def xKq:Env:=xKs.with 71 xHC
theorem xHz:OrcOk Tryz.prog ITryz xKq:=xHl.with xNK
def xhf:Env:=xKq.fn 22 0 (lsOf []) (lpsOf [])
theorem xyN:OrcOk Tryz.prog (ITryz.at 0) xhf:=xHz.fn
theorem xuV:LoOk Tryz.prog (ITryz.at xhf.pin) xhf (Tryz.f114.body.getD .skip):=xaq (by kernel_rfl)
def xbM (a b:Int) (c:List UInt8) (d e:Int) (f:List UInt8):Int:=((xtf (xhn a d) (xhn b e) (Lib.compareBytes c f)))
def xsA (a b:Int) (c:List UInt8) (d e:Int) (f:List UInt8):Bool:=true
def xuy {T:Type} (a b:Int) (c:List UInt8) (d e:Int) (f:List UInt8) (δ:T) (κ:Int→T):T:=κ (xtf (xhn a d) (xhn b e) (Lib.compareBytes c f))
theorem xD3 (a b:Int) (c:List UInt8) (d e:Int) (g:List UInt8):Pre (xsA a b c d e g) (XF Tryz.prog xhf Tryz.f114 (Tryz.f114.body.getD .skip) [AV.agg [AV.int .i64 a,AV.int .i64 b,AV.str c],AV.agg [AV.int .i64 d,AV.int .i64 e,AV.str g]]) (AV.int .i64 (xbM a b c d e g)):=by
 have h:XF Tryz.prog xhf Tryz.f114 (Tryz.f114.body.getD .skip) [AV.agg [AV.int .i64 a,AV.int .i64 b,AV.str c],AV.agg [AV.int .i64 d,AV.int .i64 e,AV.str g]]=xuy a b c d e g none (fun (p:Int)=>some ((AV.int .i64 p):AV)):=by kernel_rfl
 rw [h];unfold xbM xsA xuy;repeat' (first|exact Pre.none|exact Pre.tt rfl|exact Pre.some rfl|refine Pre.l ?_|refine Pre.r ?_|refine Pre.br (f:=fun (p:Int)=>((AV.int .i64 p):AV)) ?_ ?_|refine Pre.brt (f:=fun (p:Int)=>((AV.int .i64 p):AV)) ?_ ?_)
def xup:LA→Option (Bool×AV):=ocOf (sCons (sAgg (sCons (sEq (pInt .i64)) (sCons (sEq (pInt .i64)) (sCons (sEq pStr) sNil)))) (sCons (sAgg (sCons (sEq (pInt .i64)) (sCons (sEq (pInt .i64)) (sCons (sEq pStr) sNil)))) sNil)) fun ((a,(b,(c,_))),((d,(e,(f,_))),_))=>(true,(AV.int .i64 (xbM a b c d e f)))
theorem xEt:OcOk Tryz.prog ITryz 114 (xup):=xaN fun b k c=>by
 obtain ⟨⟨d,⟨e,⟨f,_⟩⟩⟩,⟨⟨g,⟨h,⟨i,_⟩⟩⟩,_⟩⟩:=b
 obtain ⟨j,a⟩:=Prod.mk.inj c
 refine xaH (p:=xhf.pin) (xaL mxTryz (inv0Ok Tryz.prog _) rfl xyN Tryz.func114 rfl (by kernel_rfl) xuV ((Pre.get (xD3 _ _ _ _ _ _) rfl).trans ?_))
 exact congrArg some a
def xHg:Env:=xKq.with 114 xup
theorem xCI:OrcOk Tryz.prog ITryz xHg:=xHz.with xEt
def xec:Env:=xHg.fn 39 0 (lsOf []) (lpsOf [])
theorem xtg:OrcOk Tryz.prog (ITryz.at 0) xec:=xCI.fn
theorem xqE:LoOk Tryz.prog (ITryz.at xec.pin) xec (loopAt Tryz.f113 0):=xaq (by kernel_rfl)
def xdn (c b:LA) (a:Int):=xbM ((b.getD a.toNat .top).cells.getD 0 .top).toInt ((b.getD a.toNat .top).cells.getD 1 .top).toInt ((b.getD a.toNat .top).cells.getD 2 .top).toStr ((c.getD a.toNat .top).cells.getD 0 .top).toInt ((c.getD a.toNat .top).cells.getD 1 .top).toInt ((c.getD a.toNat .top).cells.getD 2 .top).toStr
def xcY {T:Type} (e c b:LA) (d a:Int) (δ:T) (κl:(Int)→T) (κr:(Bool×(Int)×(Unit))→T):T:=br (decide (a<d)) (br (decide (0≤a)&&decide (a<b.length)) (br (decide (a.toNat<b.length)&&((b.getD a.toNat .top).cells.length==3&&hasShs [Sh.int .i64,Sh.int .i64,Sh.str] (b.getD a.toNat .top).cells 0)) (br (decide (a≥c.length)) (κr (true,(1),())) (br (decide (0≤a)&&decide (a<c.length)) (br (decide (a.toNat<c.length)&&((c.getD a.toNat .top).cells.length==3&&hasShs [Sh.int .i64,Sh.int .i64,Sh.str] (c.getD a.toNat .top).cells 0)) (br (xdn c b a != 0) (κr (true,(xdn c b a),())) (κl (i64.wrap (a+1)))) δ) δ)) δ) δ) (κr (false,0,()))
def xaR (d e a:LA) (b:Int):(Int)→Option ((Int)⊕(Bool×(Int)×(Unit))):=fun (c)=>xcY d e a b c none (fun s=>some (.inl s)) (fun p=>some (.inr p))
def xdw (d e a:LA) (b:Int):(Int)→LA×List Box:=fun (c)=>([AV.list 3 d,AV.list 3 e,AV.func 114 [],AV.list 3 a,AV.int .i64 b,AV.int .i64 c],[])
def xdc (a b c:LA) (d:Int):(Bool×(Int)×(Unit))→LR:=fun p=>(.node p.1 (.leaf .ret [AV.list 3 a,AV.list 3 b,AV.int .i64 p.2.1] []) (.leaf (.exit 0) [AV.list 3 a,AV.list 3 b,.top] []))
abbrev xt2 (a:LA) (H:List Box):=XR Tryz.prog xec [0,1,2,11,12,13] [0,1,6] [] (loopAt Tryz.f113 0) a H
theorem xtS (c d a:LA) (b e:Int):Enc (encR (xdw c d a b) (xdc c d a b)) (xaR c d a b e) (xt2 (xdw c d a b e).1 (xdw c d a b e).2):=by
 refine eV (xcY c d a b e none (fun s=>some (encR (xdw c d a b) (xdc c d a b) (.inl s))) (fun p=>some (encR (xdw c d a b) (xdc c d a b) (.inr p)))) (by kernel_rfl) ?_;unfold xaR xcY;repeat' first|exact eN|exact eS rfl|apply eB
def xmp:Lp:=lpOf [0,1,2,11,12,13] [0,1,6] [] (pCons (pList 3 pAny) (pCons (pList 3 pAny) (pCons (pFunc 114 pNil) (pCons (pList 3 pAny) (pCons (pInt .i64) (pCons (pInt .i64) pNil)))))) pNil fun (d,(e,(_,(a,(b,(c,_)))))) _=>((Iter (xaR d e a b) (c)).isSome,xdc d e a b ((Iter (xaR d e a b) (c)).getD (false,0,())))
theorem xsT:LoopOk Tryz.prog (ITryz.at xec.pin) xec.nt (loopAt Tryz.f113 0) xmp:=xaY fun g i j h=>by
 obtain ⟨c,⟨d,⟨_,⟨a,⟨b,⟨e,_⟩⟩⟩⟩⟩⟩:=g
 obtain ⟨f,rfl⟩:=Prod.mk.inj h
 exact xaG mxTryz (inv0Ok Tryz.prog _) rfl xtg xqE (xdw c d a b) (xdc c d a b) (fun p=>by simp only [xdc,LR.eval];first|(simp;done)|(repeat' split<;>simp)) (xtS c d a b) (s:=(e)) (xab f)
def xfS:Env:=xHg.fn 39 0 (lsOf []) (lpsOf [(2,xmp)])
theorem xtq:OrcOk Tryz.prog (ITryz.at 0) xfS:=xCI.fn
theorem xsd:LoOk Tryz.prog (ITryz.at xfS.pin) xfS (Tryz.f113.body.getD .skip):=xaP (ls:=[loopAt Tryz.f113 0]) (by kernel_rfl) (lkC xsT lkN)
def xiu {T:Type} (a b:LA) (δ:T) (κ:Int→T):T:=br ((Iter (xaR a b a (↑a.length:Int)) 0).isSome) (br (((Iter (xaR a b a (↑a.length:Int)) 0).getD (false,0,())).fst) (κ (((Iter (xaR a b a (↑a.length:Int)) 0).getD (false,0,())).snd.fst)) (br (decide ((↑a.length:Int)<(↑b.length:Int))) (κ ((-1))) (κ (0)))) δ
def xei (a b:LA):Option (Int):=xiu a b none some
theorem xwC (a b:LA):Enc (fun (p:Int)=>((AV.int .i64 p):AV)) (xei a b) (XF Tryz.prog xfS Tryz.f113 (Tryz.f113.body.getD .skip) [AV.list 3 a,AV.list 3 b,AV.func (114:FuncId) []]):=by
 refine eV (xiu a b none (fun (p:Int)=>some ((AV.int .i64 p):AV))) (by kernel_rfl) ?_;unfold xei xiu;repeat' first|exact eN|exact eS rfl|apply eB
def xqk:LA→Option (Bool×AV):=ocOf (sCons (sList 3 pAny) (sCons (sList 3 pAny) (sCons (sEq (pFunc (114:FuncId) pNil)) sNil))) fun (a,(b,(_,_)))=>((xei a b).isSome,(AV.int .i64 ((xei a b).getD 0)))
theorem xwT:OcOk Tryz.prog ITryz 113 (xqk):=xaN fun f h g=>by
 obtain ⟨a,⟨b,⟨_,_⟩⟩⟩:=f
 obtain ⟨c,e⟩:=Prod.mk.inj g
 refine xaH (p:=xfS.pin) (xaL mxTryz (inv0Ok Tryz.prog _) rfl xtq Tryz.func113 rfl (by kernel_rfl) xsd ((xwC _ _ _ (xab (d:=0) c)).trans ?_))
 exact congrArg some e
def xKv:Env:=xHg.with 113 xqk
theorem xH4:OrcOk Tryz.prog ITryz xKv:=xCI.with xwT
def xiZ:Env:=xKv.fn 8 0 (lsOf []) (lpsOf [])
theorem xyI:OrcOk Tryz.prog (ITryz.at 0) xiZ:=xH4.fn
theorem xvH:LoOk Tryz.prog (ITryz.at xiZ.pin) xiZ (Tryz.f88.body.getD .skip):=xaq (by kernel_rfl)
def xmf {T:Type} (a b:LA) (δ:T) (κ:Int→T):T:=br ((xei a b).isSome) (κ ((xei a b).getD 0)) δ
def xey (a b:LA):Option (Int):=xmf a b none some
theorem xEk (a b:LA):Enc (fun (p:Int)=>((AV.int .i64 p):AV)) (xey a b) (XF Tryz.prog xiZ Tryz.f88 (Tryz.f88.body.getD .skip) [AV.list 3 a,AV.list 3 b]):=by
 refine eV (xmf a b none (fun (p:Int)=>some ((AV.int .i64 p):AV))) (by kernel_rfl) ?_;unfold xey xmf;repeat' first|exact eN|exact eS rfl|apply eB
def xuv:LA→Option (Bool×AV):=ocOf (sCons (sList 3 pAny) (sCons (sList 3 pAny) sNil)) fun (a,(b,_))=>((xey a b).isSome,(AV.int .i64 ((xey a b).getD 0)))
theorem xDk:OcOk Tryz.prog ITryz 88 (xuv):=xaN fun f h g=>by
 obtain ⟨a,⟨b,_⟩⟩:=f
 obtain ⟨c,e⟩:=Prod.mk.inj g
 refine xaH (p:=xiZ.pin) (xaL mxTryz (inv0Ok Tryz.prog _) rfl xyI Tryz.func88 rfl (by kernel_rfl) xvH ((xEk _ _ _ (xab (d:=0) c)).trans ?_))
 exact congrArg some e
def xKB:Env:=xKv.with 88 xuv
theorem xHn:OrcOk Tryz.prog ITryz xKB:=xH4.with xDk
def xii:Env:=xKB.fn 10 0 (lsOf []) (lpsOf [])
theorem xwM:OrcOk Tryz.prog (ITryz.at 0) xii:=xHn.fn
theorem xuJ:LoOk Tryz.prog (ITryz.at xii.pin) xii (Tryz.f93.body.getD .skip):=xaq (by kernel_rfl)
def xlq {T:Type} (a c b d:LA) (δ:T) (κ:Int→T):T:=br ((xey a b).isSome) (κ ((xey a b).getD 0)) δ
def xcE (c a d b:LA):Option (Int):=xlq c a d b none some
theorem xCh (c a d b:LA):Enc (fun (p:Int)=>((AV.int .i64 p):AV)) (xcE c a d b) (XF Tryz.prog xii Tryz.f93 (Tryz.f93.body.getD .skip) [AV.agg [AV.list 3 c,AV.list 2 a],AV.agg [AV.list 3 d,AV.list 2 b]]):=by
 refine eV (xlq c a d b none (fun (p:Int)=>some ((AV.int .i64 p):AV))) (by kernel_rfl) ?_;unfold xcE xlq;repeat' first|exact eN|exact eS rfl|apply eB
def xta:LA→Option (Bool×AV):=ocOf (sCons (sAgg (sCons (sList 3 pAny) (sCons (sList 2 pAny) sNil))) (sCons (sAgg (sCons (sList 3 pAny) (sCons (sList 2 pAny) sNil))) sNil)) fun ((c,(a,_)),((d,(b,_)),_))=>((xcE c a d b).isSome,(AV.int .i64 ((xcE c a d b).getD 0)))
theorem xCg:OcOk Tryz.prog ITryz 93 (xta):=xaN fun c j e=>by
 obtain ⟨⟨h,⟨f,_⟩⟩,⟨⟨i,⟨g,_⟩⟩,_⟩⟩:=c
 obtain ⟨a,b⟩:=Prod.mk.inj e
 refine xaH (p:=xii.pin) (xaL mxTryz (inv0Ok Tryz.prog _) rfl xwM Tryz.func93 rfl (by kernel_rfl) xuJ ((xCh _ _ _ _ _ (xab (d:=0) a)).trans ?_))
 exact congrArg some b
def xOG:Env:=xKB.with 93 xta
theorem xN8:OrcOk Tryz.prog ITryz xOG:=xHn.with xCg
abbrev xOH:Env:=xOG
theorem xNS:OrcOk Tryz.prog ITryz xOH:=xN8
abbrev EK3:Env:=xOH
theorem xEz:OrcOk Tryz.prog ITryz EK3:=xNS
end Go.Sim.M
end
noncomputable section
set_option maxRecDepth 100000
namespace Go.Sim.M
open Go.IntKind (i64 u64 u8)
open Go.RowKit Go.Proofs
def xbF:Env:=EK3.fn 53 1 (lsOf [83]) (lpsOf [])
theorem xnv:OrcOk Tryz.prog (ITryz.at 1) xbF:=xEz.fn
theorem xlA:LoOk Tryz.prog (ITryz.at xbF.pin) xbF (loopAt Tryz.f141 1):=xaq (by kernel_rfl)
def xeR (a:Nat) (j:Int):=decide (0≤i64.wrap (j - 1))&&decide (i64.wrap (j - 1)<(↑a:Int))
def xdd (j:Int):Nat:=0+(i64.wrap (j - 1)).toNat
def xeF (a:Nat) (j:Int):=decide (0≤j)&&decide (j<(↑a:Int))
def xhU (j:Int) (a:LA):=decide (0+j.toNat<a.length)
def xhE (j:Int) (a:LA):=xhU j a&&((a.getD (0+j.toNat) .top).cells.length==2&&hasShs [Sh.list 3,Sh.list 2] (a.getD (0+j.toNat) .top).cells 0)
def xbp (j:Int) (a:LA):=(a.getD (xdd j) .top).cells
def xh1 (j:Int) (a:LA):=decide (xdd j<a.length)&&((xbp j a).length==2&&hasShs [Sh.list 3,Sh.list 2] (xbp j a) 0)
def xhY (j:Int) (a:LA):=xcE ((a.getD (0+j.toNat) .top).cells.getD 0 .top).toList ((a.getD (0+j.toNat) .top).cells.getD 1 .top).toList ((xbp j a).getD 0 .top).toList ((xbp j a).getD 1 .top).toList
def xhZ (j:Int) (a:LA):=a.set (0+j.toNat) (AV.agg [AV.list 3 ((xbp j a).getD 0 .top).toList,AV.list 2 ((xbp j a).getD 1 .top).toList])
def xeY {T:Type} (d:Nat) (a b i j:Int) (c:LA) (δ:T) (κl:(Int×LA)→T) (κr:(LA)→T):T:=br (decide (j>a)) (br (xeF d j) (br (xhE j c) (br (xeR d j) (br (xh1 j c) (br ((xhY j c).isSome) (br (decide ((xhY j c).getD 0<0)) (br (xeR d j) (br (xh1 j c) (br (xeF d j) (br (xhE j c) (br (xeF d j) (br (xhU j c) (br (xeR d j) (br (decide (xdd j<(xhZ j c).length)) (κl (i64.wrap (j - 1),(xhZ j c).set (xdd j) (AV.agg [AV.list 3 ((c.getD (0+j.toNat) .top).cells.getD 0 .top).toList,AV.list 2 ((c.getD (0+j.toNat) .top).cells.getD 1 .top).toList]))) δ) δ) δ) δ) δ) δ) δ) δ) (κr (c))) δ) δ) δ) δ) δ) (κr (c))
def xa0 (d:Nat) (a b i:Int):(Int×LA)→Option ((Int×LA)⊕(LA)):=fun (j,c)=>xeY d a b i j c none (fun s=>some (.inl s)) (fun p=>some (.inr p))
def xby (d:Nat) (a b i:Int):(Int×LA)→LA×List Box:=fun (j,c)=>([AV.osl 0 0 0 d,AV.int .i64 a,AV.int .i64 b,AV.func 93 [],AV.int .i64 i,AV.int .i64 j],[⟨0,2,83,c,false,true⟩])
def xbk (c:Nat) (a b i:Int):(LA)→LR:=fun p=>(.leaf (.exit 2) [AV.osl 0 0 0 c,AV.int .i64 a,AV.int .i64 b,AV.func 93 [],AV.int .i64 i] [⟨0,2,83,p,false,true⟩])
abbrev xnP (a:LA) (H:List Box):=XR Tryz.prog xbF [0,1,2,3,8,9] [0,1,2,3,8] [] (loopAt Tryz.f141 1) a H
theorem xnx (c:Nat) (a b i:Int) (s:Int×LA):Enc (encR (xby c a b i) (xbk c a b i)) (xa0 c a b i s) (xnP (xby c a b i s).1 (xby c a b i s).2):=by
 obtain ⟨j,d⟩:=s
 refine eV (xeY c a b i j d none (fun s=>some (encR (xby c a b i) (xbk c a b i) (.inl s))) (fun p=>some (encR (xby c a b i) (xbk c a b i) (.inr p)))) (by kernel_rfl) ?_;unfold xa0 xeY;repeat' first|exact eN|exact eS rfl|apply eB
def xeP:Lp:=lpOf [0,1,2,3,8,9] [0,1,2,3,8] [] (pCons (pOsl 0 0 0) (pCons (pInt .i64) (pCons (pInt .i64) (pCons (pFunc 93 pNil) (pCons (pInt .i64) (pCons (pInt .i64) pNil)))))) (pCons (pBox 0 2 83 false true pAny) pNil) fun (c,(a,(b,(_,(i,(j,_)))))) (d,_)=>((Iter (xa0 c a b i) (j,d)).isSome,xbk c a b i ((Iter (xa0 c a b i) (j,d)).getD []))
theorem xht:LoopOk Tryz.prog (ITryz.at xbF.pin) xbF.nt (loopAt Tryz.f141 1) xeP:=xaY fun f g k h=>by
 obtain ⟨c,⟨a,⟨b,⟨_,⟨i,⟨j,_⟩⟩⟩⟩⟩⟩:=f
 obtain ⟨d,_⟩:=g
 obtain ⟨e,rfl⟩:=Prod.mk.inj h
 exact xaG mxTryz (inv0Ok Tryz.prog _) rfl xnv xlA (xby c a b i) (xbk c a b i) (fun p=>by simp only [xbk,LR.eval];first|(simp;done)|(repeat' split<;>simp)) (xnx c a b i) (s:=(j,d)) (xab e)
def xbK:Env:=EK3.fn 53 1 (lsOf [83]) (lpsOf [(4,xeP)])
theorem xnL:OrcOk Tryz.prog (ITryz.at 1) xbK:=xEz.fn
theorem xlw:LoOk Tryz.prog (ITryz.at xbK.pin) xbK (loopAt Tryz.f141 0):=xaP (ls:=[loopAt Tryz.f141 1]) (by kernel_rfl) (lkC xht lkN)
def xeV {T:Type} (d:Nat) (a b i:Int) (c:LA) (δ:T) (κl:(Int×LA)→T) (κr:(LA)→T):T:=br (decide (i<b)) (br ((Iter (xa0 d a b i) (i,c)).isSome) (κl (i64.wrap (i+1),(Iter (xa0 d a b i) (i,c)).getD [])) δ) (κr (c))
def xa1 (d:Nat) (a b:Int):(Int×LA)→Option ((Int×LA)⊕(LA)):=fun (i,c)=>xeV d a b i c none (fun s=>some (.inl s)) (fun p=>some (.inr p))
def xbz (d:Nat) (a b:Int):(Int×LA)→LA×List Box:=fun (i,c)=>([AV.osl 0 0 0 d,AV.int .i64 a,AV.int .i64 b,AV.func 93 [],AV.int .i64 i],[⟨0,2,83,c,false,true⟩])
def xbl (c:Nat) (a b:Int):(LA)→LR:=fun p=>(.leaf (.exit 0) [] [⟨0,2,83,p,false,true⟩])
abbrev xn1 (a:LA) (H:List Box):=XR Tryz.prog xbK [0,1,2,3,8] [] [] (loopAt Tryz.f141 0) a H
theorem xnZ (c:Nat) (a b:Int) (s:Int×LA):Enc (encR (xbz c a b) (xbl c a b)) (xa1 c a b s) (xn1 (xbz c a b s).1 (xbz c a b s).2):=by
 obtain ⟨i,d⟩:=s
 refine eV (xeV c a b i d none (fun s=>some (encR (xbz c a b) (xbl c a b) (.inl s))) (fun p=>some (encR (xbz c a b) (xbl c a b) (.inr p)))) (by kernel_rfl) ?_;unfold xa1 xeV;repeat' first|exact eN|exact eS rfl|apply eB
def xh3:Lp:=lpOf [0,1,2,3,8] [] [] (pCons (pOsl 0 0 0) (pCons (pInt .i64) (pCons (pInt .i64) (pCons (pFunc 93 pNil) (pCons (pInt .i64) pNil))))) (pCons (pBox 0 2 83 false true pAny) pNil) fun (c,(a,(b,(_,(i,_))))) (d,_)=>((Iter (xa1 c a b) (i,d)).isSome,xbl c a b ((Iter (xa1 c a b) (i,d)).getD []))
theorem xmz:LoopOk Tryz.prog (ITryz.at xbK.pin) xbK.nt (loopAt Tryz.f141 0) xh3:=xaY fun f g j h=>by
 obtain ⟨c,⟨a,⟨b,⟨_,⟨i,_⟩⟩⟩⟩⟩:=f
 obtain ⟨d,_⟩:=g
 obtain ⟨e,rfl⟩:=Prod.mk.inj h
 exact xaG mxTryz (inv0Ok Tryz.prog _) rfl xnL xlw (xbz c a b) (xbl c a b) (fun p=>by simp only [xbl,LR.eval];first|(simp;done)|(repeat' split<;>simp)) (xnZ c a b) (s:=(i,d)) (xab e)
def xcI:Env:=EK3.fn 53 1 (lsOf [83]) (lpsOf [(4,xeP),(1,xh3)])
theorem xnd:OrcOk Tryz.prog (ITryz.at 1) xcI:=xEz.fn
theorem xl7:LoOk Tryz.prog (ITryz.at xcI.pin) xcI (Tryz.f141.body.getD .skip):=xaP (ls:=[loopAt Tryz.f141 0,loopAt Tryz.f141 1]) (by kernel_rfl) (lkC xmz (lkC xht lkN))
def xdN {T:Type} (n:Nat) (a b:Int) (c:LA) (δ:T) (κ:LA→T):T:=br ((Iter (xa1 n a b) (i64.wrap (a+1),c)).isSome) (κ ((Iter (xa1 n a b) (i64.wrap (a+1),c)).getD [])) δ
def xaX (n:Nat) (a b:Int) (c:LA):Option (LA):=xdN n a b c none some
theorem xpf (n:Nat) (a b:Int) (xs:LA):Enc (fun (p:LA)=>(((AV.tuple [],([⟨0,2,83,p,false,true⟩]:List Box))):(AV×List Box))) (xaX n a b xs) (XFM Tryz.prog xcI Tryz.f141 (Tryz.f141.body.getD .skip) [AV.osl (0:Id) 0 0 n,AV.int .i64 a,AV.int .i64 b,AV.func (93:FuncId) []] [{ ver:=0,sz:=2,ty:=(83:TypeId),xs:=xs,frz:=false,pm:=true }]):=by
 refine eV (xdN n a b xs none (fun (p:LA)=>some (((AV.tuple [],([⟨0,2,83,p,false,true⟩]:List Box))):(AV×List Box)))) (by kernel_rfl) ?_;unfold xaX xdN;repeat' first|exact eN|exact eS rfl|apply eB
def xjh:LA→List Box→Option (Bool×AV×List Box):=omOf (sCons (sEq (pOsl 0 0 0)) (sCons (sEq (pInt .i64)) (sCons (sEq (pInt .i64)) (sCons (sEq (pFunc (93:FuncId) pNil)) sNil)))) (pCons (pBox 0 2 (83:TypeId) false true pAny) pNil) fun (n,(a,(b,(_,_)))) (c,_)=>((xaX n a b c).isSome,((AV.tuple [],([⟨0,2,83,((xaX n a b c).getD []),false,true⟩]:List Box))))
theorem xpi:OmOk Tryz.prog ITryz 141 (xjh):=xfQ fun f g j i h=>by
 obtain ⟨n,⟨a,⟨b,⟨_,_⟩⟩⟩⟩:=f
 obtain ⟨k,_⟩:=g
 obtain ⟨c,e⟩:=Prod.mk.inj h
 refine xdv (p:=xcI.pin) (xdZ mxTryz (inv0Ok Tryz.prog _) rfl xnd rfl Tryz.func141 rfl (by kernel_rfl) xl7 ((xpf _ _ _ _ _ (xab (d:=[]) c)).trans ?_))
 exact congrArg some e
def xHh:Env:=EK3.withM 141 xjh
theorem xCi:OrcOk Tryz.prog ITryz xHh:=xEz.withM xpi
def xcF:Env:=xHh.fn 38 1 (lsOf [83]) (lpsOf [])
theorem xpk:OrcOk Tryz.prog (ITryz.at 1) xcF:=xCi.fn
theorem xmu:LoOk Tryz.prog (ITryz.at xcF.pin) xcF (loopAt Tryz.f182 0):=xaq (by kernel_rfl)
def xjb (a i:Int) (b:LA):=decide (0+(i64.wrap (a+i)).toNat<b.length)
def xdQ (a i:Int) (b:LA):=(b.getD (0+(i64.wrap (a+i)).toNat) .top).cells
def xjg (a:Nat) (b i:Int):=decide (0≤i64.wrap (b+i))&&decide (i64.wrap (b+i)<(↑a:Int))
def xjc (b:Nat) (a i:Int):=decide (0≤i64.wrap (a+i))&&decide (i64.wrap (a+i)<(↑b:Int))
def xdR (b i:Int):Nat:=0+(i64.wrap (b+i)).toNat
def xdP (b i:Int) (a:LA):=(a.getD (xdR b i) .top).cells
def xjf (a b i:Int) (c:LA):=c.set (0+(i64.wrap (a+i)).toNat) (AV.agg [AV.list 3 ((xdP b i c).getD 0 .top).toList,AV.list 2 ((xdP b i c).getD 1 .top).toList])
def xf7 {T:Type} (d:Nat) (a b n i:Int) (c:LA) (δ:T) (κl:(Int×LA)→T) (κr:(LA)→T):T:=br (decide (i<n)) (br (xjg d b i) (br (decide (xdR b i<c.length)&&((xdP b i c).length==2&&hasShs [Sh.list 3,Sh.list 2] (xdP b i c) 0)) (br (xjc d a i) (br (xjb a i c&&((xdQ a i c).length==2&&hasShs [Sh.list 3,Sh.list 2] (xdQ a i c) 0)) (br (xjc d a i) (br (xjb a i c) (br (xjg d b i) (br (decide (xdR b i<(xjf a b i c).length)) (κl (i64.wrap (i+1),(xjf a b i c).set (xdR b i) (AV.agg [AV.list 3 ((xdQ a i c).getD 0 .top).toList,AV.list 2 ((xdQ a i c).getD 1 .top).toList]))) δ) δ) δ) δ) δ) δ) δ) δ) (κr (c))
def xbc (d:Nat) (a b n:Int):(Int×LA)→Option ((Int×LA)⊕(LA)):=fun (i,c)=>xf7 d a b n i c none (fun s=>some (.inl s)) (fun p=>some (.inr p))
def xb8 (d:Nat) (a b n:Int):(Int×LA)→LA×List Box:=fun (i,c)=>([AV.osl 0 0 0 d,AV.int .i64 a,AV.int .i64 b,AV.int .i64 n,AV.int .i64 i],[⟨0,2,83,c,false,true⟩])
def xbE (c:Nat) (a b n:Int):(LA)→LR:=fun p=>(.leaf (.exit 0) [] [⟨0,2,83,p,false,true⟩])
abbrev xqh (a:LA) (H:List Box):=XR Tryz.prog xcF [0,1,2,3,10] [] [] (loopAt Tryz.f182 0) a H
theorem xpQ (c:Nat) (a b n:Int) (s:Int×LA):Enc (encR (xb8 c a b n) (xbE c a b n)) (xbc c a b n s) (xqh (xb8 c a b n s).1 (xb8 c a b n s).2):=by
 obtain ⟨i,d⟩:=s
 refine eV (xf7 c a b n i d none (fun s=>some (encR (xb8 c a b n) (xbE c a b n) (.inl s))) (fun p=>some (encR (xb8 c a b n) (xbE c a b n) (.inr p)))) (by kernel_rfl) ?_;unfold xbc xf7;repeat' first|exact eN|exact eS rfl|apply eB
def xje:Lp:=lpOf [0,1,2,3,10] [] [] (pCons (pOsl 0 0 0) (pCons (pInt .i64) (pCons (pInt .i64) (pCons (pInt .i64) (pCons (pInt .i64) pNil))))) (pCons (pBox 0 2 83 false true pAny) pNil) fun (c,(a,(b,(n,(i,_))))) (d,_)=>((Iter (xbc c a b n) (i,d)).isSome,xbE c a b n ((Iter (xbc c a b n) (i,d)).getD []))
theorem xoQ:LoopOk Tryz.prog (ITryz.at xcF.pin) xcF.nt (loopAt Tryz.f182 0) xje:=xaY fun f g j h=>by
 obtain ⟨c,⟨a,⟨b,⟨n,⟨i,_⟩⟩⟩⟩⟩:=f
 obtain ⟨d,_⟩:=g
 obtain ⟨e,rfl⟩:=Prod.mk.inj h
 exact xaG mxTryz (inv0Ok Tryz.prog _) rfl xpk xmu (xb8 c a b n) (xbE c a b n) (fun p=>by simp only [xbE,LR.eval];first|(simp;done)|(repeat' split<;>simp)) (xpQ c a b n) (s:=(i,d)) (xab e)
def xdo:Env:=xHh.fn 38 1 (lsOf [83]) (lpsOf [(1,xje)])
theorem xpn:OrcOk Tryz.prog (ITryz.at 1) xdo:=xCi.fn
theorem xn4:LoOk Tryz.prog (ITryz.at xdo.pin) xdo (Tryz.f182.body.getD .skip):=xaP (ls:=[loopAt Tryz.f182 0]) (by kernel_rfl) (lkC xoQ lkN)
def xex {T:Type} (n:Nat) (a b k:Int) (c:LA) (δ:T) (κ:LA→T):T:=br ((Iter (xbc n a b k) (0,c)).isSome) (κ ((Iter (xbc n a b k) (0,c)).getD [])) δ
def xaV (n:Nat) (a b k:Int) (c:LA):Option (LA):=xex n a b k c none some
theorem xrI (n:Nat) (a b k:Int) (xs:LA):Enc (fun (p:LA)=>(((AV.tuple [],([⟨0,2,83,p,false,true⟩]:List Box))):(AV×List Box))) (xaV n a b k xs) (XFM Tryz.prog xdo Tryz.f182 (Tryz.f182.body.getD .skip) [AV.osl (0:Id) 0 0 n,AV.int .i64 a,AV.int .i64 b,AV.int .i64 k,AV.func (93:FuncId) []] [{ ver:=0,sz:=2,ty:=(83:TypeId),xs:=xs,frz:=false,pm:=true }]):=by
 refine eV (xex n a b k xs none (fun (p:LA)=>some (((AV.tuple [],([⟨0,2,83,p,false,true⟩]:List Box))):(AV×List Box)))) (by kernel_rfl) ?_;unfold xaV xex;repeat' first|exact eN|exact eS rfl|apply eB
def xlk:LA→List Box→Option (Bool×AV×List Box):=omOf (sCons (sEq (pOsl 0 0 0)) (sCons (sEq (pInt .i64)) (sCons (sEq (pInt .i64)) (sCons (sEq (pInt .i64)) (sCons (sEq (pFunc (93:FuncId) pNil)) sNil))))) (pCons (pBox 0 2 (83:TypeId) false true pAny) pNil) fun (n,(a,(b,(k,(_,_))))) (c,_)=>((xaV n a b k c).isSome,((AV.tuple [],([⟨0,2,83,((xaV n a b k c).getD []),false,true⟩]:List Box))))
theorem xrH:OmOk Tryz.prog ITryz 182 (xlk):=xfQ fun f g j i h=>by
 obtain ⟨n,⟨a,⟨b,⟨k,⟨_,_⟩⟩⟩⟩⟩:=f
 obtain ⟨l,_⟩:=g
 obtain ⟨c,e⟩:=Prod.mk.inj h
 refine xdv (p:=xdo.pin) (xdZ mxTryz (inv0Ok Tryz.prog _) rfl xpn rfl Tryz.func182 rfl (by kernel_rfl) xn4 ((xrI _ _ _ _ _ _ (xab (d:=[]) c)).trans ?_))
 exact congrArg some e
def xHd:Env:=xHh.withM 182 xlk
theorem xCH:OrcOk Tryz.prog ITryz xHd:=xCi.withM xrH
def xdf:Env:=xHd.fn 58 1 (lsOf [83]) (lpsOf [])
theorem xq4:OrcOk Tryz.prog (ITryz.at 1) xdf:=xCH.fn
theorem xol:LoOk Tryz.prog (ITryz.at xdf.pin) xdf (loopAt Tryz.f162 0):=xaq (by kernel_rfl)
def xho {T:Type} (b:Nat) (m i j:Int) (a:LA) (δ:T) (κl:(Int×Int×LA)→T) (κr:(Int×LA)→T):T:=br (i != j) (br (decide (i>j)) (br ((xaV b (i64.wrap (m - i)) m j a).isSome) (κl (i64.wrap (i - j),j,(xaV b (i64.wrap (m - i)) m j a).getD [])) δ) (br ((xaV b (i64.wrap (m - i)) (i64.wrap (i64.wrap (m+j) - i)) i a).isSome) (κl (i,i64.wrap (j - i),(xaV b (i64.wrap (m - i)) (i64.wrap (i64.wrap (m+j) - i)) i a).getD [])) δ)) (κr (i,a))
def xb7 (b:Nat) (m:Int):(Int×Int×LA)→Option ((Int×Int×LA)⊕(Int×LA)):=fun (i,j,a)=>xho b m i j a none (fun s=>some (.inl s)) (fun p=>some (.inr p))
def xcT (b:Nat) (m:Int):(Int×Int×LA)→LA×List Box:=fun (i,j,a)=>([AV.osl 0 0 0 b,AV.int .i64 m,AV.func 93 [],AV.int .i64 i,AV.int .i64 j],[⟨0,2,83,a,false,true⟩])
def xcj (a:Nat) (m:Int):(Int×LA)→LR:=fun p=>(.leaf (.exit 0) [AV.osl 0 0 0 a,AV.int .i64 m,AV.func 93 [],AV.int .i64 p.1] [⟨0,2,83,p.2,false,true⟩])
abbrev xrW (a:LA) (H:List Box):=XR Tryz.prog xdf [0,2,4,10,11] [0,2,4,10] [] (loopAt Tryz.f162 0) a H
theorem xr6 (a:Nat) (m:Int) (s:Int×Int×LA):Enc (encR (xcT a m) (xcj a m)) (xb7 a m s) (xrW (xcT a m s).1 (xcT a m s).2):=by
 obtain ⟨i,j,b⟩:=s
 refine eV (xho a m i j b none (fun s=>some (encR (xcT a m) (xcj a m) (.inl s))) (fun p=>some (encR (xcT a m) (xcj a m) (.inr p)))) (by kernel_rfl) ?_;unfold xb7 xho;repeat' first|exact eN|exact eS rfl|apply eB
def xld:Lp:=lpOf [0,2,4,10,11] [0,2,4,10] [] (pCons (pOsl 0 0 0) (pCons (pInt .i64) (pCons (pFunc 93 pNil) (pCons (pInt .i64) (pCons (pInt .i64) pNil))))) (pCons (pBox 0 2 83 false true pAny) pNil) fun (a,(m,(_,(i,(j,_))))) (b,_)=>((Iter (xb7 a m) (i,j,b)).isSome,xcj a m ((Iter (xb7 a m) (i,j,b)).getD (0,[])))
theorem xqF:LoopOk Tryz.prog (ITryz.at xdf.pin) xdf.nt (loopAt Tryz.f162 0) xld:=xaY fun d e g f=>by
 obtain ⟨a,⟨m,⟨_,⟨i,⟨j,_⟩⟩⟩⟩⟩:=d
 obtain ⟨b,_⟩:=e
 obtain ⟨c,rfl⟩:=Prod.mk.inj f
 exact xaG mxTryz (inv0Ok Tryz.prog _) rfl xq4 xol (xcT a m) (xcj a m) (fun p=>by simp only [xcj,LR.eval];first|(simp;done)|(repeat' split<;>simp)) (xr6 a m) (s:=(i,j,b)) (xab c)
def xd8:Env:=xHd.fn 58 1 (lsOf [83]) (lpsOf [(2,xld)])
theorem xrl:OrcOk Tryz.prog (ITryz.at 1) xd8:=xCH.fn
theorem xpo:LoOk Tryz.prog (ITryz.at xd8.pin) xd8 (Tryz.f162.body.getD .skip):=xaP (ls:=[loopAt Tryz.f162 0]) (by kernel_rfl) (lkC xqF lkN)
def xio (n:Nat) (a m b:Int) (c:LA):=Iter (xb7 n m) (i64.wrap (m - a),i64.wrap (b - m),c)
def xis (n:Nat) (a m b:Int) (c:LA):=(xio n a m b c).getD (0,[])
def xip (n:Nat) (a m b:Int) (c:LA):=(xis n a m b c).fst
def xiq (n:Nat) (a m b:Int) (c:LA):=xaV n (i64.wrap (m - xip n a m b c)) m (xip n a m b c) (xis n a m b c).snd
def xge {T:Type} (n:Nat) (a m b:Int) (c:LA) (δ:T) (κ:LA→T):T:=br ((xio n a m b c).isSome) (br ((xiq n a m b c).isSome) (κ ((xiq n a m b c).getD [])) δ) δ
def xba (n:Nat) (a m b:Int) (c:LA):Option (LA):=xge n a m b c none some
theorem xtb (n:Nat) (a m b:Int) (xs:LA):Enc (fun (p:LA)=>(((AV.tuple [],([⟨0,2,83,p,false,true⟩]:List Box))):(AV×List Box))) (xba n a m b xs) (XFM Tryz.prog xd8 Tryz.f162 (Tryz.f162.body.getD .skip) [AV.osl (0:Id) 0 0 n,AV.int .i64 a,AV.int .i64 m,AV.int .i64 b,AV.func (93:FuncId) []] [{ ver:=0,sz:=2,ty:=(83:TypeId),xs:=xs,frz:=false,pm:=true }]):=by
 refine eV (xge n a m b xs none (fun (p:LA)=>some (((AV.tuple [],([⟨0,2,83,p,false,true⟩]:List Box))):(AV×List Box)))) (by kernel_rfl) ?_;unfold xba xge;repeat' first|exact eN|exact eS rfl|apply eB
def xmS:LA→List Box→Option (Bool×AV×List Box):=omOf (sCons (sEq (pOsl 0 0 0)) (sCons (sEq (pInt .i64)) (sCons (sEq (pInt .i64)) (sCons (sEq (pInt .i64)) (sCons (sEq (pFunc (93:FuncId) pNil)) sNil))))) (pCons (pBox 0 2 (83:TypeId) false true pAny) pNil) fun (n,(a,(m,(b,(_,_))))) (c,_)=>((xba n a m b c).isSome,((AV.tuple [],([⟨0,2,83,((xba n a m b c).getD []),false,true⟩]:List Box))))
theorem xtm:OmOk Tryz.prog ITryz 162 (xmS):=xfQ fun f g j i h=>by
 obtain ⟨n,⟨a,⟨m,⟨b,⟨_,_⟩⟩⟩⟩⟩:=f
 obtain ⟨k,_⟩:=g
 obtain ⟨c,e⟩:=Prod.mk.inj h
 refine xdv (p:=xd8.pin) (xdZ mxTryz (inv0Ok Tryz.prog _) rfl xrl rfl Tryz.func162 rfl (by kernel_rfl) xpo ((xtb _ _ _ _ _ _ (xab (d:=[]) c)).trans ?_))
 exact congrArg some e
def xub:Env:=xHd.withM 162 xmS
theorem xox:OrcOk Tryz.prog ITryz xub:=xCH.withM xtm
def xcN:Env:=xub.fn 220 1 (lsOf [83]) (lpsOf [])
theorem xqi:OrcOk Tryz.prog (ITryz.at 1) xcN:=xox.fn
theorem xnu:LoOk Tryz.prog (ITryz.at xcN.pin) xcN (loopAt Tryz.f142 0):=xaq (by kernel_rfl)
def xcb (i j:Int):=i64.wrap ((u64.wrap (i64.wrap (i+j))).fdiv 2)
def xd4 (i j:Int) (a:LA):=(a.getD (0+(xcb i j).toNat) .top).cells
def xjL (a i j:Int) (b:LA):=xcE ((xd4 i j b).getD 0 .top).toList ((xd4 i j b).getD 1 .top).toList ((b.getD (0+a.toNat) .top).cells.getD 0 .top).toList ((b.getD (0+a.toNat) .top).cells.getD 1 .top).toList
def xgR {T:Type} (c:Nat) (a i j:Int) (b:LA) (δ:T) (κl:(Int×Int×LA)→T) (κr:(Int×LA)→T):T:=br (decide (i<j)) (br (decide (0≤xcb i j)&&decide (xcb i j<(↑c:Int))) (br (decide (0+(xcb i j).toNat<b.length)&&((xd4 i j b).length==2&&hasShs [Sh.list 3,Sh.list 2] (xd4 i j b) 0)) (br (decide (0≤a)&&decide (a<(↑c:Int))) (br (decide (0+a.toNat<b.length)&&((b.getD (0+a.toNat) .top).cells.length==2&&hasShs [Sh.list 3,Sh.list 2] (b.getD (0+a.toNat) .top).cells 0)) (br ((xjL a i j b).isSome) (br (decide ((xjL a i j b).getD 0<0)) (κl (i64.wrap (xcb i j+1),j,b)) (κl (i,xcb i j,b))) δ) δ) δ) δ) δ) (κr (i,b))
def xa4 (c:Nat) (a:Int):(Int×Int×LA)→Option ((Int×Int×LA)⊕(Int×LA)):=fun (i,j,b)=>xgR c a i j b none (fun s=>some (.inl s)) (fun p=>some (.inr p))
def xcq (c:Nat) (a:Int):(Int×Int×LA)→LA×List Box:=fun (i,j,b)=>([AV.osl 0 0 0 c,AV.int .i64 a,AV.func 93 [],AV.int .i64 i,AV.int .i64 j],[⟨0,2,83,b,false,true⟩])
def xbX (b:Nat) (a:Int):(Int×LA)→LR:=fun p=>(.leaf (.exit 0) [AV.osl 0 0 0 b,AV.int .i64 a,AV.int .i64 p.1] [⟨0,2,83,p.2,false,true⟩])
abbrev xqQ (a:LA) (H:List Box):=XR Tryz.prog xcN [0,1,4,10,11] [0,1,10] [] (loopAt Tryz.f142 0) a H
theorem xqJ (b:Nat) (a:Int) (s:Int×Int×LA):Enc (encR (xcq b a) (xbX b a)) (xa4 b a s) (xqQ (xcq b a s).1 (xcq b a s).2):=by
 obtain ⟨i,j,c⟩:=s
 refine eV (xgR b a i j c none (fun s=>some (encR (xcq b a) (xbX b a) (.inl s))) (fun p=>some (encR (xcq b a) (xbX b a) (.inr p)))) (by kernel_rfl) ?_;unfold xa4 xgR;repeat' first|exact eN|exact eS rfl|apply eB
def xbv:Lp:=lpOf [0,1,4,10,11] [0,1,10] [] (pCons (pOsl 0 0 0) (pCons (pInt .i64) (pCons (pFunc 93 pNil) (pCons (pInt .i64) (pCons (pInt .i64) pNil))))) (pCons (pBox 0 2 83 false true pAny) pNil) fun (b,(a,(_,(i,(j,_))))) (c,_)=>((Iter (xa4 b a) (i,j,c)).isSome,xbX b a ((Iter (xa4 b a) (i,j,c)).getD (0,[])))
theorem xpj:LoopOk Tryz.prog (ITryz.at xcN.pin) xcN.nt (loopAt Tryz.f142 0) xbv:=xaY fun e f h g=>by
 obtain ⟨b,⟨a,⟨_,⟨i,⟨j,_⟩⟩⟩⟩⟩:=e
 obtain ⟨c,_⟩:=f
 obtain ⟨d,rfl⟩:=Prod.mk.inj g
 exact xaG mxTryz (inv0Ok Tryz.prog _) rfl xqi xnu (xcq b a) (xbX b a) (fun p=>by simp only [xbX,LR.eval];first|(simp;done)|(repeat' split<;>simp)) (xqJ b a) (s:=(i,j,c)) (xab d)
def xcS:Env:=xub.fn 220 1 (lsOf [83]) (lpsOf [(3,xbv)])
theorem xpL:OrcOk Tryz.prog (ITryz.at 1) xcS:=xox.fn
theorem xnB:LoOk Tryz.prog (ITryz.at xcS.pin) xcS (loopAt Tryz.f142 1):=xaq (by kernel_rfl)
def xjR (a:Nat) (k:Int):=decide (0≤i64.wrap (k+1))&&decide (i64.wrap (k+1)<(↑a:Int))
def xd3 (k:Int):Nat:=0+(i64.wrap (k+1)).toNat
def xke (k:Int) (a:LA):=decide (0+k.toNat<a.length)
def xd6 (k:Int) (a:LA):=(a.getD (xd3 k) .top).cells
def xjU (k:Int) (a:LA):=a.set (0+k.toNat) (AV.agg [AV.list 3 ((xd6 k a).getD 0 .top).toList,AV.list 2 ((xd6 k a).getD 1 .top).toList])
def xgQ {T:Type} (b:Nat) (i k:Int) (a:LA) (δ:T) (κl:(Int×LA)→T) (κr:(LA)→T):T:=br (decide (k<i64.wrap (i - 1))) (br (xjR b k) (br (decide (xd3 k<a.length)&&((xd6 k a).length==2&&hasShs [Sh.list 3,Sh.list 2] (xd6 k a) 0)) (br (decide (0≤k)&&decide (k<(↑b:Int))) (br (xke k a&&((a.getD (0+k.toNat) .top).cells.length==2&&hasShs [Sh.list 3,Sh.list 2] (a.getD (0+k.toNat) .top).cells 0)) (br (decide (0≤k)&&decide (k<(↑b:Int))) (br (xke k a) (br (xjR b k) (br (decide (xd3 k<(xjU k a).length)) (κl (i64.wrap (k+1),(xjU k a).set (xd3 k) (AV.agg [AV.list 3 ((a.getD (0+k.toNat) .top).cells.getD 0 .top).toList,AV.list 2 ((a.getD (0+k.toNat) .top).cells.getD 1 .top).toList]))) δ) δ) δ) δ) δ) δ) δ) δ) (κr (a))
def xbL (b:Nat) (i:Int):(Int×LA)→Option ((Int×LA)⊕(LA)):=fun (k,a)=>xgQ b i k a none (fun s=>some (.inl s)) (fun p=>some (.inr p))
def xck (b:Nat) (i:Int):(Int×LA)→LA×List Box:=fun (k,a)=>([AV.osl 0 0 0 b,AV.int .i64 i,AV.int .i64 k],[⟨0,2,83,a,false,true⟩])
def xbU (a:Nat) (i:Int):(LA)→LR:=fun p=>(.leaf (.exit 2) [] [⟨0,2,83,p,false,true⟩])
abbrev xqL (a:LA) (H:List Box):=XR Tryz.prog xcS [0,10,13] [] [] (loopAt Tryz.f142 1) a H
theorem xqN (a:Nat) (i:Int) (s:Int×LA):Enc (encR (xck a i) (xbU a i)) (xbL a i s) (xqL (xck a i s).1 (xck a i s).2):=by
 obtain ⟨k,b⟩:=s
 refine eV (xgQ a i k b none (fun s=>some (encR (xck a i) (xbU a i) (.inl s))) (fun p=>some (encR (xck a i) (xbU a i) (.inr p)))) (by kernel_rfl) ?_;unfold xbL xgQ;repeat' first|exact eN|exact eS rfl|apply eB
def xb6:Lp:=lpOf [0,10,13] [] [] (pCons (pOsl 0 0 0) (pCons (pInt .i64) (pCons (pInt .i64) pNil))) (pCons (pBox 0 2 83 false true pAny) pNil) fun (a,(i,(k,_))) (b,_)=>((Iter (xbL a i) (k,b)).isSome,xbU a i ((Iter (xbL a i) (k,b)).getD []))
theorem xpm:LoopOk Tryz.prog (ITryz.at xcS.pin) xcS.nt (loopAt Tryz.f142 1) xb6:=xaY fun d e g f=>by
 obtain ⟨a,⟨i,⟨k,_⟩⟩⟩:=d
 obtain ⟨b,_⟩:=e
 obtain ⟨c,rfl⟩:=Prod.mk.inj f
 exact xaG mxTryz (inv0Ok Tryz.prog _) rfl xpL xnB (xck a i) (xbU a i) (fun p=>by simp only [xbU,LR.eval];first|(simp;done)|(repeat' split<;>simp)) (xqN a i) (s:=(k,b)) (xab c)
def xcP:Env:=xub.fn 220 1 (lsOf [83]) (lpsOf [(3,xbv),(9,xb6)])
theorem xps:OrcOk Tryz.prog (ITryz.at 1) xcP:=xox.fn
theorem xnD:LoOk Tryz.prog (ITryz.at xcP.pin) xcP (loopAt Tryz.f142 2):=xaq (by kernel_rfl)
def xcd (i j:Int):=i64.wrap ((u64.wrap (i64.wrap (i+j))).fdiv 2)
def xdx (i j:Int) (a:LA):=(a.getD (0+(xcd i j).toNat) .top).cells
def xjX (m i j:Int) (a:LA):=xcE ((a.getD (0+m.toNat) .top).cells.getD 0 .top).toList ((a.getD (0+m.toNat) .top).cells.getD 1 .top).toList ((xdx i j a).getD 0 .top).toList ((xdx i j a).getD 1 .top).toList
def xgU {T:Type} (b:Nat) (m i j:Int) (a:LA) (δ:T) (κl:(Int×Int×LA)→T) (κr:(Int×LA)→T):T:=br (decide (i<j)) (br (decide (0≤m)&&decide (m<(↑b:Int))) (br (decide (0+m.toNat<a.length)&&((a.getD (0+m.toNat) .top).cells.length==2&&hasShs [Sh.list 3,Sh.list 2] (a.getD (0+m.toNat) .top).cells 0)) (br (decide (0≤xcd i j)&&decide (xcd i j<(↑b:Int))) (br (decide (0+(xcd i j).toNat<a.length)&&((xdx i j a).length==2&&hasShs [Sh.list 3,Sh.list 2] (xdx i j a) 0)) (br ((xjX m i j a).isSome) (br (!decide ((xjX m i j a).getD 0<0)) (κl (i64.wrap (xcd i j+1),j,a)) (κl (i,xcd i j,a))) δ) δ) δ) δ) δ) (κr (i,a))
def xa3 (b:Nat) (m:Int):(Int×Int×LA)→Option ((Int×Int×LA)⊕(Int×LA)):=fun (i,j,a)=>xgU b m i j a none (fun s=>some (.inl s)) (fun p=>some (.inr p))
def xcm (b:Nat) (m:Int):(Int×Int×LA)→LA×List Box:=fun (i,j,a)=>([AV.osl 0 0 0 b,AV.int .i64 m,AV.func 93 [],AV.int .i64 i,AV.int .i64 j],[⟨0,2,83,a,false,true⟩])
def xbV (a:Nat) (m:Int):(Int×LA)→LR:=fun p=>(.leaf (.exit 4) [AV.osl 0 0 0 a,AV.int .i64 m,AV.int .i64 p.1] [⟨0,2,83,p.2,false,true⟩])
abbrev xqR (a:LA) (H:List Box):=XR Tryz.prog xcP [0,2,4,14,15] [0,2,14] [] (loopAt Tryz.f142 2) a H
theorem xqO (a:Nat) (m:Int) (s:Int×Int×LA):Enc (encR (xcm a m) (xbV a m)) (xa3 a m s) (xqR (xcm a m s).1 (xcm a m s).2):=by
 obtain ⟨i,j,b⟩:=s
 refine eV (xgU a m i j b none (fun s=>some (encR (xcm a m) (xbV a m) (.inl s))) (fun p=>some (encR (xcm a m) (xbV a m) (.inr p)))) (by kernel_rfl) ?_;unfold xa3 xgU;repeat' first|exact eN|exact eS rfl|apply eB
def xc4:Lp:=lpOf [0,2,4,14,15] [0,2,14] [] (pCons (pOsl 0 0 0) (pCons (pInt .i64) (pCons (pFunc 93 pNil) (pCons (pInt .i64) (pCons (pInt .i64) pNil))))) (pCons (pBox 0 2 83 false true pAny) pNil) fun (a,(m,(_,(i,(j,_))))) (b,_)=>((Iter (xa3 a m) (i,j,b)).isSome,xbV a m ((Iter (xa3 a m) (i,j,b)).getD (0,[])))
theorem xpq:LoopOk Tryz.prog (ITryz.at xcP.pin) xcP.nt (loopAt Tryz.f142 2) xc4:=xaY fun d e g f=>by
 obtain ⟨a,⟨m,⟨_,⟨i,⟨j,_⟩⟩⟩⟩⟩:=d
 obtain ⟨b,_⟩:=e
 obtain ⟨c,rfl⟩:=Prod.mk.inj f
 exact xaG mxTryz (inv0Ok Tryz.prog _) rfl xps xnD (xcm a m) (xbV a m) (fun p=>by simp only [xbV,LR.eval];first|(simp;done)|(repeat' split<;>simp)) (xqO a m) (s:=(i,j,b)) (xab c)
def xcQ:Env:=xub.fn 220 1 (lsOf [83]) (lpsOf [(3,xbv),(9,xb6),(15,xc4)])
theorem xpK:OrcOk Tryz.prog (ITryz.at 1) xcQ:=xox.fn
theorem xnH:LoOk Tryz.prog (ITryz.at xcQ.pin) xcQ (loopAt Tryz.f142 3):=xaq (by kernel_rfl)
def xkg (a:Nat) (k:Int):=decide (0≤i64.wrap (k - 1))&&decide (i64.wrap (k - 1)<(↑a:Int))
def xd2 (k:Int):Nat:=0+(i64.wrap (k - 1)).toNat
def xjN (k:Int) (a:LA):=decide (0+k.toNat<a.length)
def xd5 (k:Int) (a:LA):=(a.getD (xd2 k) .top).cells
def xjH (k:Int) (a:LA):=a.set (0+k.toNat) (AV.agg [AV.list 3 ((xd5 k a).getD 0 .top).toList,AV.list 2 ((xd5 k a).getD 1 .top).toList])
def xgT {T:Type} (b:Nat) (i k:Int) (a:LA) (δ:T) (κl:(Int×LA)→T) (κr:(LA)→T):T:=br (decide (k>i)) (br (xkg b k) (br (decide (xd2 k<a.length)&&((xd5 k a).length==2&&hasShs [Sh.list 3,Sh.list 2] (xd5 k a) 0)) (br (decide (0≤k)&&decide (k<(↑b:Int))) (br (xjN k a&&((a.getD (0+k.toNat) .top).cells.length==2&&hasShs [Sh.list 3,Sh.list 2] (a.getD (0+k.toNat) .top).cells 0)) (br (decide (0≤k)&&decide (k<(↑b:Int))) (br (xjN k a) (br (xkg b k) (br (decide (xd2 k<(xjH k a).length)) (κl (i64.wrap (k - 1),(xjH k a).set (xd2 k) (AV.agg [AV.list 3 ((a.getD (0+k.toNat) .top).cells.getD 0 .top).toList,AV.list 2 ((a.getD (0+k.toNat) .top).cells.getD 1 .top).toList]))) δ) δ) δ) δ) δ) δ) δ) δ) (κr (a))
def xbG (b:Nat) (i:Int):(Int×LA)→Option ((Int×LA)⊕(LA)):=fun (k,a)=>xgT b i k a none (fun s=>some (.inl s)) (fun p=>some (.inr p))
def xcn (b:Nat) (i:Int):(Int×LA)→LA×List Box:=fun (k,a)=>([AV.osl 0 0 0 b,AV.int .i64 i,AV.int .i64 k],[⟨0,2,83,a,false,true⟩])
def xbY (a:Nat) (i:Int):(LA)→LR:=fun p=>(.leaf (.exit 6) [] [⟨0,2,83,p,false,true⟩])
abbrev xqC (a:LA) (H:List Box):=XR Tryz.prog xcQ [0,14,17] [] [] (loopAt Tryz.f142 3) a H
theorem xqM (a:Nat) (i:Int) (s:Int×LA):Enc (encR (xcn a i) (xbY a i)) (xbG a i s) (xqC (xcn a i s).1 (xcn a i s).2):=by
 obtain ⟨k,b⟩:=s
 refine eV (xgT a i k b none (fun s=>some (encR (xcn a i) (xbY a i) (.inl s))) (fun p=>some (encR (xcn a i) (xbY a i) (.inr p)))) (by kernel_rfl) ?_;unfold xbG xgT;repeat' first|exact eN|exact eS rfl|apply eB
def xd7:Lp:=lpOf [0,14,17] [] [] (pCons (pOsl 0 0 0) (pCons (pInt .i64) (pCons (pInt .i64) pNil))) (pCons (pBox 0 2 83 false true pAny) pNil) fun (a,(i,(k,_))) (b,_)=>((Iter (xbG a i) (k,b)).isSome,xbY a i ((Iter (xbG a i) (k,b)).getD []))
theorem xpr:LoopOk Tryz.prog (ITryz.at xcQ.pin) xcQ.nt (loopAt Tryz.f142 3) xd7:=xaY fun d e g f=>by
 obtain ⟨a,⟨i,⟨k,_⟩⟩⟩:=d
 obtain ⟨b,_⟩:=e
 obtain ⟨c,rfl⟩:=Prod.mk.inj f
 exact xaG mxTryz (inv0Ok Tryz.prog _) rfl xpK xnH (xcn a i) (xbY a i) (fun p=>by simp only [xbY,LR.eval];first|(simp;done)|(repeat' split<;>simp)) (xqM a i) (s:=(k,b)) (xab c)
def xcK:Env:=xub.fn 220 1 (lsOf [83]) (lpsOf [(3,xbv),(9,xb6),(15,xc4),(21,xd7)])
theorem xqB:OrcOk Tryz.prog (ITryz.at 1) xcK:=xox.fn
theorem xm8:LoOk Tryz.prog (ITryz.at xcK.pin) xcK (loopAt Tryz.f142 4):=xaq (by kernel_rfl)
def xaU (a r:Int):=i64.wrap ((u64.wrap (i64.wrap (a+r))).fdiv 2)
def xd9 (c b r:Int) (a:LA):=(a.getD (0+(i64.wrap (c - xaU b r)).toNat) .top).cells
def xd1 (b r:Int) (a:LA):=(a.getD (0+(xaU b r).toNat) .top).cells
def xjK (c b r:Int) (a:LA):=xcE ((xd9 c b r a).getD 0 .top).toList ((xd9 c b r a).getD 1 .top).toList ((xd1 b r a).getD 0 .top).toList ((xd1 b r a).getD 1 .top).toList
def xgP {T:Type} (e:Nat) (a m b g n f c r:Int) (d:LA) (δ:T) (κl:(Int×Int×LA)→T) (κr:(Int×LA)→T):T:=br (decide (c<r)) (br (decide (0≤i64.wrap (f - xaU c r))&&decide (i64.wrap (f - xaU c r)<(↑e:Int))) (br (decide (0+(i64.wrap (f - xaU c r)).toNat<d.length)&&((xd9 f c r d).length==2&&hasShs [Sh.list 3,Sh.list 2] (xd9 f c r d) 0)) (br (decide (0≤xaU c r)&&decide (xaU c r<(↑e:Int))) (br (decide (0+(xaU c r).toNat<d.length)&&((xd1 c r d).length==2&&hasShs [Sh.list 3,Sh.list 2] (xd1 c r d) 0)) (br ((xjK f c r d).isSome) (br (!decide ((xjK f c r d).getD 0<0)) (κl (i64.wrap (xaU c r+1),r,d)) (κl (c,xaU c r,d))) δ) δ) δ) δ) δ) (κr (c,d))
def xbi (d:Nat) (a m b f n g:Int):(Int×Int×LA)→Option ((Int×Int×LA)⊕(Int×LA)):=fun (e,r,c)=>xgP d a m b f n g e r c none (fun s=>some (.inl s)) (fun p=>some (.inr p))
def xci (d:Nat) (a m b f n g:Int):(Int×Int×LA)→LA×List Box:=fun (e,r,c)=>([AV.osl 0 0 0 d,AV.int .i64 a,AV.int .i64 m,AV.int .i64 b,AV.func 93 [],AV.int .i64 f,AV.int .i64 n,AV.int .i64 e,AV.int .i64 r,AV.int .i64 g],[⟨0,2,83,c,false,true⟩])
def xbW (c:Nat) (a m b d n e:Int):(Int×LA)→LR:=fun p=>(.leaf (.exit 8) [AV.osl 0 0 0 c,AV.int .i64 a,AV.int .i64 m,AV.int .i64 b,AV.func 93 [],AV.int .i64 d,AV.int .i64 n,AV.int .i64 p.1] [⟨0,2,83,p.2,false,true⟩])
abbrev xqG (a:LA) (H:List Box):=XR Tryz.prog xcK [0,1,2,3,4,18,19,20,21,22] [0,1,2,3,4,18,19,20] [] (loopAt Tryz.f142 4) a H
theorem xqD (c:Nat) (a m b d n e:Int) (s:Int×Int×LA):Enc (encR (xci c a m b d n e) (xbW c a m b d n e)) (xbi c a m b d n e s) (xqG (xci c a m b d n e s).1 (xci c a m b d n e s).2):=by
 obtain ⟨g,r,f⟩:=s
 refine eV (xgP c a m b d n e g r f none (fun s=>some (encR (xci c a m b d n e) (xbW c a m b d n e) (.inl s))) (fun p=>some (encR (xci c a m b d n e) (xbW c a m b d n e) (.inr p)))) (by kernel_rfl) ?_;unfold xbi xgP;repeat' first|exact eN|exact eS rfl|apply eB
def xf2:Lp:=lpOf [0,1,2,3,4,18,19,20,21,22] [0,1,2,3,4,18,19,20] [] (pCons (pOsl 0 0 0) (pCons (pInt .i64) (pCons (pInt .i64) (pCons (pInt .i64) (pCons (pFunc 93 pNil) (pCons (pInt .i64) (pCons (pInt .i64) (pCons (pInt .i64) (pCons (pInt .i64) (pCons (pInt .i64) pNil)))))))))) (pCons (pBox 0 2 83 false true pAny) pNil) fun (c,(a,(m,(b,(_,(f,(n,(e,(r,(g,_)))))))))) (d,_)=>((Iter (xbi c a m b f n g) (e,r,d)).isSome,xbW c a m b f n g ((Iter (xbi c a m b f n g) (e,r,d)).getD (0,[])))
theorem xpe:LoopOk Tryz.prog (ITryz.at xcK.pin) xcK.nt (loopAt Tryz.f142 4) xf2:=xaY fun i j l k=>by
 obtain ⟨c,⟨a,⟨m,⟨b,⟨_,⟨e,⟨n,⟨f,⟨r,⟨g,_⟩⟩⟩⟩⟩⟩⟩⟩⟩⟩:=i
 obtain ⟨d,_⟩:=j
 obtain ⟨h,rfl⟩:=Prod.mk.inj k
 exact xaG mxTryz (inv0Ok Tryz.prog _) rfl xqB xm8 (xci c a m b e n g) (xbW c a m b e n g) (fun p=>by simp only [xbW,LR.eval];first|(simp;done)|(repeat' split<;>simp)) (xqD c a m b e n g) (s:=(f,r,d)) (xab h)
def xgS (R:Nat→Int→Int→Int→LA→Option (LA)):LA→List Box→Option (Bool×AV×List Box):=omOf (sCons (sEq (pOsl 0 0 0)) (sCons (sEq (pInt .i64)) (sCons (sEq (pInt .i64)) (sCons (sEq (pInt .i64)) (sCons (sEq (pFunc (93:FuncId) pNil)) sNil))))) (pCons (pBox 0 2 (83:TypeId) false true pAny) pNil) fun (n,(a,(m,(b,(_,_))))) (c,_)=>((R n a m b c).isSome,(AV.tuple [],([⟨0,2,83,((R n a m b c).getD []),false,true⟩]:List Box)))
def xax (R:Nat→Int→Int→Int→LA→Option (LA)):Env:=(xub.withM 142 (xgS R)).fn 220 1 (lsOf [83]) (lpsOf [(3,xbv),(9,xb6),(15,xc4),(21,xd7),(33,xf2)])
def xgf (R:Nat→Int→Int→Int→LA→Option (LA)):Prop:=OmOk Tryz.prog ITryz 142 (xgS R)
theorem xpP (R:Nat→Int→Int→Int→LA→Option (LA)) (a:xgf R):OrcOk Tryz.prog (ITryz.at 1) (xax R):=(xox.withM a).fn
theorem xok (R:Nat→Int→Int→Int→LA→Option (LA)):LoOk Tryz.prog (ITryz.at (xax R).pin) (xax R) (Tryz.f142.body.getD .skip):=xaP (ls:=[loopAt Tryz.f142 0,loopAt Tryz.f142 1,loopAt Tryz.f142 2,loopAt Tryz.f142 3,loopAt Tryz.f142 4]) (by kernel_rfl) (fun l b lp a=>by
 simp only [List.mem_cons,List.not_mem_nil,or_false] at b
 rcases b with rfl|rfl|rfl|rfl|rfl
 · rw [show (xax R).lp (codeId (loopAt Tryz.f142 0))=some xbv by kernel_rfl] at a
   simp only [Option.some.injEq] at a;subst a;exact xpj
 · rw [show (xax R).lp (codeId (loopAt Tryz.f142 1))=some xb6 by kernel_rfl] at a
   simp only [Option.some.injEq] at a;subst a;exact xpm
 · rw [show (xax R).lp (codeId (loopAt Tryz.f142 2))=some xc4 by kernel_rfl] at a
   simp only [Option.some.injEq] at a;subst a;exact xpq
 · rw [show (xax R).lp (codeId (loopAt Tryz.f142 3))=some xd7 by kernel_rfl] at a
   simp only [Option.some.injEq] at a;subst a;exact xpr
 · rw [show (xax R).lp (codeId (loopAt Tryz.f142 4))=some xf2 by kernel_rfl] at a
   simp only [Option.some.injEq] at a;subst a;exact xpe)
def xaa (a b:Int):=i64.wrap ((u64.wrap (i64.wrap (a+b))).fdiv 2)
def xaB (n:Nat) (a m:Int) (b:LA):=Iter (xbG n ((Iter (xa3 n m) (a,m,b)).getD (0,[])).fst) (m,((Iter (xa3 n m) (a,m,b)).getD (0,[])).snd)
def xaE (n:Nat) (a m b:Int) (c:LA):=Iter (xbL n ((Iter (xa4 n a) (m,b,c)).getD (0,[])).fst) (a,((Iter (xa4 n a) (m,b,c)).getD (0,[])).snd)
def xaA (n:Nat) (a m b:Int) (c:LA):=Iter (xbi n a m b (xaa a b) (i64.wrap (xaa a b+m)) (i64.wrap (i64.wrap (xaa a b+m) - 1))) (i64.wrap (i64.wrap (xaa a b+m) - b),xaa a b,c)
def xaD (n:Nat) (a m b:Int) (c:LA):=Iter (xbi n a m b (xaa a b) (i64.wrap (xaa a b+m)) (i64.wrap (i64.wrap (xaa a b+m) - 1))) (a,m,c)
def xay (n:Nat) (a m b:Int) (c:LA):=(xaA n a m b c).getD (0,[])
def xaC (n:Nat) (a m b:Int) (c:LA):=(xaD n a m b c).getD (0,[])
def xag (n:Nat) (a m b:Int) (c:LA):=(xay n a m b c).fst
def xah (n:Nat) (a m b:Int) (c:LA):=(xaC n a m b c).fst
def xac (n:Nat) (a m b:Int) (c:LA):=(xay n a m b c).snd
def xad (n:Nat) (a m b:Int) (c:LA):=(xaC n a m b c).snd
def xae (n:Nat) (a m b:Int) (c:LA):=i64.wrap (i64.wrap (xaa a b+m) - xag n a m b c)
def xaf (n:Nat) (a m b:Int) (c:LA):=i64.wrap (i64.wrap (xaa a b+m) - xah n a m b c)
def xar (n:Nat) (a m b:Int) (c:LA):=decide (xag n a m b c<xaa a b)
def xat (n:Nat) (a m b:Int) (c:LA):=decide (a<xag n a m b c)
def xau (n:Nat) (a m b:Int) (c:LA):=decide (xah n a m b c<xaa a b)
def xas (n:Nat) (a m b:Int) (c:LA):=decide (a<xah n a m b c)
def xan (n:Nat) (a m b:Int) (c:LA):=decide (xaa a b<xae n a m b c)
def xam (n:Nat) (a m b:Int) (c:LA):=decide (xae n a m b c<b)
def xao (n:Nat) (a m b:Int) (c:LA):=decide (xaa a b<xaf n a m b c)
def xal (n:Nat) (a m b:Int) (c:LA):=decide (xaf n a m b c<b)
def xai (n:Nat) (a m b:Int) (c:LA):=(xba n (xag n a m b c) m (xae n a m b c) (xac n a m b c)).getD []
def xaj (n:Nat) (a m b:Int) (c:LA):=(xba n (xah n a m b c) m (xaf n a m b c) (xad n a m b c)).getD []
def xaz (R:Nat→Int→Int→Int→LA→Option (LA)) (n:Nat) (a m b:Int) (c:LA):Option (LA):=R n (xaa a b) (xae n a m b c) b ((R n a (xag n a m b c) (xaa a b) (xai n a m b c)).getD [])
def xaw (R:Nat→Int→Int→Int→LA→Option (LA)) (n:Nat) (a m b:Int) (c:LA):Option (LA):=R n (xaa a b) (xaf n a m b c) b ((R n a (xah n a m b c) (xaa a b) (xaj n a m b c)).getD [])
def xaF {T:Type} (R:Nat→Int→Int→Int→LA→Option (LA)) (n:Nat) (a m b:Int) (c:LA) (δ:T) (κ:LA→T):T:=br (i64.wrap (m - a)==1) (br ((Iter (xa4 n a) (m,b,c)).isSome) (br ((xaE n a m b c).isSome) (κ ((xaE n a m b c).getD [])) δ) δ) (br (i64.wrap (b - m)==1) (br ((Iter (xa3 n m) (a,m,c)).isSome) (br ((xaB n a m c).isSome) (κ ((xaB n a m c).getD [])) δ) δ) (br (decide (m>xaa a b)) (br ((xaA n a m b c).isSome) (br (decide (xag n a m b c<m)) (br (decide (m<xae n a m b c)) (br ((xba n (xag n a m b c) m (xae n a m b c) (xac n a m b c)).isSome) (br (xat n a m b c) (br (xar n a m b c) (br ((R n a (xag n a m b c) (xaa a b) (xai n a m b c)).isSome) (br (xan n a m b c) (br (xam n a m b c) (br ((xaz R n a m b c).isSome) (κ ((xaz R n a m b c).getD [])) δ) (κ ((R n a (xag n a m b c) (xaa a b) (xai n a m b c)).getD []))) (κ ((R n a (xag n a m b c) (xaa a b) (xai n a m b c)).getD []))) δ) (br (xan n a m b c) (br (xam n a m b c) (br ((R n (xaa a b) (xae n a m b c) b (xai n a m b c)).isSome) (κ ((R n (xaa a b) (xae n a m b c) b (xai n a m b c)).getD [])) δ) (κ (xai n a m b c))) (κ (xai n a m b c)))) (br (xan n a m b c) (br (xam n a m b c) (br ((R n (xaa a b) (xae n a m b c) b (xai n a m b c)).isSome) (κ ((R n (xaa a b) (xae n a m b c) b (xai n a m b c)).getD [])) δ) (κ (xai n a m b c))) (κ (xai n a m b c)))) δ) (br (xat n a m b c) (br (xar n a m b c) (br ((R n a (xag n a m b c) (xaa a b) (xac n a m b c)).isSome) (br (xan n a m b c) (br (xam n a m b c) (br ((R n (xaa a b) (xae n a m b c) b ((R n a (xag n a m b c) (xaa a b) (xac n a m b c)).getD [])).isSome) (κ ((R n (xaa a b) (xae n a m b c) b ((R n a (xag n a m b c) (xaa a b) (xac n a m b c)).getD [])).getD [])) δ) (κ ((R n a (xag n a m b c) (xaa a b) (xac n a m b c)).getD []))) (κ ((R n a (xag n a m b c) (xaa a b) (xac n a m b c)).getD []))) δ) (br (xan n a m b c) (br (xam n a m b c) (br ((R n (xaa a b) (xae n a m b c) b (xac n a m b c)).isSome) (κ ((R n (xaa a b) (xae n a m b c) b (xac n a m b c)).getD [])) δ) (κ (xac n a m b c))) (κ (xac n a m b c)))) (br (xan n a m b c) (br (xam n a m b c) (br ((R n (xaa a b) (xae n a m b c) b (xac n a m b c)).isSome) (κ ((R n (xaa a b) (xae n a m b c) b (xac n a m b c)).getD [])) δ) (κ (xac n a m b c))) (κ (xac n a m b c))))) (br (xat n a m b c) (br (xar n a m b c) (br ((R n a (xag n a m b c) (xaa a b) (xac n a m b c)).isSome) (br (xan n a m b c) (br (xam n a m b c) (br ((R n (xaa a b) (xae n a m b c) b ((R n a (xag n a m b c) (xaa a b) (xac n a m b c)).getD [])).isSome) (κ ((R n (xaa a b) (xae n a m b c) b ((R n a (xag n a m b c) (xaa a b) (xac n a m b c)).getD [])).getD [])) δ) (κ ((R n a (xag n a m b c) (xaa a b) (xac n a m b c)).getD []))) (κ ((R n a (xag n a m b c) (xaa a b) (xac n a m b c)).getD []))) δ) (br (xan n a m b c) (br (xam n a m b c) (br ((R n (xaa a b) (xae n a m b c) b (xac n a m b c)).isSome) (κ ((R n (xaa a b) (xae n a m b c) b (xac n a m b c)).getD [])) δ) (κ (xac n a m b c))) (κ (xac n a m b c)))) (br (xan n a m b c) (br (xam n a m b c) (br ((R n (xaa a b) (xae n a m b c) b (xac n a m b c)).isSome) (κ ((R n (xaa a b) (xae n a m b c) b (xac n a m b c)).getD [])) δ) (κ (xac n a m b c))) (κ (xac n a m b c))))) δ) (br ((xaD n a m b c).isSome) (br (decide (xah n a m b c<m)) (br (decide (m<xaf n a m b c)) (br ((xba n (xah n a m b c) m (xaf n a m b c) (xad n a m b c)).isSome) (br (xas n a m b c) (br (xau n a m b c) (br ((R n a (xah n a m b c) (xaa a b) (xaj n a m b c)).isSome) (br (xao n a m b c) (br (xal n a m b c) (br ((xaw R n a m b c).isSome) (κ ((xaw R n a m b c).getD [])) δ) (κ ((R n a (xah n a m b c) (xaa a b) (xaj n a m b c)).getD []))) (κ ((R n a (xah n a m b c) (xaa a b) (xaj n a m b c)).getD []))) δ) (br (xao n a m b c) (br (xal n a m b c) (br ((R n (xaa a b) (xaf n a m b c) b (xaj n a m b c)).isSome) (κ ((R n (xaa a b) (xaf n a m b c) b (xaj n a m b c)).getD [])) δ) (κ (xaj n a m b c))) (κ (xaj n a m b c)))) (br (xao n a m b c) (br (xal n a m b c) (br ((R n (xaa a b) (xaf n a m b c) b (xaj n a m b c)).isSome) (κ ((R n (xaa a b) (xaf n a m b c) b (xaj n a m b c)).getD [])) δ) (κ (xaj n a m b c))) (κ (xaj n a m b c)))) δ) (br (xas n a m b c) (br (xau n a m b c) (br ((R n a (xah n a m b c) (xaa a b) (xad n a m b c)).isSome) (br (xao n a m b c) (br (xal n a m b c) (br ((R n (xaa a b) (xaf n a m b c) b ((R n a (xah n a m b c) (xaa a b) (xad n a m b c)).getD [])).isSome) (κ ((R n (xaa a b) (xaf n a m b c) b ((R n a (xah n a m b c) (xaa a b) (xad n a m b c)).getD [])).getD [])) δ) (κ ((R n a (xah n a m b c) (xaa a b) (xad n a m b c)).getD []))) (κ ((R n a (xah n a m b c) (xaa a b) (xad n a m b c)).getD []))) δ) (br (xao n a m b c) (br (xal n a m b c) (br ((R n (xaa a b) (xaf n a m b c) b (xad n a m b c)).isSome) (κ ((R n (xaa a b) (xaf n a m b c) b (xad n a m b c)).getD [])) δ) (κ (xad n a m b c))) (κ (xad n a m b c)))) (br (xao n a m b c) (br (xal n a m b c) (br ((R n (xaa a b) (xaf n a m b c) b (xad n a m b c)).isSome) (κ ((R n (xaa a b) (xaf n a m b c) b (xad n a m b c)).getD [])) δ) (κ (xad n a m b c))) (κ (xad n a m b c))))) (br (xas n a m b c) (br (xau n a m b c) (br ((R n a (xah n a m b c) (xaa a b) (xad n a m b c)).isSome) (br (xao n a m b c) (br (xal n a m b c) (br ((R n (xaa a b) (xaf n a m b c) b ((R n a (xah n a m b c) (xaa a b) (xad n a m b c)).getD [])).isSome) (κ ((R n (xaa a b) (xaf n a m b c) b ((R n a (xah n a m b c) (xaa a b) (xad n a m b c)).getD [])).getD [])) δ) (κ ((R n a (xah n a m b c) (xaa a b) (xad n a m b c)).getD []))) (κ ((R n a (xah n a m b c) (xaa a b) (xad n a m b c)).getD []))) δ) (br (xao n a m b c) (br (xal n a m b c) (br ((R n (xaa a b) (xaf n a m b c) b (xad n a m b c)).isSome) (κ ((R n (xaa a b) (xaf n a m b c) b (xad n a m b c)).getD [])) δ) (κ (xad n a m b c))) (κ (xad n a m b c)))) (br (xao n a m b c) (br (xal n a m b c) (br ((R n (xaa a b) (xaf n a m b c) b (xad n a m b c)).isSome) (κ ((R n (xaa a b) (xaf n a m b c) b (xad n a m b c)).getD [])) δ) (κ (xad n a m b c))) (κ (xad n a m b c))))) δ)))
def xav (R:Nat→Int→Int→Int→LA→Option (LA)) (n:Nat) (a m b:Int) (c:LA):Option (LA):=xaF R n a m b c none some
theorem xss (R:Nat→Int→Int→Int→LA→Option (LA)) (n:Nat) (a m b:Int) (xs:LA):Enc (fun (p:LA)=>(((AV.tuple [],([⟨0,2,83,p,false,true⟩]:List Box))):(AV×List Box))) (xav R n a m b xs) (XFM Tryz.prog (xax R) Tryz.f142 (Tryz.f142.body.getD .skip) [AV.osl (0:Id) 0 0 n,AV.int .i64 a,AV.int .i64 m,AV.int .i64 b,AV.func (93:FuncId) []] [{ ver:=0,sz:=2,ty:=(83:TypeId),xs:=xs,frz:=false,pm:=true }]):=by
 refine eV (xaF R n a m b xs none (fun (p:LA)=>some (((AV.tuple [],([⟨0,2,83,p,false,true⟩]:List Box))):(AV×List Box)))) (by kernel_rfl) ?_;unfold xav xaF;repeat' first|exact eN|exact eS rfl|apply eB
def xsg (R:Nat→Int→Int→Int→LA→Option (LA)):LA→List Box→Option (Bool×AV×List Box):=omOf (sCons (sEq (pOsl 0 0 0)) (sCons (sEq (pInt .i64)) (sCons (sEq (pInt .i64)) (sCons (sEq (pInt .i64)) (sCons (sEq (pFunc (93:FuncId) pNil)) sNil))))) (pCons (pBox 0 2 (83:TypeId) false true pAny) pNil) fun (n,(a,(m,(b,(_,_))))) (c,_)=>((xav R n a m b c).isSome,((AV.tuple [],([⟨0,2,83,((xav R n a m b c).getD []),false,true⟩]:List Box))))
theorem xsm (R:Nat→Int→Int→Int→LA→Option (LA)) (f:xgf R):OmOk Tryz.prog ITryz 142 (xsg R):=xfQ fun g h k j i=>by
 obtain ⟨n,⟨a,⟨m,⟨b,⟨_,_⟩⟩⟩⟩⟩:=g
 obtain ⟨l,_⟩:=h
 obtain ⟨c,e⟩:=Prod.mk.inj i
 refine xdv (p:=(xax R).pin) (xdZ mxTryz (inv0Ok Tryz.prog _) rfl (xpP R f) rfl Tryz.func142 rfl (by kernel_rfl) (xok R) ((xss R _ _ _ _ _ _ (xab (d:=[]) c)).trans ?_))
 exact congrArg some e
def xaS:Nat→Nat→Int→Int→Int→LA→Option (LA)
 | 0=>fun _ _ _ _ _=>none
 | fu_+1=>fun n a m b c=>xav (xaS fu_) n a m b c
theorem xkv:∀ n,xgf (xaS n)
 | 0=>xfQ fun _ _ _ _ h=>absurd (Prod.mk.inj h).1 Bool.false_ne_true
 | fu_+1=>fun a H r b h=>xsm (xaS fu_) (xkv fu_) a H r b h
def xAM:Env:=xub.withM 142 (xgS (xaS 1000))
theorem xtd:OrcOk Tryz.prog ITryz xAM:=xox.withM (xkv _)
def xde:Env:=xAM.fn 63 1 (lsOf [83]) (lpsOf [])
theorem xq5:OrcOk Tryz.prog (ITryz.at 1) xde:=xtd.fn
theorem xn7:LoOk Tryz.prog (ITryz.at xde.pin) xde (loopAt Tryz.f119 0):=xaq (by kernel_rfl)
def xhw {T:Type} (d:Nat) (n e a b:Int) (c:LA) (δ:T) (κl:(Int×Int×LA)→T) (κr:(Int×LA)→T):T:=br (decide (b≤n)) (br ((xaX d a b c).isSome) (κl (b,i64.wrap (b+e),(xaX d a b c).getD [])) δ) (κr (a,c))
def xa7 (e:Nat) (n c:Int):(Int×Int×LA)→Option ((Int×Int×LA)⊕(Int×LA)):=fun (a,b,d)=>xhw e n c a b d none (fun s=>some (.inl s)) (fun p=>some (.inr p))
def xcO (e:Nat) (n c:Int):(Int×Int×LA)→LA×List Box:=fun (a,b,d)=>([AV.osl 0 0 0 e,AV.int .i64 n,AV.func 93 [],AV.int .i64 c,AV.int .i64 a,AV.int .i64 b],[⟨0,2,83,d,false,true⟩])
def xco (b:Nat) (n a:Int):(Int×LA)→LR:=fun p=>(.leaf (.exit 0) [AV.osl 0 0 0 b,AV.int .i64 n,AV.func 93 [],AV.int .i64 a,AV.int .i64 p.1] [⟨0,2,83,p.2,false,true⟩])
abbrev xrJ (a:LA) (H:List Box):=XR Tryz.prog xde [0,1,2,6,7,8] [0,1,2,6,7] [] (loopAt Tryz.f119 0) a H
theorem xrE (d:Nat) (n c:Int) (s:Int×Int×LA):Enc (encR (xcO d n c) (xco d n c)) (xa7 d n c s) (xrJ (xcO d n c s).1 (xcO d n c s).2):=by
 obtain ⟨a,b,e⟩:=s
 refine eV (xhw d n c a b e none (fun s=>some (encR (xcO d n c) (xco d n c) (.inl s))) (fun p=>some (encR (xcO d n c) (xco d n c) (.inr p)))) (by kernel_rfl) ?_;unfold xa7 xhw;repeat' first|exact eN|exact eS rfl|apply eB
def xeI:Lp:=lpOf [0,1,2,6,7,8] [0,1,2,6,7] [] (pCons (pOsl 0 0 0) (pCons (pInt .i64) (pCons (pFunc 93 pNil) (pCons (pInt .i64) (pCons (pInt .i64) (pCons (pInt .i64) pNil)))))) (pCons (pBox 0 2 83 false true pAny) pNil) fun (d,(n,(_,(c,(a,(b,_)))))) (e,_)=>((Iter (xa7 d n c) (a,b,e)).isSome,xco d n c ((Iter (xa7 d n c) (a,b,e)).getD (0,[])))
theorem xqK:LoopOk Tryz.prog (ITryz.at xde.pin) xde.nt (loopAt Tryz.f119 0) xeI:=xaY fun g h j i=>by
 obtain ⟨d,⟨n,⟨_,⟨c,⟨a,⟨b,_⟩⟩⟩⟩⟩⟩:=g
 obtain ⟨e,_⟩:=h
 obtain ⟨f,rfl⟩:=Prod.mk.inj i
 exact xaG mxTryz (inv0Ok Tryz.prog _) rfl xq5 xn7 (xcO d n c) (xco d n c) (fun p=>by simp only [xco,LR.eval];first|(simp;done)|(repeat' split<;>simp)) (xrE d n c) (s:=(a,b,e)) (xab f)
def xdb:Env:=xAM.fn 63 1 (lsOf [83]) (lpsOf [(2,xeI)])
theorem xrc:OrcOk Tryz.prog (ITryz.at 1) xdb:=xtd.fn
theorem xod:LoOk Tryz.prog (ITryz.at xdb.pin) xdb (loopAt Tryz.f119 2):=xaq (by kernel_rfl)
def xhp {T:Type} (e:Nat) (n c a b:Int) (d:LA) (δ:T) (κl:(Int×Int×LA)→T) (κr:(Int×LA)→T):T:=br (decide (b≤n)) (br ((xaS 1000 e a (i64.wrap (a+c)) b d).isSome) (κl (b,i64.wrap (b+i64.wrap (2*c)),(xaS 1000 e a (i64.wrap (a+c)) b d).getD [])) δ) (κr (a,d))
def xbu (e:Nat) (n c:Int):(Int×Int×LA)→Option ((Int×Int×LA)⊕(Int×LA)):=fun (a,b,d)=>xhp e n c a b d none (fun s=>some (.inl s)) (fun p=>some (.inr p))
def xcR (e:Nat) (n c:Int):(Int×Int×LA)→LA×List Box:=fun (a,b,d)=>([AV.osl 0 0 0 e,AV.int .i64 n,AV.func 93 [],AV.int .i64 c,AV.int .i64 a,AV.int .i64 b],[⟨0,2,83,d,false,true⟩])
def xcp (b:Nat) (n a:Int):(Int×LA)→LR:=fun p=>(.leaf (.exit 4) [AV.osl 0 0 0 b,AV.int .i64 n,AV.func 93 [],AV.int .i64 a,AV.int .i64 p.1] [⟨0,2,83,p.2,false,true⟩])
abbrev xrX (a:LA) (H:List Box):=XR Tryz.prog xdb [0,1,2,6,7,8] [0,1,2,6,7] [] (loopAt Tryz.f119 2) a H
theorem xrL (d:Nat) (n c:Int) (s:Int×Int×LA):Enc (encR (xcR d n c) (xcp d n c)) (xbu d n c s) (xrX (xcR d n c s).1 (xcR d n c s).2):=by
 obtain ⟨a,b,e⟩:=s
 refine eV (xhp d n c a b e none (fun s=>some (encR (xcR d n c) (xcp d n c) (.inl s))) (fun p=>some (encR (xcR d n c) (xcp d n c) (.inr p)))) (by kernel_rfl) ?_;unfold xbu xhp;repeat' first|exact eN|exact eS rfl|apply eB
def xg2:Lp:=lpOf [0,1,2,6,7,8] [0,1,2,6,7] [] (pCons (pOsl 0 0 0) (pCons (pInt .i64) (pCons (pFunc 93 pNil) (pCons (pInt .i64) (pCons (pInt .i64) (pCons (pInt .i64) pNil)))))) (pCons (pBox 0 2 83 false true pAny) pNil) fun (d,(n,(_,(c,(a,(b,_)))))) (e,_)=>((Iter (xbu d n c) (a,b,e)).isSome,xcp d n c ((Iter (xbu d n c) (a,b,e)).getD (0,[])))
theorem xks:LoopOk Tryz.prog (ITryz.at xdb.pin) xdb.nt (loopAt Tryz.f119 2) xg2:=xaY fun g h j i=>by
 obtain ⟨d,⟨n,⟨_,⟨c,⟨a,⟨b,_⟩⟩⟩⟩⟩⟩:=g
 obtain ⟨e,_⟩:=h
 obtain ⟨f,rfl⟩:=Prod.mk.inj i
 exact xaG mxTryz (inv0Ok Tryz.prog _) rfl xrc xod (xcR d n c) (xcp d n c) (fun p=>by simp only [xcp,LR.eval];first|(simp;done)|(repeat' split<;>simp)) (xrL d n c) (s:=(a,b,e)) (xab f)
def xdg:Env:=xAM.fn 63 1 (lsOf [83]) (lpsOf [(2,xeI),(9,xg2)])
theorem xq7:OrcOk Tryz.prog (ITryz.at 1) xdg:=xtd.fn
theorem xoe:LoOk Tryz.prog (ITryz.at xdg.pin) xdg (loopAt Tryz.f119 1):=xaP (ls:=[loopAt Tryz.f119 2]) (by kernel_rfl) (lkC xks lkN)
def xeN (c:Nat) (n a:Int) (b:LA):=Iter (xbu c n a) (0,i64.wrap (2*a),b)
def xeB (c:Nat) (n a:Int) (b:LA):=(xeN c n a b).getD (0,[])
def xeJ (c:Nat) (n a:Int) (b:LA):=(xeB c n a b).snd
def xez (c:Nat) (n a:Int) (b:LA):=(xeB c n a b).fst
def xeA (c:Nat) (n a:Int) (b:LA):=i64.wrap (xez c n a b+a)
def xeC (b:Nat) (n a:Int) (c:LA):=xaS 1000 b (xez b n a c) (xeA b n a c) n (xeJ b n a c)
def xcL {T:Type} (c:Nat) (n a:Int) (b:LA) (δ:T) (κl:(Int×LA)→T) (κr:(LA)→T):T:=br (decide (a<n)) (br ((xeN c n a b).isSome) (br (decide (xeA c n a b<n)) (br ((xeC c n a b).isSome) (κl (i64.wrap (a*2),(xeC c n a b).getD [])) δ) (κl (i64.wrap (a*2),xeJ c n a b))) δ) (κr (b))
def xaT (c:Nat) (n:Int):(Int×LA)→Option ((Int×LA)⊕(LA)):=fun (a,b)=>xcL c n a b none (fun s=>some (.inl s)) (fun p=>some (.inr p))
def xcU (c:Nat) (n:Int):(Int×LA)→LA×List Box:=fun (a,b)=>([AV.osl 0 0 0 c,AV.int .i64 n,AV.func 93 [],AV.int .i64 a],[⟨0,2,83,b,false,true⟩])
def xcl (a:Nat) (n:Int):(LA)→LR:=fun p=>(.leaf (.exit 2) [] [⟨0,2,83,p,false,true⟩])
abbrev xrY (a:LA) (H:List Box):=XR Tryz.prog xdg [0,1,2,6] [] [] (loopAt Tryz.f119 1) a H
theorem xr0 (a:Nat) (n:Int) (s:Int×LA):Enc (encR (xcU a n) (xcl a n)) (xaT a n s) (xrY (xcU a n s).1 (xcU a n s).2):=by
 obtain ⟨b,c⟩:=s
 refine eV (xcL a n b c none (fun s=>some (encR (xcU a n) (xcl a n) (.inl s))) (fun p=>some (encR (xcU a n) (xcl a n) (.inr p)))) (by kernel_rfl) ?_;unfold xaT xcL;repeat' first|exact eN|exact eS rfl|apply eB
def xk5:Lp:=lpOf [0,1,2,6] [] [] (pCons (pOsl 0 0 0) (pCons (pInt .i64) (pCons (pFunc 93 pNil) (pCons (pInt .i64) pNil)))) (pCons (pBox 0 2 83 false true pAny) pNil) fun (b,(n,(_,(a,_)))) (c,_)=>((Iter (xaT b n) (a,c)).isSome,xcl b n ((Iter (xaT b n) (a,c)).getD []))
theorem xqI:LoopOk Tryz.prog (ITryz.at xdg.pin) xdg.nt (loopAt Tryz.f119 1) xk5:=xaY fun e f h g=>by
 obtain ⟨a,⟨n,⟨_,⟨b,_⟩⟩⟩⟩:=e
 obtain ⟨c,_⟩:=f
 obtain ⟨d,rfl⟩:=Prod.mk.inj g
 exact xaG mxTryz (inv0Ok Tryz.prog _) rfl xq7 xoe (xcU a n) (xcl a n) (fun p=>by simp only [xcl,LR.eval];first|(simp;done)|(repeat' split<;>simp)) (xr0 a n) (s:=(b,c)) (xab d)
def xeb:Env:=xAM.fn 63 1 (lsOf [83]) (lpsOf [(2,xeI),(9,xg2),(7,xk5)])
theorem xq9:OrcOk Tryz.prog (ITryz.at 1) xeb:=xtd.fn
theorem xpp:LoOk Tryz.prog (ITryz.at xeb.pin) xeb (Tryz.f119.body.getD .skip):=xaP (ls:=[loopAt Tryz.f119 0,loopAt Tryz.f119 1,loopAt Tryz.f119 2]) (by kernel_rfl) (lkC xqK (lkC xqI (lkC xks lkN)))
def xiy (n:Nat) (k:Int) (a:LA):=(Iter (xa7 n k 20) (0,20,a)).getD (0,[])
def xiA (n:Nat) (k:Int) (a:LA):=xaX n (xiy n k a).fst k (xiy n k a).snd
def xiv (n:Nat) (k:Int) (a:LA):=Iter (xaT n k) (20,(xiA n k a).getD [])
def xgg {T:Type} (n:Nat) (k:Int) (a:LA) (δ:T) (κ:LA→T):T:=br ((Iter (xa7 n k 20) (0,20,a)).isSome) (br ((xiA n k a).isSome) (br ((xiv n k a).isSome) (κ ((xiv n k a).getD [])) δ) δ) δ
def xcB (n:Nat) (k:Int) (a:LA):Option (LA):=xgg n k a none some
theorem xty (n:Nat) (k:Int) (xs:LA):Enc (fun (p:LA)=>(((AV.tuple [],([⟨0,2,83,p,false,true⟩]:List Box))):(AV×List Box))) (xcB n k xs) (XFM Tryz.prog xeb Tryz.f119 (Tryz.f119.body.getD .skip) [AV.osl (0:Id) 0 0 n,AV.int .i64 k,AV.func (93:FuncId) []] [{ ver:=0,sz:=2,ty:=(83:TypeId),xs:=xs,frz:=false,pm:=true }]):=by
 refine eV (xgg n k xs none (fun (p:LA)=>some (((AV.tuple [],([⟨0,2,83,p,false,true⟩]:List Box))):(AV×List Box)))) (by kernel_rfl) ?_;unfold xcB xgg;repeat' first|exact eN|exact eS rfl|apply eB
def xms:LA→List Box→Option (Bool×AV×List Box):=omOf (sCons (sEq (pOsl 0 0 0)) (sCons (sEq (pInt .i64)) (sCons (sEq (pFunc (93:FuncId) pNil)) sNil))) (pCons (pBox 0 2 (83:TypeId) false true pAny) pNil) fun (n,(k,(_,_))) (a,_)=>((xcB n k a).isSome,((AV.tuple [],([⟨0,2,83,((xcB n k a).getD []),false,true⟩]:List Box))))
theorem xtc:OmOk Tryz.prog ITryz 119 (xms):=xfQ fun c e h g f=>by
 obtain ⟨n,⟨k,⟨_,_⟩⟩⟩:=c
 obtain ⟨i,_⟩:=e
 obtain ⟨a,b⟩:=Prod.mk.inj f
 refine xdv (p:=xeb.pin) (xdZ mxTryz (inv0Ok Tryz.prog _) rfl xq9 rfl Tryz.func119 rfl (by kernel_rfl) xpp ((xty _ _ _ _ (xab (d:=[]) a)).trans ?_))
 exact congrArg some b
def xKI:Env:=xAM.withM 119 xms
theorem xHB:OrcOk Tryz.prog ITryz xKI:=xtd.withM xtc
def xdI:Env:=xKI.fn 9 1 (lsOf [83]) (lpsOf [])
theorem xqP:OrcOk Tryz.prog (ITryz.at 1) xdI:=xHB.fn
theorem xpg:LoOk Tryz.prog (ITryz.at xdI.pin) xdI (Tryz.f92.body.getD .skip):=xaq (by kernel_rfl)
def xfY {T:Type} (n:Nat) (a:LA) (δ:T) (κ:LA→T):T:=br ((xcB n (↑n:Int) a).isSome) (κ ((xcB n (↑n:Int) a).getD [])) δ
def xcX (n:Nat) (a:LA):Option (LA):=xfY n a none some
theorem xsZ (n:Nat) (xs:LA):Enc (fun (p:LA)=>(((AV.tuple [],([⟨0,2,83,p,false,true⟩]:List Box))):(AV×List Box))) (xcX n xs) (XFM Tryz.prog xdI Tryz.f92 (Tryz.f92.body.getD .skip) [AV.osl (0:Id) 0 0 n,AV.func (93:FuncId) []] [{ ver:=0,sz:=2,ty:=(83:TypeId),xs:=xs,frz:=false,pm:=true }]):=by
 refine eV (xfY n xs none (fun (p:LA)=>some (((AV.tuple [],([⟨0,2,83,p,false,true⟩]:List Box))):(AV×List Box)))) (by kernel_rfl) ?_;unfold xcX xfY;repeat' first|exact eN|exact eS rfl|apply eB
def xma:LA→List Box→Option (Bool×AV×List Box):=omOf (sCons (sEq (pOsl 0 0 0)) (sCons (sEq (pFunc (93:FuncId) pNil)) sNil)) (pCons (pBox 0 2 (83:TypeId) false true pAny) pNil) fun (n,(_,_)) (a,_)=>((xcX n a).isSome,((AV.tuple [],([⟨0,2,83,((xcX n a).getD []),false,true⟩]:List Box))))
theorem xsW:OmOk Tryz.prog ITryz 92 (xma):=xfQ fun c e h g f=>by
 obtain ⟨n,⟨_,_⟩⟩:=c
 obtain ⟨i,_⟩:=e
 obtain ⟨a,b⟩:=Prod.mk.inj f
 refine xdv (p:=xdI.pin) (xdZ mxTryz (inv0Ok Tryz.prog _) rfl xqP rfl Tryz.func92 rfl (by kernel_rfl) xpg ((xsZ _ _ _ (xab (d:=[]) a)).trans ?_))
 exact congrArg some b
def xHc:Env:=xKI.withM 92 xma
theorem xCo:OrcOk Tryz.prog ITryz xHc:=xHB.withM xsW
def xg5:Env:=xHc.fn 60 0 (lsOf []) (lpsOf [])
theorem xyT:OrcOk Tryz.prog (ITryz.at 0) xg5:=xCo.fn
theorem xt0:LoOk Tryz.prog (ITryz.at xg5.pin) xg5 (loopAt Tryz.f67 0):=xaq (by kernel_rfl)
def xfx (b:LA) (c:Int) (a:LA):=a++[AV.agg [AV.list 3 ((b.getD c.toNat .top).cells.getD 0 .top).toList,AV.list 2 []]]
def xc3 (a:Nat):Nat:=0+(↑a:Int).toNat
def xdB (a:LA) (b:Int):=(xf1 ((a.getD b.toNat .top).cells.getD 0 .top).toList).getD []
def xi9 (d:LA) (f:Int) (b:Nat) (e:Int) (c a:LA):=decide (xc3 b<(xfx d e a).length)
def xi5 (d:LA) (e:Int) (a:Nat) (f:Int) (b c:LA):=decide ((↑a:Int)<(↑(a+1):Int))
def xbN (c:LA) (b:Nat) (d:Int) (a:LA):=((xfx c d a).getD (xc3 b) .top).cells
def xir (a:LA) (b:Int):=decide ((xdB a b).length≤4611686018427387904)
def xgd (b:LA) (c:Int) (a:LA):=(mapGet (AV.int .i64 0) a (xdB b c)).toInt
def xi6 (c:LA) (b:Nat) (d:Int) (a:LA):=decide (0≤xgd c d a)&&decide (xgd c d a<(↑b:Int))
def xa8 (c:LA) (b:Nat) (d:Int) (a:LA):=((xbN c b d a).getD 1 .top).toList.length
def xaW (b:LA) (c:Int) (a:LA):Nat:=0+(xgd b c a).toNat
def xiz (a:LA) (d:Nat) (b:Int) (c:LA):=((xbN a d b c).getD 1 .top).toList++[AV.agg [AV.int .i64 ((a.getD b.toNat .top).cells.getD 1 .top).toInt,AV.int .i64 ((a.getD b.toNat .top).cells.getD 2 .top).toInt]]
def xgY (c:LA) (b:Nat) (d:Int) (a:LA):=(xfx c d a).set (xc3 b) (AV.agg (List.take 1 (xbN c b d a)++[AV.int .i64 (↑(xa8 c b d a):Int)]++List.drop 2 (xbN c b d a)))
def xi8 (c:LA) (d:Int) (a b:LA):=decide (xaW c d a<b.length)
def xa9 (c:LA) (d:Int) (a b:LA):=((b.getD (xaW c d a) .top).cells.getD 1 .top).toList.length
def xit (b:LA) (c:Int) (a d:LA):=((d.getD (xaW b c a) .top).cells.getD 1 .top).toList++[AV.agg [AV.int .i64 ((b.getD c.toNat .top).cells.getD 1 .top).toInt,AV.int .i64 ((b.getD c.toNat .top).cells.getD 2 .top).toInt]]
def xfm (c:LA) (a:Nat) (d:Int) (b:LA):=((xgY c a d b).getD (xc3 a) .top).cells
def xgX (c:LA) (d:Int) (a b:LA):=b.set (xaW c d a) (AV.agg (List.take 1 (b.getD (xaW c d a) .top).cells++[AV.int .i64 (↑(xa9 c d a b):Int)]++List.drop 2 (b.getD (xaW c d a) .top).cells))
def xff (c:LA) (d:Int) (a b:LA):=((xgX c d a b).getD (xaW c d a) .top).cells
def xes {T:Type} (d:LA) (f:Int) (e:Nat) (c:Int) (b a:LA) (δ:T) (κl:(Nat×Int×LA×LA)→T) (κr:(Nat×LA)→T):T:=br (decide (c<f)) (br (decide (0≤c)&&decide (c<d.length)) (br (decide (c.toNat<d.length)&&((d.getD c.toNat .top).cells.length==3&&hasShs [Sh.list 3,Sh.int .i64,Sh.int .i64] (d.getD c.toNat .top).cells 0)) (br (!xdm ((d.getD c.toNat .top).cells.getD 1 .top).toInt ((d.getD c.toNat .top).cells.getD 2 .top).toInt) (κl (e,i64.wrap (c+1),b,a)) (br ((xf1 ((d.getD c.toNat .top).cells.getD 0 .top).toList).isSome) (br (xir d c&&hasSh1 (Sh.int .i64) (mapGet (AV.int .i64 0) b (xdB d c))) (br (!mapHas b (xdB d c)) (br (decide (b.length<4611686018427387904)&&xir d c) (br (e==a.length&&(decide ((e+1)*48≤140737488355328)&&decide (e+1≤4611686018427387904))) (br (xi5 d f e c b a) (br (xi9 d f e c b a&&(isRow 2 ((xbN d e c a).getD 1 .top)&&(xbN d e c a).length==2)) (br (xi9 d f e c b a&&(isRow 2 ((xbN d e c a).getD 1 .top)&&((xbN d e c a).length==2&&(2*xa8 d e c a==2*xa8 d e c a&&(xa8 d e c a==xa8 d e c a&&(xa8 d e c a==xa8 d e c a&&(decide ((xa8 d e c a+1)*16≤140737488355328)&&decide (xa8 d e c a+1≤4611686018427387904)))))))) (br (xi5 d f e c b a) (br (decide (xc3 e<(xgY d e c a).length)&&((xfm d e c a).length==2&&(xa8 d e c a+1==(xiz d e c a).length&&deadLt ((xfm d e c a).getD 1 .top) (xa8 d e c a+1)))) (κl (e+1,i64.wrap (c+1),mapPut b (xdB d c) (AV.int .i64 (↑e:Int)),(xgY d e c a).set (xc3 e) (AV.agg (List.take 1 (xfm d e c a)++[AV.list 2 (xiz d e c a)]++List.drop 2 (xfm d e c a))))) δ) δ) δ) δ) δ) δ) δ) (br (xi6 d e c b) (br (xi8 d c b a&&(isRow 2 ((a.getD (xaW d c b) .top).cells.getD 1 .top)&&(a.getD (xaW d c b) .top).cells.length==2)) (br (xi8 d c b a&&(isRow 2 ((a.getD (xaW d c b) .top).cells.getD 1 .top)&&((a.getD (xaW d c b) .top).cells.length==2&&(2*xa9 d c b a==2*xa9 d c b a&&(xa9 d c b a==xa9 d c b a&&(xa9 d c b a==xa9 d c b a&&(decide ((xa9 d c b a+1)*16≤140737488355328)&&decide (xa9 d c b a+1≤4611686018427387904)))))))) (br (xi6 d e c b) (br (decide (xaW d c b<(xgX d c b a).length)&&((xff d c b a).length==2&&(xa9 d c b a+1==(xit d c b a).length&&deadLt ((xff d c b a).getD 1 .top) (xa9 d c b a+1)))) (κl (e,i64.wrap (c+1),b,(xgX d c b a).set (xaW d c b) (AV.agg (List.take 1 (xff d c b a)++[AV.list 2 (xit d c b a)]++List.drop 2 (xff d c b a))))) δ) δ) δ) δ) δ)) δ) δ)) δ) δ) (κr (e,a))
def xbm (d:LA) (e:Int):(Nat×Int×LA×LA)→Option ((Nat×Int×LA×LA)⊕(Nat×LA)):=fun (c,f,a,b)=>xes d e c f a b none (fun s=>some (.inl s)) (fun p=>some (.inr p))
def xfX (d:LA) (e:Int):(Nat×Int×LA×LA)→LA×List Box:=fun (c,f,a,b)=>([AV.own 0 0 0 0,AV.osl 1 0 0 c,AV.list 3 d,AV.int .i64 e,AV.int .i64 f],[⟨0,2,1208925819615080213381120,a,false,true⟩,⟨0,2,133280301139,b,false,true⟩])
def xeQ (a:LA) (b:Int):(Nat×LA)→LR:=fun p=>(.leaf (.exit 0) [AV.osl 0 0 0 p.1] [⟨0,2,133280301139,p.2,false,true⟩])
abbrev xAq (a:LA) (H:List Box):=XR Tryz.prog xg5 [3,4,11,12,13] [4] [(4,2,133280301139)] (loopAt Tryz.f67 0) a H
theorem xzm (a:LA) (b:Int) (s:Nat×Int×LA×LA):Enc (encR (xfX a b) (xeQ a b)) (xbm a b s) (xAq (xfX a b s).1 (xfX a b s).2):=by
 obtain ⟨e,f,c,d⟩:=s
 refine eV (xes a b e f c d none (fun s=>some (encR (xfX a b) (xeQ a b) (.inl s))) (fun p=>some (encR (xfX a b) (xeQ a b) (.inr p)))) (by kernel_rfl) ?_;unfold xbm xes;repeat' first|exact eN|exact eS rfl|apply eB
def xqX:Lp:=lpOf [3,4,11,12,13] [4] [(4,2,133280301139)] (pCons (pOwn 0 0 0 0) (pCons (pOsl 1 0 0) (pCons (pList 3 pAny) (pCons (pInt .i64) (pCons (pInt .i64) pNil))))) (pCons (pBox 0 2 1208925819615080213381120 false true pAny) (pCons (pBox 0 2 133280301139 false true pAny) pNil)) fun (_,(c,(d,(e,(f,_))))) (a,(b,_))=>((Iter (xbm d e) (c,f,a,b)).isSome,xeQ d e ((Iter (xbm d e) (c,f,a,b)).getD (0,[])))
theorem xw6:LoopOk Tryz.prog (ITryz.at xg5.pin) xg5.nt (loopAt Tryz.f67 0) xqX:=xaY fun h i k j=>by
 obtain ⟨_,⟨e,⟨b,⟨c,⟨f,_⟩⟩⟩⟩⟩:=h
 obtain ⟨a,⟨d,_⟩⟩:=i
 obtain ⟨g,rfl⟩:=Prod.mk.inj j
 exact xaG mxTryz (inv0Ok Tryz.prog _) rfl xyT xt0 (xfX b c) (xeQ b c) (fun p=>by simp only [xeQ,LR.eval];first|(simp;done)|(repeat' split<;>simp)) (xzm b c) (s:=(e,f,a,d)) (xab g)
def xiQ:Env:=xHc.fn 60 0 (lsOf []) (lpsOf [(4,xqX)])
theorem xy0:OrcOk Tryz.prog (ITryz.at 0) xiQ:=xCo.fn
theorem xvF:LoOk Tryz.prog (ITryz.at xiQ.pin) xiQ (Tryz.f67.body.getD .skip):=xaP (ls:=[loopAt Tryz.f67 0]) (by kernel_rfl) (lkC xw6 lkN)
def xoS (l:LA):=Iter (xbm l (↑l.length:Int)) (0,0,[],[])
def xoN (l:LA):=(xoS l).getD (0,[])
def xls (l:LA):=(xoN l).fst
def xo1 (l:LA):=(xoN l).snd
def xoJ (l:LA):=xcX (xls l) (xo1 l)
def xo2 (l:LA):=(xoJ l).getD []
def xmb {T:Type} (l:LA) (δ:T) (κ:LA→T):T:=br ((xoS l).isSome) (br (rowsAll 2 1 (xo1 l)) (br ((xoJ l).isSome) (br (decide (0+xls l≤(xo2 l).length)&&true) (κ (List.take (xls l) (List.drop 0 (xo2 l)))) δ) δ) δ) δ
def xfF (l:LA):Option (LA):=xmb l none some
theorem xDD (l:LA):Enc (fun (p:LA)=>((AV.list 2 p):AV)) (xfF l) (XF Tryz.prog xiQ Tryz.f67 (Tryz.f67.body.getD .skip) [AV.list 3 l]):=by
 refine eV (xmb l none (fun (p:LA)=>some ((AV.list 2 p):AV))) (by kernel_rfl) ?_;unfold xfF xmb;repeat' first|exact eN|exact eS rfl|apply eB
def xuj:LA→Option (Bool×AV):=ocOf (sCons (sList 3 pAny) sNil) fun (l,_)=>((xfF l).isSome,(AV.list 2 ((xfF l).getD [])))
theorem xDj:OcOk Tryz.prog ITryz 67 (xuj):=xaN fun c f e=>by
 obtain ⟨l,_⟩:=c
 obtain ⟨a,b⟩:=Prod.mk.inj e
 refine xaH (p:=xiQ.pin) (xaL mxTryz (inv0Ok Tryz.prog _) rfl xy0 Tryz.func67 rfl (by kernel_rfl) xvF ((xDD _ _ (xab (d:=[]) a)).trans ?_))
 exact congrArg some b
def xOF:Env:=xHc.with 67 xuj
theorem xNX:OrcOk Tryz.prog ITryz xOF:=xCo.with xDj
abbrev EKG:Env:=xOF
theorem xP9:OrcOk Tryz.prog ITryz EKG:=xNX
end Go.Sim.M
end
