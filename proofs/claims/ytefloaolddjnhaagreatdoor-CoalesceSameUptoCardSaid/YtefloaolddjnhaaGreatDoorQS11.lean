/- Part 11 of the proof: Clone, Pat, E0, PatN, K1, K2, K3, KG. -/
import Derived.Test.YtefloaolddjnhaaGreatDoorQS10
import Derived.Deep.LoopGhost
import Derived.Lib.SliceRun
set_option linter.unusedVariables false
set_option linter.unusedSimpArgs false
set_option linter.unnecessarySimpa false
set_option linter.unusedSectionVars false
noncomputable section
namespace Go.Proofs
open Go.RowKit Go.Lib Go.Shelf
set_option maxHeartbeats 2000000 in
set_option maxRecDepth 100000 in
theorem Tryz.clone_nil (n c:Nat) (w:World) :
  Calls Tryz.prog 111 #[.slice none n c] w fun e w'=>e=.returned (.slice none 0 0)∧w'=w:=by
 have q22:∀ (w:World) (a:Option Addr) (n c n' c':Nat),(binOp .eql 40 (.slice a n c) (.slice none n' c')).run Tryz.prog w=.ok (.bool a.isNone) w:=fun w a n c n' c'=>Lib.run_eql_slice_nil w 40 73 a n c n' c' (by kernel_rfl)
 go_enter Tryz.func111,Tryz.ntmps111
 go_wp2
 go_ret
 exact ⟨rfl,rfl⟩
set_option maxHeartbeats 2000000 in
set_option maxRecDepth 100000 in
theorem Tryz.clone_some (i0:TypeInfo) (z:Value) (hi:Tryz.prog.info? 73=some i0) (hz0:i0.zero=some z) (hz1:i0.size=3) (hz2:i0.bytes=32) (hzs:z.cells.size=3)
  (a:Addr) (n c:Nat) (news:List Value) (w:World) (hl:news.length=n*3) (hn:n≤maxLen) (hbig:n*32≤140737488355328)
  (hc:∀ j u,news[j]?=some u→w.cell? (a.add j)=some u) (h1:∀ u∈news,u.oneCell'=true) :
  Calls Tryz.prog 111 #[.slice (some a) n c] w fun e w'=>∃ v',e=.returned v'∧w'.ownsRow w.heap.size 73 3 v' n news∧Below w.heap.size w w':=by
 have t22:Tryz.prog.underlying 40=some (.slice 73):=by kernel_rfl
 have q22:∀ (w:World) (a:Option Addr) (n c n' c':Nat),(binOp .eql 40 (.slice a n c) (.slice none n' c')).run Tryz.prog w=.ok (.bool a.isNone) w:=fun w a n c n' c'=>Lib.run_eql_slice_nil w 40 73 a n c n' c' t22
 have u22:∀ w,Sem.run Tryz.prog (underlying 40) w=.ok (TypeDesc.slice 73) w:=run_underlying t22
 have A:Aside (∀ j u,news[j]?=some u→w.cell? (a.add j)=some u):=hc
 clear hc
 go_enter Tryz.func111,Tryz.ntmps111
 go_wp2_with (at_builtin;refine wpList_append_own _ rfl _ _ 40 rfl w.heap.size 73 i0 z 3 32 t22 hi hz0 hz1 hz2 hzs (by decide) _ _ _ rfl (World.ownsRow_made w #[] 0 (Nat.le_refl _) (Nat.zero_le _) (by simp)) a n c news rfl ?qc1 ?qc2 ?qc3 ?qc4 ?qc5 ?qc6 ?_)
 case qc1=>exact hl
 case qc2 =>
  intro j u hj
  exact Lib.cell?_alloc_some _ (A.out j u hj)
 case qc3=>exact h1
 case qc4=>rw [Nat.zero_add];exact hn
 case qc5=>rw [Nat.zero_add];exact hbig
 case qc6=>simp
 intro v' w1 hown hgrow hnil
 go_wp2
 go_ret
 refine ⟨v',rfl,by simpa using hown,?_⟩
 exact ((Below.refl _ w).alloc (Nat.le_refl _) _).grown hgrow (by simp) (by intro k hk;simp [Value.ownBlock] at hk;omega)
end Go.Proofs
namespace Go.Sim
open Go.RowKit Go.Proofs
def xra:List AV→Option (Bool×AV)
 | [.list 3 xs]=>some (decide (xs.length≤4398046511104),.list 3 xs)
 | _=>none
theorem xz4 {w w':World} {A:Nat→Prop} {e:TypeId} {sz:Nat} {v:Value} {xs:List AV} {news:List Value} (hl:∀ b,A b→b<w.heap.size) (hown:w'.ownsRow w.heap.size e sz v xs.length news) (hok:∀ x,x∈xs→x.okElem sz=true)
  (hr:∀ i j,i<xs.length→j<sz→Rel w' A noBox (news.getD (i*sz+j) undef) ((xs.getD i .top).cells.getD j .top)):Rel w' A noBox v (.list sz xs):=by
 obtain ⟨hlen,h⟩:=hown
 rcases h with ⟨rfl,h0⟩|⟨g,cap,cur,rfl,hg,hh,hle,hcm,hcs,htk⟩
 · have:xs=[]:=List.eq_nil_of_length_eq_zero h0
   subst this
   exact .list0 _ _ _
 · by_cases hne:xs=[]
   · subst hne;exact .list0 _ _ _
   · have hgl:g<w'.heap.size:=by
      rcases Nat.lt_or_ge g w'.heap.size with h|h
      · exact h
      · rw [Array.getElem?_eq_none h] at hh;simp at hh
     have hcell:∀ i j,i<xs.length→j<sz→w'.cell? ⟨g,0+i*sz+j,none⟩=some (news.getD (i*sz+j) undef):=fun i j hi hj=>by
      have hk:i*sz+j<xs.length*sz:=xeO hi hj
      have hk2:i*sz+j<cur.size:=by
       rw [hcs];exact Nat.lt_of_lt_of_le hk (Nat.mul_le_mul_right _ hle)
      have e1:news.getD (i*sz+j) undef=cur[i*sz+j]:=by
       rw [←htk];simp [List.getD_eq_getElem?_getD,List.getElem?_take,hk,hk2]
      rw [e1,Nat.zero_add]
      simp [World.cell?,hh,hk2]
     exact .list g 0 cap sz xs (fun i j=>news.getD (i*sz+j) undef) (fun hA=>by have:=hl g hA;omega) hgl hne hle hok hcell hr
theorem xE9:OcOk Tryz.prog ITryz 111 xra:=fun xs r h=>by
 unfold xra at h;split at h
 · rename_i xs
   simp only [Option.some.injEq,Prod.mk.injEq,decide_eq_true_eq] at h;obtain ⟨hle,rfl⟩:=h
   refine ⟨xee Tryz.func111 rfl (by kernel_rfl),fun w A vs hI hA hrc=>?_⟩
   obtain ⟨v,rfl,h1⟩:=rc1 hrc
   have hti:∃ ti,tinfo Tryz.prog 73=some ti∧ti.sz=3∧ti.bytes=32∧ti.zero.okElem 3=true:=by
    have h:(match tinfo Tryz.prog 73 with|some ti=>(ti.sz==3)&&((ti.bytes==32)&&ti.zero.okElem 3)|none=>false)=true:=by kernel_rfl
    split at h
    · rename_i ti hti
      simp only [Bool.and_eq_true,beq_iff_eq] at h
      exact ⟨ti,hti,h.1,h.2.1,h.2.2⟩
    · simp at h
   obtain ⟨ti,hti,s1,s2,s3⟩:=hti
   obtain ⟨i,z,g1,g2,g3,g4,g5,g6,_⟩:=xcs hti
   have hzs:z.cells.size=3:=by
    have hrz:Rel w A noBox z ti.zero:=by rw [g6];exact xeT w A noBox z
    rw [(hrz.cells (xbC s3)).1,xa5 s3]
   have hnil:∀ n c,v=.slice none n c→xs=[]→Calls Tryz.prog 111 [v].toArray w fun e w'=>∃ v,e=.returned v∧Below w.heap.size w w'∧Rel w' A noBox v (.list 3 xs):=by
    rintro n c rfl rfl
    refine (Tryz.clone_nil n c w).mono ?_
    rintro e w' ⟨rfl,rfl⟩
    exact ⟨_,rfl,Below.refl _ _,.list0 _ _ _⟩
   have hsome:∀ b off c (val:Nat→Nat→Value),v=.slice (some ⟨b,off,none⟩) xs.length c→(∀ x,x∈xs→x.okElem 3=true)→(∀ i j,i<xs.length→j<3→w.cell? ⟨b,off+i*3+j,none⟩=some (val i j))→(∀ i j,i<xs.length→j<3→Rel w A noBox (val i j) ((xs.getD i .top).cells.getD j .top)) →
     Calls Tryz.prog 111 [v].toArray w fun e w'=>∃ v,e=.returned v∧Below w.heap.size w w'∧Rel w' A noBox v (.list 3 xs):=by
    rintro b off c val rfl hok hc hr
    have hs:∀ i j,i<xs.length→j<3→∃ u,w.cell? ⟨b,off+(i*3+j),none⟩=some u∧Rel w A noBox u ((xs.getD i .top).cells.getD j .top):=fun i j hi hj=>⟨val i j,by rw [←Nat.add_assoc];exact hc i j hi hj,hr i j hi hj⟩
    refine (Tryz.clone_some i z g1 g3 (by rw [←g4,s1]) (by rw [←g5,s2]) hzs ⟨b,off,none⟩ xs.length c (srcCells w b off (xs.length*3)) w (xix _ _ _ _) (by unfold maxLen;omega) (by omega)
     (fun j u hj=>xwh (by decide) hs j u hj) (xJU (by decide) hs hok)).mono ?_
    rintro e w' ⟨v',rfl,hown,hbel⟩
    exact ⟨v',rfl,hbel,xz4 hA hown hok fun i j hi hj=>(xJz hs hi hj).grow hbel⟩
   have h1':=h1
   generalize hx:AV.list 3 xs=x at h1
   cases h1 with
   | list0 a cap sz =>
    simp only [AV.list.injEq] at hx
    obtain ⟨rfl,rfl⟩:=hx
    cases a with
    | none=>exact hnil 0 cap rfl rfl
    | some a =>
     refine (Tryz.clone_some i z g1 g3 (by rw [←g4,s1]) (by rw [←g5,s2]) hzs a 0 cap [] w rfl (Nat.zero_le _) (by omega) (by simp) (by simp)).mono ?_
     rintro e w' ⟨v',rfl,hown,hbel⟩
     exact ⟨v',rfl,hbel,xz4 hA (xs:=[]) hown (by simp) (by simp)⟩
   | list b off cap sz ys val ha hb hne hcap hsz hc hr =>
    simp only [AV.list.injEq] at hx
    obtain ⟨rfl,rfl⟩:=hx
    exact hsome b off cap val rfl hsz hc hr
   | _=>simp at hx
 · simp at h
end Go.Sim
end
noncomputable section
namespace Go.Sim
open Go.RowKit
variable {α β γ : Type}
structure Pat (α β:Type) where
 enc:β→α
 dec:α→Option β
 ok:∀ a b,dec a=some b→a=enc b
def pAny:Pat α α:=⟨fun b=>b,some,fun a b h=>by simpa using h⟩
def pInt (k:IntKind):Pat AV Int:=⟨.int k,fun v=>match v with
 | .int k' n=>match decide (k'=k) with
  | true=>some n
  | false=>none
 | _=>none,fun v n h=>by
 split at h
 · split at h
   · rename_i hk;simp only [Option.some.injEq] at h;rw [of_decide_eq_true hk,h]
   · simp at h
 · simp at h⟩
def pStr:Pat AV (List UInt8):=⟨.str,fun v=>match v with
 | .str s=>some s
 | _=>none,fun v n h=>by
 split at h
 · simp only [Option.some.injEq] at h;rw [h]
 · simp at h⟩
def pBool:Pat AV Bool:=⟨.bool,fun v=>match v with
 | .bool s=>some s
 | _=>none,fun v n h=>by
 split at h
 · simp only [Option.some.injEq] at h;rw [h]
 · simp at h⟩
def pList (sz:Nat) (q:Pat (List AV) β):Pat AV β:=⟨fun b=>.list sz (q.enc b),fun v=>match v with
 | .list z xs=>match Nat.beq z sz with
  | true=>q.dec xs
  | false=>none
 | _=>none,fun v n h=>by
 split at h
 · split at h
   · rename_i hz;rw [Nat.eq_of_beq_eq_true hz,q.ok _ _ h]
   · simp at h
 · simp at h⟩
def pOsl (id ver off:Nat):Pat AV Nat:=⟨.osl id ver off,fun v=>match v with
 | .osl (.b i) e o n=>match Nat.beq i id&&(Nat.beq e ver&&Nat.beq o off) with
  | true=>some n
  | false=>none
 | _=>none,fun v n h=>by
 split at h
 · split at h
   · rename_i hz
     simp only [Bool.and_eq_true] at hz
     simp only [Option.some.injEq] at h
     rw [Nat.eq_of_beq_eq_true hz.1,Nat.eq_of_beq_eq_true hz.2.1,Nat.eq_of_beq_eq_true hz.2.2,h]
   · simp at h
 · simp at h⟩
def pOslV (id off:Nat):Pat AV (Nat×Nat):=⟨fun p=>.osl id p.1 off p.2,fun v=>match v with
 | .osl (.b i) e o n=>match Nat.beq i id&&Nat.beq o off with
  | true=>some (e,n)
  | false=>none
 | _=>none,fun v n h=>by
 split at h
 · split at h
   · rename_i hz
     simp only [Bool.and_eq_true] at hz
     simp only [Option.some.injEq] at h
     rw [Nat.eq_of_beq_eq_true hz.1,Nat.eq_of_beq_eq_true hz.2,←h]
   · simp at h
 · simp at h⟩
def pOwnV (id j:Nat):Pat AV (Nat×Nat):=⟨fun p=>.own id p.1 p.2 j,fun v=>match v with
 | .own (.b a) b c d=>match Nat.beq a id&&Nat.beq d j with
  | true=>some (b,c)
  | false=>none
 | _=>none,fun v n h=>by
 split at h
 · split at h
   · rename_i hz
     simp only [Bool.and_eq_true] at hz
     simp only [Option.some.injEq] at h
     rw [Nat.eq_of_beq_eq_true hz.1,Nat.eq_of_beq_eq_true hz.2,←h]
   · simp at h
 · simp at h⟩
def pOwn (id ver i j:Nat):Pat AV Unit:=⟨fun _=>.own id ver i j,fun v=>match v with
 | .own (.b a) b c d=>match Nat.beq a id&&(Nat.beq b ver&&(Nat.beq c i&&Nat.beq d j)) with
  | true=>some ()
  | false=>none
 | _=>none,fun v n h=>by
 split at h
 · split at h
   · rename_i hz
     simp only [Bool.and_eq_true] at hz
     rw [Nat.eq_of_beq_eq_true hz.1,Nat.eq_of_beq_eq_true hz.2.1,Nat.eq_of_beq_eq_true hz.2.2.1,Nat.eq_of_beq_eq_true hz.2.2.2]
   · simp at h
 · simp at h⟩
def pAgg (q:Pat (List AV) β):Pat AV β:=⟨fun b=>.agg (q.enc b),fun v=>match v with
 | .agg cs=>q.dec cs
 | _=>none,fun v n h=>by
 split at h
 · rw [q.ok _ _ h]
 · simp at h⟩
def pFunc (f:Nat) (q:Pat (List AV) β):Pat AV β:=⟨fun b=>.func f (q.enc b),fun v=>match v with
 | .func g cs=>match Nat.beq g f with
  | true=>q.dec cs
  | false=>none
 | _=>none,fun v n h=>by
 split at h
 · split at h
   · rename_i hz;rw [Nat.eq_of_beq_eq_true hz,q.ok _ _ h]
   · simp at h
 · simp at h⟩
def pNils:Pat AV Unit:=⟨fun _=>.nils,fun v=>match v with
 | .nils=>some ()
 | _=>none,fun v n h=>by
 split at h
 · rfl
 · simp at h⟩
def pNilptr:Pat AV Unit:=⟨fun _=>.nilptr,fun v=>match v with
 | .nilptr=>some ()
 | _=>none,fun v n h=>by
 split at h
 · rfl
 · simp at h⟩
def pNil:Pat (List α) Unit:=⟨fun _=>[],fun v=>match v with
 | []=>some ()
 | _=>none,fun v n h=>by
 split at h
 · rfl
 · simp at h⟩
def pCons (p:Pat α β) (q:Pat (List α) γ):Pat (List α) (β×γ):=⟨fun b=>p.enc b.1::q.enc b.2,fun v=>match v with
 | x::t=>match p.dec x with
  | some b=>match q.dec t with
   | some c=>some (b,c)
   | none=>none
  | none=>none
 | _=>none,fun v n h=>by
 split at h
 · split at h
   · rename_i hp
     split at h
     · rename_i hq
       simp only [Option.some.injEq] at h
       subst h
       rw [p.ok _ _ hp,q.ok _ _ hq]
     · simp at h
   · simp at h
 · simp at h⟩
def pBox (ver sz ty:Nat) (frz pm:Bool) (q:Pat (List AV) β):Pat Box β:=⟨fun b=>⟨ver,sz,ty,q.enc b,frz,pm⟩,fun v=>match v with
 | ⟨a,b,c,xs,f,p⟩=>match Nat.beq a ver&&(Nat.beq b sz&&(Nat.beq c ty&&((f==frz)&&(p==pm)))) with
  | true=>q.dec xs
  | false=>none,fun v n h=>by
 obtain ⟨a,b,c,xs,f,p⟩:=v
 dsimp only at h;split at h
 · rename_i hz
   simp only [Bool.and_eq_true,beq_iff_eq] at hz
   rw [Nat.eq_of_beq_eq_true hz.1,Nat.eq_of_beq_eq_true hz.2.1,Nat.eq_of_beq_eq_true hz.2.2.1,hz.2.2.2.1,hz.2.2.2.2,q.ok _ _ h]
 · simp at h⟩
def pBoxV (sz ty:Nat) (frz pm:Bool) (q:Pat (List AV) β):Pat Box (Nat×β):=⟨fun b=>⟨b.1,sz,ty,q.enc b.2,frz,pm⟩,fun v=>match v with
 | ⟨a,b,c,xs,f,p⟩=>match Nat.beq b sz&&(Nat.beq c ty&&((f==frz)&&(p==pm))) with
  | true=>match q.dec xs with
   | some y=>some (a,y)
   | none=>none
  | false=>none,fun v n h=>by
 obtain ⟨a,b,c,xs,f,p⟩:=v
 dsimp only at h;split at h
 · rename_i hz
   simp only [Bool.and_eq_true,beq_iff_eq] at hz
   split at h
   · rename_i y hy
     simp only [Option.some.injEq] at h
     rw [Nat.eq_of_beq_eq_true hz.1,Nat.eq_of_beq_eq_true hz.2.1,hz.2.2.1,hz.2.2.2,←h,q.ok _ _ hy]
   · simp at h
 · simp at h⟩
def Sub (a b:AV):Prop:=∀ (w:World) (A:Nat→Prop) (M:Id→Option MB) (v:Value),Rel w A M v a→Rel w A M v b
def SubL (aS bs:List AV):Prop:=aS.length=bs.length∧∀ i,i<aS.length→Sub (aS.getD i .top) (bs.getD i .top)
theorem Sub.refl (a:AV):Sub a a:=fun _ _ _ _ h=>h
theorem Sub.of_eq {a b:AV} (h:a=b):Sub a b:=h▸Sub.refl a
theorem xOe (sz:Nat):Sub .nils (.list sz []):=fun w A M v h=>by
 cases h;exact .list0 _ _ _
theorem xPn {aS bs:List AV} (h:SubL aS bs):Sub (.agg aS) (.agg bs):=fun w A M v hr=>by
 obtain ⟨vs,rfl,h1,h2⟩:=hr.agg_inv
 exact .agg vs bs (h1.trans h.1) fun i hi=>h.2 i (h.1.symm▸hi) w A M _ (h2 i (h.1.symm▸hi))
theorem xM5 {w:World} {A:Nat→Prop} {M:Id→Option MB} {vs:List Value} {aS bs:List AV} (h:SubL aS bs) (hr:RC w A M vs aS):RC w A M vs bs :=
 ⟨hr.1.trans h.1,fun i hi=>h.2 i (h.1.symm▸hi) w A M _ (hr.2 i (h.1.symm▸hi))⟩
structure SPat (β:Type) where
 enc:β→AV
 dec:AV→Option β
 ok:∀ a b,dec a=some b→Sub a (enc b)
structure SPatL (β:Type) where
 enc:β→List AV
 dec:List AV→Option β
 ok:∀ a b,dec a=some b→SubL a (enc b)
def sEq (p:Pat AV β):SPat β:=⟨p.enc,p.dec,fun a b h=>Sub.of_eq (p.ok a b h)⟩
def sList (sz:Nat) (q:Pat (List AV) β):SPat β:=⟨fun b=>.list sz (q.enc b),fun v=>match v with
 | .nils=>q.dec []
 | .list z xs=>match Nat.beq z sz with
  | true=>q.dec xs
  | false=>none
 | _=>none,fun v n h=>by
 split at h
 · rw [←q.ok _ _ h];exact xOe sz
 · split at h
   · rename_i hz;rw [Nat.eq_of_beq_eq_true hz,q.ok _ _ h];exact Sub.refl _
   · simp at h
 · simp at h⟩
def sAgg (q:SPatL β):SPat β:=⟨fun b=>.agg (q.enc b),fun v=>match v with
 | .agg cs=>q.dec cs
 | _=>none,fun v n h=>by
 split at h
 · exact xPn (q.ok _ _ h)
 · simp at h⟩
def sNil:SPatL Unit:=⟨fun _=>[],fun v=>match v with
 | []=>some ()
 | _=>none,fun v n h=>by
 split at h
 · exact ⟨rfl,fun i hi=>by simp at hi⟩
 · simp at h⟩
def sCons (p:SPat β) (q:SPatL γ):SPatL (β×γ):=⟨fun b=>p.enc b.1::q.enc b.2,fun v=>match v with
 | x::t=>match p.dec x with
  | some b=>match q.dec t with
   | some c=>some (b,c)
   | none=>none
  | none=>none
 | _=>none,fun v n h=>by
 split at h
 · split at h
   · rename_i hp
     split at h
     · rename_i hq
       simp only [Option.some.injEq] at h
       subst h
       obtain ⟨h1,h2⟩:=q.ok _ _ hq
       refine ⟨by simp [h1],fun i hi=>?_⟩
       cases i with
       | zero=>exact p.ok _ _ hp
       | succ i=>exact h2 i (by simpa using hi)
     · simp at h
   · simp at h
 · simp at h⟩
def ocOf (pv:SPatL β) (g:β→Bool×AV):List AV→Option (Bool×AV):=fun xs=>match pv.dec xs with
 | some b=>some (g b)
 | none=>none
def omOf (pv:SPatL β) (pb:Pat (List Box) γ) (g:β→γ→Bool×AV×List Box):List AV→List Box→Option (Bool×AV×List Box):=fun xs H=>match pv.dec xs with
 | some b=>match pb.dec H with
  | some c=>some (g b c)
  | none=>none
 | none=>none
def lpOf (live liveO:List Nat) (conv:List (Nat×Nat×TypeId)) (pv:Pat (List AV) β) (pb:Pat (List Box) γ) (g:β→γ→Bool×LR):Lp:=⟨live,liveO,conv,fun xs H=>match pv.dec xs with
 | some b=>match pb.dec H with
  | some c=>some (g b c)
  | none=>none
 | none=>none⟩
section
variable {P : Program} {Inv : IV}
theorem xaN {n:FuncId} {pv:SPatL β} {g:β→Bool×AV} (h:∀ b r,g b=(true,r)→Good P Inv n (pv.enc b) r):OcOk P Inv n (ocOf pv g):=fun xs r e=>by
 unfold ocOf at e;split at e
 · rename_i b hb
   simp only [Option.some.injEq] at e
   obtain ⟨h1,h2⟩:=h b r e
   exact ⟨h1,fun w A vs hi ha hr=>h2 w A vs hi ha (xM5 (pv.ok _ _ hb) hr)⟩
 · simp at e
theorem xfP {n:FuncId} {pv:SPatL β} {pb:Pat (List Box) γ} {g:β→γ→Bool×AV×List Box} (h:∀ b c r H',g b c=(true,r,H')→GoodM P Inv n (pv.enc b) (pb.enc c) r H'):OmOk P Inv n (omOf pv pb g):=fun xs H r H' e=>by
 unfold omOf at e;split at e
 · rename_i b hb
   split at e
   · rename_i c hc
     simp only [Option.some.injEq] at e
     rw [pb.ok _ _ hc]
     obtain ⟨h1,h2⟩:=h b c r H' e
     exact ⟨h1,fun w0 w A M vs hi hb' hR hr=>h2 w0 w A M vs hi hb' hR (xM5 (pv.ok _ _ hb) hr)⟩
   · simp at e
 · simp at e
theorem xaY {nt:Nat} {l:Code} {live liveO:List Nat} {conv:List (Nat×Nat×TypeId)} {pv:Pat (List AV) β} {pb:Pat (List Box) γ} {g:β→γ→Bool×LR}
  (h:∀ b c r,g b c=(true,r)→DoesL P Inv l (fun e1 s1=>e1=r.eval.1∧s1=⟨mkTs nt (liveO.zip r.eval.2.1),r.eval.2.2⟩) ⟨mkTs nt (live.zip (pv.enc b)),pb.enc c⟩):LoopOk P Inv nt l (lpOf live liveO conv pv pb g):=fun vals H r e=>by
 unfold lpOf at e;dsimp only at e;split at e
 · rename_i b hb
   split at e
   · rename_i c hc
     simp only [Option.some.injEq] at e
     rw [pv.ok _ _ hb,pb.ok _ _ hc]
     exact h b c r e
   · simp at e
 · simp at e
end
theorem xab {x:Option α} {d:α} (h:x.isSome=true):x=some (x.getD d):=by
 cases x with
 | none=>simp at h
 | some y=>rfl
end Go.Sim
end
noncomputable section
namespace Go.Sim.M
open Go.RowKit Go.Proofs
def E0:Env:=((((Env.none.with 138 xnN).with 116 xqW).with 111 xra).withM 139 xuQ).withM 118 xoL
theorem xKp:OrcOk Tryz.prog ITryz E0:=((((xKC.with xAF).with xFl).with xE9).withM xJc).withM xCj
end Go.Sim.M
end
noncomputable section
namespace Go.Sim
open Go.RowKit
def EncS {α:Type} (f:α→AV) (a:Option α) (b:Option AV):Prop:=∀ r,a=some r→∃ x,b=some x∧Sub x (f r)
theorem EncS.none {α:Type} {f:α→AV} {b:Option AV}:EncS f .none b:=fun r h=>by simp at h
theorem EncS.some {α:Type} {f:α→AV} {a:α} {b:AV} (h:Sub b (f a)):EncS f (Option.some a) (Option.some b):=fun r e=>by simp only [Option.some.injEq] at e;subst e;exact ⟨b,rfl,h⟩
theorem EncS.br {α:Type} {f:α→AV} {t:Bool} {a a':Option α} {b b':Option AV} (h1:EncS f a b) (h2:EncS f a' b'):EncS f (Sim.br t a a') (Sim.br t b b'):=by cases t<;>assumption
theorem Good.sub {P:Program} {Inv:IV} {f:FuncId} {args:List AV} {r r':AV} (h:Good P Inv f args r) (hs:Sub r r'):Good P Inv f args r' :=
 ⟨h.1,fun w A vs hI hA hrc=>(h.2 w A vs hI hA hrc).mono fun e w' ⟨v,he,hb,hr⟩=>⟨v,he,hb,hs w' A noBox v hr⟩⟩
theorem GoodM.bump1 {P:Program} {Inv:IV} {f:FuncId} {args:List AV} {H:List Box} {v v' k sz:Nat} {ty:TypeId} {xs:List AV} {frz pm:Bool} (hpl:isC ty=false) (hv:v<v')
  (h:GoodM P Inv f args H (.osl (.b 0) v 0 k) [⟨v,sz,ty,xs,frz,pm⟩]):GoodM P Inv f args H (.osl (.b 0) v' 0 k) [⟨v',sz,ty,xs,frz,pm⟩]:=by
 refine ⟨h.1,fun w0 w A M vs hI hB hR hrc=>(h.2 w0 w A M vs hI hB hR hrc).mono ?_⟩
 rintro e w' ⟨u,A',M',rfl,h1,h2,h3,h4,h5⟩
 obtain ⟨m,g1,g2,g3,g4⟩:=Rel.osl_inv h5
 obtain ⟨bx,q1,q2⟩:=h4.box _ m g1
 have:bx=⟨v,sz,ty,xs,frz,pm⟩:=by
  have:=q1
  rw [xdH] at this
  simpa using this.symm
 subst this
 have hver:v=m.ver:=q2.ver
 have hext:MExt M' (MSet M' (.b 0) ⟨m.b,v',m.sz,m.cap,m.ty⟩):=xq0 g1 (.inr (by simp only;omega))
 have hsame:∀ id m1,MSet M' (.b 0) ⟨m.b,v',m.sz,m.cap,m.ty⟩ id=some m1→∃ m0,M' id=some m0∧m1.b=m0.b∧m1.cap=m0.cap:=fun id m1 hm1=>by
  by_cases hi:id=.b 0
  · subst hi;simp [MSet] at hm1;subst hm1;exact ⟨m,g1,rfl,rfl⟩
  · exact ⟨m1,by simpa [MSet,hi] using hm1,rfl,rfl⟩
 have hR':HR w' A' (MSet M' (.b 0) ⟨m.b,v',m.sz,m.cap,m.ty⟩) w0.heap.size [⟨v',sz,ty,xs,frz,pm⟩]:=by
  refine ⟨fun id m1 hm1=>?_,fun id id' m1 m2 k1 k2 c1 c2 he=>?_,h4.lt⟩
  · by_cases hi:id=.b 0
    · subst hi
      have:m1=⟨m.b,v',m.sz,m.cap,m.ty⟩:=by simp [MSet] at hm1;exact hm1.symm
      subst this
      have q3:=q2.mono (w':=w') (fun _=>rfl) (fun _ _ _=>rfl) (Nat.le_refl _) (fun _ _ h=>h) q2.guard hext
      exact ⟨⟨v',sz,ty,xs,frz,pm⟩,rfl,rfl,q3.sz,q3.ty,q3.capm,q3.fits,q3.ok,q3.low,q3.lt,q3.cells,q3.guard⟩
    · have hm2:M' id=some m1:=by simpa [MSet,hi] using hm1
      obtain ⟨bx,k1,k2⟩:=h4.box id m1 hm2
      have k3:getB [⟨v',sz,ty,xs,frz,pm⟩] id=some bx:=by
       rw [←k1]
       exact xeD (H:=[⟨v,sz,ty,xs,frz,pm⟩]) (n:=0) (bx:=⟨v,sz,ty,xs,frz,pm⟩) (bx':=⟨v',sz,ty,xs,frz,pm⟩) rfl hpl hpl hi
      exact ⟨bx,k3,k2.mono (fun _=>rfl) (fun _ _ _=>rfl) (Nat.le_refl _) (fun _ _ h=>h) k2.guard hext⟩
  · obtain ⟨n1,a1,a2,a3⟩:=hsame id m1 k1
    obtain ⟨n2,b1,b2,b3⟩:=hsame id' m2 k2
    exact h4.inj id id' n1 n2 a1 b1 (by omega) (by omega) (by rw [←a2,←b2,he])
 refine ⟨u,A',MSet M' (.b 0) ⟨m.b,v',m.sz,m.cap,m.ty⟩,rfl,h1,h2,h3.step ⟨Nat.le_refl _,fun _ _ _=>rfl,fun _ _ h=>h,fun _ _ h _=>h,hext,⟨fun _ _ _=>rfl,fun id m1 hm1 h0=>?_⟩⟩,hR',?_⟩
 · obtain ⟨n1,a1,a2,a3⟩:=hsame id m1 hm1
   exact .inl ⟨id,n1,a1,by omega,a2⟩
 · exact .osl u (.b 0) v' 0 k ⟨m.b,v',m.sz,m.cap,m.ty⟩ (by simp [MSet]) (Nat.le_refl _) g3 fun _=>g4 hver
theorem GoodM.weaken {P:Program} {Inv:IV} {f:FuncId} {args:List AV} {H H1 H2:List Box} {r r2:AV} (h:GoodM P Inv f args H r H1)
  (hw:∀ w A M B v,HR w A M B H1→Rel w A M v r→∃ M',HR w A M' B H2∧Mv w A M w A M'∧Rel w A M' v r2):GoodM P Inv f args H r2 H2:=by
 refine ⟨h.1,fun w0 w A M vs hI hB hR hrc=>(h.2 w0 w A M vs hI hB hR hrc).mono ?_⟩
 rintro e w' ⟨u,A',M',rfl,h1,h2,h3,h4,h5⟩
 obtain ⟨M2,g1,g2,g3⟩:=hw w' A' M' _ u h4 h5
 exact ⟨u,A',M2,rfl,h1,h2,h3.step g2,g1,g3⟩
theorem xMC {w:World} {A:Nat→Prop} {M:Id→Option MB} {B:Nat} {H:List Box} (hR:HR w A M B H) {n:Nat} {m:MB} {bx:Box} (hm:M (.b n)=some m) (hb:H[n]?=some bx) (hpl:isC bx.ty=false) (v:Nat) (hv:m.ver<v) (sz:Nat) (ty:TypeId) (hty:isC ty=false) :
  HR w A (MSet M (.b n) ⟨m.b,v,sz,0,ty⟩) B (H.set n ⟨v,sz,ty,[],false,true⟩)∧Mv w A M w A (MSet M (.b n) ⟨m.b,v,sz,0,ty⟩):=by
 have hext:MExt M (MSet M (.b n) ⟨m.b,v,sz,0,ty⟩):=xq0 hm (.inr hv)
 have hc:∀ {p:Prop},0<(0:Nat)→p:=fun h=>absurd h (by omega)
 have hcase:∀ i m1,MSet M (.b n) ⟨m.b,v,sz,0,ty⟩ i=some m1→0<m1.cap→i≠.b n∧M i=some m1:=fun i m1 h1 h0=>by
  by_cases hi:i=.b n
  · subst hi;simp [MSet] at h1;subst h1;exact absurd h0 (by simp)
  · exact ⟨hi,by simpa [MSet,hi] using h1⟩
 refine ⟨⟨fun i m1 h1=>?_,fun i i' m1 m2 h1 h2 c1 c2 he=>hR.inj i i' m1 m2 (hcase i m1 h1 c1).2 (hcase i' m2 h2 c2).2 c1 c2 he,hR.lt⟩,⟨Nat.le_refl _,fun _ _ _=>rfl,fun _ _ h=>h,fun _ _ h _=>h,hext,⟨fun _ _ _=>rfl,fun i m1 h1 h0=>.inl ⟨i,m1,(hcase i m1 h1 h0).2,h0,rfl⟩⟩⟩⟩
 by_cases hi:i=.b n
 · subst hi
   have:m1=⟨m.b,v,sz,0,ty⟩:=by simp [MSet] at h1;exact h1.symm
   subst this
   exact ⟨⟨v,sz,ty,[],false,true⟩,by rw [xdH,List.getElem?_set_self (xfu hb)],rfl,rfl,xcD hty,Nat.zero_le _,Nat.zero_le _,fun x hx=>by simp at hx,hc,hc,hc,hc⟩
 · have hm2:M i=some m1:=by simpa [MSet,hi] using h1
   obtain ⟨bx2,g1,g2⟩:=hR.box i m1 hm2
   exact ⟨bx2,by rw [xeD hb hpl hty hi];exact g1,g2.mono (fun _=>rfl) (fun _ _ _=>rfl) (Nat.le_refl _) (fun _ _ h=>h) g2.guard hext⟩
theorem GoodM.drop0 {P:Program} {Inv:IV} {f:FuncId} {args:List AV} {H:List Box} {v v' w k sz sz':Nat} {ty ty':TypeId} {xs ys:List AV} {frz pm fr1 pm1:Bool} (hpl:isC ty=false) (hv:v<v')
  (h:GoodM P Inv f args H (.osl (.b 1) w 0 k) [⟨v,sz,ty,xs,frz,pm⟩,⟨w,sz',ty',ys,fr1,pm1⟩]):GoodM P Inv f args H (.osl (.b 1) w 0 k) [⟨v',sz,ty,[],false,true⟩,⟨w,sz',ty',ys,fr1,pm1⟩] :=
 h.weaken fun w1 A M B u hR hr=>by
  cases hm:M (.b 0) with
  | some m =>
   obtain ⟨bx,q1,q2⟩:=hR.box _ m hm
   have hb:[(⟨v,sz,ty,xs,frz,pm⟩:Box),⟨w,sz',ty',ys,fr1,pm1⟩][0]?=some ⟨v,sz,ty,xs,frz,pm⟩:=rfl
   rw [xdH,hb] at q1
   simp only [Option.some.injEq] at q1
   subst q1
   obtain ⟨g1,g2⟩:=xMC hR hm hb hpl v' (by have:v=m.ver:=q2.ver;omega) sz ty hpl
   exact ⟨_,g1,g2,g2.rel hr⟩
  | none =>
   refine ⟨M,⟨fun i m hm1=>?_,hR.inj,hR.lt⟩,Mv.refl,hr⟩
   obtain ⟨bx,q1,q2⟩:=hR.box i m hm1
   refine ⟨bx,?_,q2⟩
   by_cases hi:i=.b 0
   · subst hi;rw [hm] at hm1;cases hm1
   · rw [←q1]
     exact xeD (H:=[⟨v,sz,ty,xs,frz,pm⟩,⟨w,sz',ty',ys,fr1,pm1⟩]) (n:=0) (bx:=⟨v,sz,ty,xs,frz,pm⟩) (bx':=⟨v',sz,ty,[],false,true⟩) rfl hpl hpl hi
theorem GoodM.move0 {P:Program} {Inv:IV} {f:FuncId} {args:List AV} {H:List Box} {v v' w k sz:Nat} {ty:TypeId} {xs:List AV} {frz:Bool} (hpl:isC ty=false) (hv:v<v')
  (h:GoodM P Inv f args H (.osl (.b 0) v 0 k) [⟨v,sz,ty,xs,frz,true⟩]):GoodM P Inv f args H (.osl (.b 1) w 0 k) [⟨v',sz,ty,[],false,true⟩,⟨w,sz,ty,xs,frz,true⟩] :=
 h.weaken fun w1 A M B u hR hr=>by
  obtain ⟨m,g1,g2,g3,g4⟩:=Rel.osl_inv hr
  obtain ⟨bx,q1,q2⟩:=hR.box _ m g1
  have:bx=⟨v,sz,ty,xs,frz,true⟩:=by
   have:=q1
   rw [xdH] at this
   simpa using this.symm
  subst this
  have hver:v=m.ver:=q2.ver
  have hn1:M (.b 1)=none:=by
   cases h1:M (.b 1) with
   | none=>rfl
   | some m1=>obtain ⟨b1,k1,_⟩:=hR.box _ m1 h1;rw [xdH] at k1;simp at k1
  have hrow:∀ n i j m1,M (.r n i j)=some m1→n=0:=fun n i j m1 h1=>by
   obtain ⟨b1,k1,_⟩:=hR.box _ m1 h1
   obtain ⟨b0,k2,_⟩:=xp1 k1
   have:=xfu k2
   simp at this;omega
  let M2:Id→Option MB:=MSet (MSet M (.b 0) ⟨m.b,v',sz,0,ty⟩) (.b 1) ⟨m.b,w,m.sz,m.cap,m.ty⟩
  have e1:M2 (.b 1)=some ⟨m.b,w,m.sz,m.cap,m.ty⟩:=by simp [M2,MSet]
  have e0:M2 (.b 0)=some ⟨m.b,v',sz,0,ty⟩:=by simp [M2,MSet]
  have eo:∀ i,i≠.b 0→i≠.b 1→M2 i=M i:=fun i h0 h1=>by simp [M2,MSet,h0,h1]
  have hext:MExt M M2:=fun i m1 h1=>by
   by_cases h0:i=.b 0
   · subst h0;rw [g1] at h1;simp only [Option.some.injEq] at h1;subst h1;exact ⟨_,e0,.inr (by simp only;omega)⟩
   · by_cases h2:i=.b 1
     · subst h2;rw [hn1] at h1;cases h1
     · exact ⟨m1,by rw [eo i h0 h2];exact h1,.inl rfl⟩
  have hsrc:∀ i m1,M2 i=some m1→0<m1.cap→i≠.b 0∧∃ i0 m0,M i0=some m0∧m0.b=m1.b∧m0.cap=m1.cap∧(i=.b 1→i0=.b 0)∧(i≠.b 1→i0=i):=fun i m1 h1 h0=>by
   by_cases hi:i=.b 0
   · subst hi;rw [e0] at h1;simp only [Option.some.injEq] at h1;subst h1;exact absurd h0 (by simp)
   · refine ⟨hi,?_⟩
     by_cases h2:i=.b 1
     · subst h2;rw [e1] at h1;simp only [Option.some.injEq] at h1;subst h1;exact ⟨.b 0,m,g1,rfl,rfl,fun _=>rfl,fun h=>absurd rfl h⟩
     · rw [eo i hi h2] at h1;exact ⟨i,m1,h1,rfl,rfl,fun h=>absurd h h2,fun _=>rfl⟩
  refine ⟨M2,⟨fun i m1 h1=>?_,fun i i' m1 m2 h1 h2 c1 c2 he=>?_,hR.lt⟩,⟨Nat.le_refl _,fun _ _ _=>rfl,fun _ _ h=>h,fun _ _ h _=>h,hext,⟨fun _ _ _=>rfl,fun i m1 h1 h0=>?_⟩⟩,?_⟩
  · by_cases hi:i=.b 0
    · subst hi
      rw [e0] at h1;simp only [Option.some.injEq] at h1;subst h1
      have hc:∀ {p:Prop},0<(0:Nat)→p:=fun h=>absurd h (by omega)
      exact ⟨⟨v',sz,ty,[],false,true⟩,rfl,rfl,rfl,xcD hpl,Nat.zero_le _,Nat.zero_le _,fun x hx=>by simp at hx,hc,hc,hc,hc⟩
    · by_cases h2:i=.b 1
      · subst h2
        rw [e1] at h1;simp only [Option.some.injEq] at h1;subst h1
        have q3:=q2.mono (w':=w1) (A':=A) (fun _=>rfl) (fun _ _ _=>rfl) (Nat.le_refl _) (fun _ _ h=>h) q2.guard hext
        refine ⟨⟨w,sz,ty,xs,frz,true⟩,rfl,rfl,q3.sz,q3.ty,q3.capm,q3.fits,q3.ok,q3.low,q3.lt,fun h0=>?_,q3.guard⟩
        obtain ⟨c,c1,c2,c3⟩:=q3.cells h0
        refine ⟨c,c1,c2,fun i j hi hj=>?_⟩
        have:=c3 i j hi hj
        rw [xax hpl,xcg hpl] at this
        rw [xax hpl,xcg (bx:=⟨w,sz,ty,xs,frz,true⟩) hpl]
        exact this
      · rw [eo i hi h2] at h1
        obtain ⟨b1,k1,k2⟩:=hR.box i m1 h1
        cases i with
        | b n =>
         rw [xdH] at k1
         have:=xfu k1
         have:n=0:=by simp at this;omega
         subst this;exact absurd rfl hi
        | r n a b =>
         have hn:=hrow n a b m1 h1
         subst hn
         rw [xes (H:=[⟨v,sz,ty,xs,frz,true⟩]) (by rfl) hpl] at k1
         simp only [Option.some.injEq] at k1
         subst k1
         exact ⟨tombB,xes (by rfl) hpl,k2.mono (fun _=>rfl) (fun _ _ _=>rfl) (Nat.le_refl _) (fun _ _ h=>h) k2.guard hext⟩
  · obtain ⟨a1,i0,n0,a2,a3,a4,a5,a6⟩:=hsrc i m1 h1 c1
    obtain ⟨b1,j0,n1,b2,b3,b4,b5,b6⟩:=hsrc i' m2 h2 c2
    have:=hR.inj i0 j0 n0 n1 a2 b2 (by omega) (by omega) (by rw [a3,b3,he])
    by_cases hi:i=.b 1
    · by_cases hj:i'=.b 1
      · rw [hi,hj]
      · rw [a5 hi,b6 hj] at this;exact absurd this.symm b1
    · by_cases hj:i'=.b 1
      · rw [a6 hi,b5 hj] at this;exact absurd this a1
      · rw [a6 hi,b6 hj] at this;exact this
  · obtain ⟨a1,i0,n0,a2,a3,a4,_,_⟩:=hsrc i m1 h1 h0
    exact .inl ⟨i0,n0,a2,by omega,a3.symm⟩
  · exact .osl u (.b 1) w 0 k ⟨m.b,w,m.sz,m.cap,m.ty⟩ e1 (Nat.le_refl _) g3 fun _=>g4 hver
end Go.Sim
end
noncomputable section
set_option maxRecDepth 100000
namespace Go.Sim.M
open Go.IntKind (i64 u64 u8)
open Go.RowKit Go.Proofs
def xcI:Env:=E0.fn 19 1 (lsOf []) (lpsOf [])
theorem xnq:OrcOk Tryz.prog (ITryz.at 1) xcI:=xKp.fn
theorem xl3:LoOk Tryz.prog (ITryz.at xcI.pin) xcI (Tryz.f115.body.getD .skip):=xaq (by kernel_rfl)
def xdL {T:Type} (a:List UInt8) (δ:T) (κ:Int×Nat×LA→T):T:=br (decide ((byteAVs a).length*1≤140737488355328)&&decide ((byteAVs a).length≤4611686018427387904)) (κ ((↑a.length:Int),(byteAVs a).length,byteAVs a)) δ
def xaQ (a:List UInt8):Option (Int×Nat×LA):=xdL a none some
theorem xpc (a:List UInt8):Enc (fun (p:Int×Nat×LA)=>(((AV.tuple [AV.int .i64 p.1,.top],([⟨0,2,137,[AV.agg [AV.own 0 0 0 0,AV.osl 1 0 0 p.2.1]],false,false⟩,⟨0,1,5,p.2.2,false,true⟩]:List Box))):(AV×List Box))) (xaQ a) (XFM Tryz.prog xcI Tryz.f115 (Tryz.f115.body.getD .skip) [AV.own (0:Id) 0 0 0,AV.str a] [{ ver:=0,sz:=2,ty:=(137:TypeId),xs:=[AV.agg [AV.nilptr,AV.nils]],frz:=false,pm:=true }]):=by
 refine eV (xdL a none (fun (p:Int×Nat×LA)=>some (((AV.tuple [AV.int .i64 p.1,.top],([⟨0,2,137,[AV.agg [AV.own 0 0 0 0,AV.osl 1 0 0 p.2.1]],false,false⟩,⟨0,1,5,p.2.2,false,true⟩]:List Box))):(AV×List Box)))) (by kernel_rfl) ?_;unfold xaQ xdL;repeat' first|exact eN|exact eS rfl|apply eB
def xja:LA→List Box→Option (Bool×AV×List Box):=omOf (sCons (sEq (pOwn 0 0 0 0)) (sCons (sEq pStr) sNil)) (pCons (pBox 0 2 (137:TypeId) false true (pCons (pAgg (pCons pNilptr (pCons pNils pNil))) pNil)) pNil) fun (_,(a,_)) (((_,(_,_)),_),_)=>((xaQ a).isSome,((AV.tuple [AV.int .i64 ((xaQ a).getD (0,0,[])).1,.top],([⟨0,2,137,[AV.agg [AV.own 0 0 0 0,AV.osl 1 0 0 ((xaQ a).getD (0,0,[])).2.1]],false,false⟩,⟨0,1,5,((xaQ a).getD (0,0,[])).2.2,false,true⟩]:List Box))))
theorem xpe:OmOk Tryz.prog ITryz 115 (xja):=xfP fun c e h g f=>by
 obtain ⟨_,⟨i,_⟩⟩:=c
 obtain ⟨⟨⟨_,⟨_,_⟩⟩,_⟩,_⟩:=e
 obtain ⟨a,b⟩:=Prod.mk.inj f
 refine xdq (p:=xcI.pin) (xdV mxTryz (inv0Ok Tryz.prog _) rfl xnq rfl Tryz.func115 rfl (by kernel_rfl) xl3 ((xpc _ _ (xab (d:=(0,0,[])) a)).trans ?_))
 exact congrArg some b
def xK1:Env:=E0.withM 115 xja
theorem xHr:OrcOk Tryz.prog ITryz xK1:=xKp.withM xpe
def xcC:Env:=xK1.fn 19 2 (lsOf []) (lpsOf [])
theorem xm3:OrcOk Tryz.prog (ITryz.at 2) xcC:=xHr.fn
theorem xlB:LoOk Tryz.prog (ITryz.at xcC.pin) xcC (Tryz.f115.body.getD .skip):=xaq (by kernel_rfl)
def xdG {T:Type} (a:List UInt8) (n:Nat) (b:LA) (δ:T) (κ:Int×Nat×LA→T):T:=br (n==b.length&&(decide ((n+(byteAVs a).length)*1≤140737488355328)&&decide (n+(byteAVs a).length≤4611686018427387904))) (κ ((↑a.length:Int),n+(byteAVs a).length,b++byteAVs a)) δ
def xaM (a:List UInt8) (n:Nat) (b:LA):Option (Int×Nat×LA):=xdG a n b none some
theorem xoK (a:List UInt8) (n:Nat) (xs:LA):Enc (fun (p:Int×Nat×LA)=>(((AV.tuple [AV.int .i64 p.1,.top],([⟨0,2,137,[AV.agg [AV.own 0 0 0 0,AV.osl 1 1 0 p.2.1]],false,false⟩,⟨1,1,5,p.2.2,false,true⟩]:List Box))):(AV×List Box))) (xaM a n xs) (XFM Tryz.prog xcC Tryz.f115 (Tryz.f115.body.getD .skip) [AV.own (0:Id) 0 0 0,AV.str a] [{ ver:=0,sz:=2,ty:=(137:TypeId),xs:=[AV.agg [AV.own (0:Id) 0 0 0,AV.osl (1:Id) 0 0 n]],frz:=false,pm:=false },{ ver:=0,sz:=1,ty:=(5:TypeId),xs:=xs,frz:=false,pm:=true }]):=by
 refine eV (xdG a n xs none (fun (p:Int×Nat×LA)=>some (((AV.tuple [AV.int .i64 p.1,.top],([⟨0,2,137,[AV.agg [AV.own 0 0 0 0,AV.osl 1 1 0 p.2.1]],false,false⟩,⟨1,1,5,p.2.2,false,true⟩]:List Box))):(AV×List Box)))) (by kernel_rfl) ?_;unfold xaM xdG;repeat' first|exact eN|exact eS rfl|apply eB
def xi5:LA→List Box→Option (Bool×AV×List Box):=omOf (sCons (sEq (pOwn 0 0 0 0)) (sCons (sEq pStr) sNil)) (pCons (pBox 0 2 (137:TypeId) false false (pCons (pAgg (pCons (pOwn 0 0 0 0) (pCons (pOsl 1 0 0) pNil))) pNil)) (pCons (pBox 0 1 (5:TypeId) false true pAny) pNil)) fun (_,(a,_)) (((_,(n,_)),_),(b,_))=>((xaM a n b).isSome,((AV.tuple [AV.int .i64 ((xaM a n b).getD (0,0,[])).1,.top],([⟨0,2,137,[AV.agg [AV.own 0 0 0 0,AV.osl 1 1 0 ((xaM a n b).getD (0,0,[])).2.1]],false,false⟩,⟨1,1,5,((xaM a n b).getD (0,0,[])).2.2,false,true⟩]:List Box))))
theorem xoM:OmOk Tryz.prog ITryz 115 (xi5):=xfP fun c e h g f=>by
 obtain ⟨_,⟨i,_⟩⟩:=c
 obtain ⟨⟨⟨_,⟨n,_⟩⟩,_⟩,⟨j,_⟩⟩:=e
 obtain ⟨a,b⟩:=Prod.mk.inj f
 refine xdq (p:=xcC.pin) (xdV mxTryz (inv0Ok Tryz.prog _) rfl xm3 rfl Tryz.func115 rfl (by kernel_rfl) xlB ((xoK _ _ _ _ (xab (d:=(0,0,[])) a)).trans ?_))
 exact congrArg some b
def xK4:Env:=xK1.withM 115 xi5
theorem xIt:OrcOk Tryz.prog ITryz xK4:=xHr.withM xoM
def xcE:Env:=xK4.fn 19 2 (lsOf []) (lpsOf [])
theorem xmZ:OrcOk Tryz.prog (ITryz.at 2) xcE:=xIt.fn
theorem xlK:LoOk Tryz.prog (ITryz.at xcE.pin) xcE (Tryz.f115.body.getD .skip):=xaq (by kernel_rfl)
def xfC {T:Type} (a:List UInt8) (n:Nat) (b:LA) (δ:T) (κ:Int×Nat×LA→T):T:=br (n==b.length&&(decide ((n+(byteAVs a).length)*1≤140737488355328)&&decide (n+(byteAVs a).length≤4611686018427387904))) (κ ((↑a.length:Int),n+(byteAVs a).length,b++byteAVs a)) δ
def xca (a:List UInt8) (n:Nat) (b:LA):Option (Int×Nat×LA):=xfC a n b none some
theorem xoP (a:List UInt8) (n:Nat) (xs:LA):Enc (fun (p:Int×Nat×LA)=>(((AV.tuple [AV.int .i64 p.1,.top],([⟨0,2,137,[AV.agg [AV.own 0 0 0 0,AV.osl 1 2 0 p.2.1]],false,false⟩,⟨2,1,5,p.2.2,false,true⟩]:List Box))):(AV×List Box))) (xca a n xs) (XFM Tryz.prog xcE Tryz.f115 (Tryz.f115.body.getD .skip) [AV.own (0:Id) 0 0 0,AV.str a] [{ ver:=0,sz:=2,ty:=(137:TypeId),xs:=[AV.agg [AV.own (0:Id) 0 0 0,AV.osl (1:Id) 1 0 n]],frz:=false,pm:=false },{ ver:=1,sz:=1,ty:=(5:TypeId),xs:=xs,frz:=false,pm:=true }]):=by
 refine eV (xfC a n xs none (fun (p:Int×Nat×LA)=>some (((AV.tuple [AV.int .i64 p.1,.top],([⟨0,2,137,[AV.agg [AV.own 0 0 0 0,AV.osl 1 2 0 p.2.1]],false,false⟩,⟨2,1,5,p.2.2,false,true⟩]:List Box))):(AV×List Box)))) (by kernel_rfl) ?_;unfold xca xfC;repeat' first|exact eN|exact eS rfl|apply eB
def xiY:LA→List Box→Option (Bool×AV×List Box):=omOf (sCons (sEq (pOwn 0 0 0 0)) (sCons (sEq pStr) sNil)) (pCons (pBox 0 2 (137:TypeId) false false (pCons (pAgg (pCons (pOwn 0 0 0 0) (pCons (pOsl 1 1 0) pNil))) pNil)) (pCons (pBox 1 1 (5:TypeId) false true pAny) pNil)) fun (_,(a,_)) (((_,(n,_)),_),(b,_))=>((xca a n b).isSome,((AV.tuple [AV.int .i64 ((xca a n b).getD (0,0,[])).1,.top],([⟨0,2,137,[AV.agg [AV.own 0 0 0 0,AV.osl 1 2 0 ((xca a n b).getD (0,0,[])).2.1]],false,false⟩,⟨2,1,5,((xca a n b).getD (0,0,[])).2.2,false,true⟩]:List Box))))
theorem xoN:OmOk Tryz.prog ITryz 115 (xiY):=xfP fun c e h g f=>by
 obtain ⟨_,⟨i,_⟩⟩:=c
 obtain ⟨⟨⟨_,⟨n,_⟩⟩,_⟩,⟨j,_⟩⟩:=e
 obtain ⟨a,b⟩:=Prod.mk.inj f
 refine xdq (p:=xcE.pin) (xdV mxTryz (inv0Ok Tryz.prog _) rfl xmZ rfl Tryz.func115 rfl (by kernel_rfl) xlK ((xoP _ _ _ _ (xab (d:=(0,0,[])) a)).trans ?_))
 exact congrArg some b
def xKh:Env:=xK4.withM 115 xiY
theorem xIC:OrcOk Tryz.prog ITryz xKh:=xIt.withM xoN
def xcc:Env:=xKh.fn 17 1 (lsOf []) (lpsOf [])
theorem xn0:OrcOk Tryz.prog (ITryz.at 1) xcc:=xIC.fn
theorem xmf:LoOk Tryz.prog (ITryz.at xcc.pin) xcc (Tryz.f117.body.getD .skip):=xaq (by kernel_rfl)
def xhu (c:Int):Int:=((c))
def xje (c:Int):Bool:=true
def xkA {T:Type} (c:Int) (δ:T) (κ:Int→T):T:=κ (c)
theorem xqM (c:Int):Pre (xje c) (XFM Tryz.prog xcc Tryz.f117 (Tryz.f117.body.getD .skip) [AV.own (0:Id) 0 0 0,AV.int .u8 c] [{ ver:=0,sz:=2,ty:=(137:TypeId),xs:=[AV.agg [AV.nilptr,AV.nils]],frz:=false,pm:=true }]) ((.top,([⟨0,2,137,[AV.agg [AV.own 0 0 0 0,AV.osl 1 0 0 1]],false,false⟩,⟨0,1,5,[AV.int .u8 (xhu c)],false,true⟩]:List Box))):=by
 have h:XFM Tryz.prog xcc Tryz.f117 (Tryz.f117.body.getD .skip) [AV.own (0:Id) 0 0 0,AV.int .u8 c] [{ ver:=0,sz:=2,ty:=(137:TypeId),xs:=[AV.agg [AV.nilptr,AV.nils]],frz:=false,pm:=true }]=xkA c none (fun (p:Int)=>some (((.top,([⟨0,2,137,[AV.agg [AV.own 0 0 0 0,AV.osl 1 0 0 1]],false,false⟩,⟨0,1,5,[AV.int .u8 p],false,true⟩]:List Box))):(AV×List Box))):=by kernel_rfl
 rw [h];unfold xhu xje xkA;repeat' (first|exact Pre.none|exact Pre.tt rfl|exact Pre.some rfl|refine Pre.l ?_|refine Pre.r ?_|refine Pre.br (f:=fun (p:Int)=>(((.top,([⟨0,2,137,[AV.agg [AV.own 0 0 0 0,AV.osl 1 0 0 1]],false,false⟩,⟨0,1,5,[AV.int .u8 p],false,true⟩]:List Box))):(AV×List Box))) ?_ ?_|refine Pre.brt (f:=fun (p:Int)=>(((.top,([⟨0,2,137,[AV.agg [AV.own 0 0 0 0,AV.osl 1 0 0 1]],false,false⟩,⟨0,1,5,[AV.int .u8 p],false,true⟩]:List Box))):(AV×List Box))) ?_ ?_)
def xkz:LA→List Box→Option (Bool×AV×List Box):=omOf (sCons (sEq (pOwn 0 0 0 0)) (sCons (sEq (pInt .u8)) sNil)) (pCons (pBox 0 2 (137:TypeId) false true (pCons (pAgg (pCons pNilptr (pCons pNils pNil))) pNil)) pNil) fun (_,(c,_)) (((_,(_,_)),_),_)=>(true,((.top,([⟨0,2,137,[AV.agg [AV.own 0 0 0 0,AV.osl 1 0 0 1]],false,false⟩,⟨0,1,5,[AV.int .u8 (xhu c)],false,true⟩]:List Box))))
theorem xqI:OmOk Tryz.prog ITryz 117 (xkz):=xfP fun b d h f e=>by
 obtain ⟨_,⟨c,_⟩⟩:=b
 obtain ⟨⟨⟨_,⟨_,_⟩⟩,_⟩,_⟩:=d
 obtain ⟨g,a⟩:=Prod.mk.inj e
 refine xdq (p:=xcc.pin) (xdV mxTryz (inv0Ok Tryz.prog _) rfl xn0 rfl Tryz.func117 rfl (by kernel_rfl) xmf ((Pre.get (xqM _) rfl).trans ?_))
 exact congrArg some a
def xJ7:Env:=xKh.withM 117 xkz
theorem xG5:OrcOk Tryz.prog ITryz xJ7:=xIC.withM xqI
def xcW:Env:=xJ7.fn 17 2 (lsOf []) (lpsOf [])
theorem xnR:OrcOk Tryz.prog (ITryz.at 2) xcW:=xG5.fn
theorem xmc:LoOk Tryz.prog (ITryz.at xcW.pin) xcW (Tryz.f117.body.getD .skip):=xaq (by kernel_rfl)
def xf5 {T:Type} (c:Int) (n:Nat) (a:LA) (δ:T) (κ:Nat×LA→T):T:=br (n==a.length&&(decide ((n+1)*1≤140737488355328)&&decide (n+1≤4611686018427387904))) (κ (n+1,a++[AV.int .u8 c])) δ
def xbF (c:Int) (n:Nat) (a:LA):Option (Nat×LA):=xf5 c n a none some
theorem xpA (c:Int) (n:Nat) (xs:LA):Enc (fun (p:Nat×LA)=>(((.top,([⟨0,2,137,[AV.agg [AV.own 0 0 0 0,AV.osl 1 1 0 p.1]],false,false⟩,⟨1,1,5,p.2,false,true⟩]:List Box))):(AV×List Box))) (xbF c n xs) (XFM Tryz.prog xcW Tryz.f117 (Tryz.f117.body.getD .skip) [AV.own (0:Id) 0 0 0,AV.int .u8 c] [{ ver:=0,sz:=2,ty:=(137:TypeId),xs:=[AV.agg [AV.own (0:Id) 0 0 0,AV.osl (1:Id) 0 0 n]],frz:=false,pm:=false },{ ver:=0,sz:=1,ty:=(5:TypeId),xs:=xs,frz:=false,pm:=true }]):=by
 refine eV (xf5 c n xs none (fun (p:Nat×LA)=>some (((.top,([⟨0,2,137,[AV.agg [AV.own 0 0 0 0,AV.osl 1 1 0 p.1]],false,false⟩,⟨1,1,5,p.2,false,true⟩]:List Box))):(AV×List Box)))) (by kernel_rfl) ?_;unfold xbF xf5;repeat' first|exact eN|exact eS rfl|apply eB
def xj9:LA→List Box→Option (Bool×AV×List Box):=omOf (sCons (sEq (pOwn 0 0 0 0)) (sCons (sEq (pInt .u8)) sNil)) (pCons (pBox 0 2 (137:TypeId) false false (pCons (pAgg (pCons (pOwn 0 0 0 0) (pCons (pOsl 1 0 0) pNil))) pNil)) (pCons (pBox 0 1 (5:TypeId) false true pAny) pNil)) fun (_,(c,_)) (((_,(n,_)),_),(a,_))=>((xbF c n a).isSome,((.top,([⟨0,2,137,[AV.agg [AV.own 0 0 0 0,AV.osl 1 1 0 ((xbF c n a).getD (0,[])).1]],false,false⟩,⟨1,1,5,((xbF c n a).getD (0,[])).2,false,true⟩]:List Box))))
theorem xqj:OmOk Tryz.prog ITryz 117 (xj9):=xfP fun e f i h g=>by
 obtain ⟨_,⟨c,_⟩⟩:=e
 obtain ⟨⟨⟨_,⟨n,_⟩⟩,_⟩,⟨j,_⟩⟩:=f
 obtain ⟨a,b⟩:=Prod.mk.inj g
 refine xdq (p:=xcW.pin) (xdV mxTryz (inv0Ok Tryz.prog _) rfl xnR rfl Tryz.func117 rfl (by kernel_rfl) xmc ((xpA _ _ _ _ (xab (d:=(0,[])) a)).trans ?_))
 exact congrArg some b
def xKV:Env:=xJ7.withM 117 xj9
theorem xH5:OrcOk Tryz.prog ITryz xKV:=xG5.withM xqj
def xcV:Env:=xKV.fn 17 2 (lsOf []) (lpsOf [])
theorem xnW:OrcOk Tryz.prog (ITryz.at 2) xcV:=xH5.fn
theorem xmd:LoOk Tryz.prog (ITryz.at xcV.pin) xcV (Tryz.f117.body.getD .skip):=xaq (by kernel_rfl)
def xd7 {T:Type} (c:Int) (n:Nat) (a:LA) (δ:T) (κ:Nat×LA→T):T:=br (n==a.length&&(decide ((n+1)*1≤140737488355328)&&decide (n+1≤4611686018427387904))) (κ (n+1,a++[AV.int .u8 c])) δ
def xbm (c:Int) (n:Nat) (a:LA):Option (Nat×LA):=xd7 c n a none some
theorem xpE (c:Int) (n:Nat) (xs:LA):Enc (fun (p:Nat×LA)=>(((.top,([⟨0,2,137,[AV.agg [AV.own 0 0 0 0,AV.osl 1 2 0 p.1]],false,false⟩,⟨2,1,5,p.2,false,true⟩]:List Box))):(AV×List Box))) (xbm c n xs) (XFM Tryz.prog xcV Tryz.f117 (Tryz.f117.body.getD .skip) [AV.own (0:Id) 0 0 0,AV.int .u8 c] [{ ver:=0,sz:=2,ty:=(137:TypeId),xs:=[AV.agg [AV.own (0:Id) 0 0 0,AV.osl (1:Id) 1 0 n]],frz:=false,pm:=false },{ ver:=1,sz:=1,ty:=(5:TypeId),xs:=xs,frz:=false,pm:=true }]):=by
 refine eV (xd7 c n xs none (fun (p:Nat×LA)=>some (((.top,([⟨0,2,137,[AV.agg [AV.own 0 0 0 0,AV.osl 1 2 0 p.1]],false,false⟩,⟨2,1,5,p.2,false,true⟩]:List Box))):(AV×List Box)))) (by kernel_rfl) ?_;unfold xbm xd7;repeat' first|exact eN|exact eS rfl|apply eB
def xjI:LA→List Box→Option (Bool×AV×List Box):=omOf (sCons (sEq (pOwn 0 0 0 0)) (sCons (sEq (pInt .u8)) sNil)) (pCons (pBox 0 2 (137:TypeId) false false (pCons (pAgg (pCons (pOwn 0 0 0 0) (pCons (pOsl 1 1 0) pNil))) pNil)) (pCons (pBox 1 1 (5:TypeId) false true pAny) pNil)) fun (_,(c,_)) (((_,(n,_)),_),(a,_))=>((xbm c n a).isSome,((.top,([⟨0,2,137,[AV.agg [AV.own 0 0 0 0,AV.osl 1 2 0 ((xbm c n a).getD (0,[])).1]],false,false⟩,⟨2,1,5,((xbm c n a).getD (0,[])).2,false,true⟩]:List Box))))
theorem xqa:OmOk Tryz.prog ITryz 117 (xjI):=xfP fun e f i h g=>by
 obtain ⟨_,⟨c,_⟩⟩:=e
 obtain ⟨⟨⟨_,⟨n,_⟩⟩,_⟩,⟨j,_⟩⟩:=f
 obtain ⟨a,b⟩:=Prod.mk.inj g
 refine xdq (p:=xcV.pin) (xdV mxTryz (inv0Ok Tryz.prog _) rfl xnW rfl Tryz.func117 rfl (by kernel_rfl) xmd ((xpE _ _ _ _ (xab (d:=(0,[])) a)).trans ?_))
 exact congrArg some b
def xOv:Env:=xKV.withM 117 xjI
theorem xNO:OrcOk Tryz.prog ITryz xOv:=xH5.withM xqa
abbrev EK1:Env:=xOv
theorem xMz:OrcOk Tryz.prog ITryz EK1:=xNO
end Go.Sim.M
end
noncomputable section
set_option maxRecDepth 100000
namespace Go.Sim.M
open Go.IntKind (i64 u64 u8)
open Go.RowKit Go.Proofs
def xhT:Env:=EK1.fn 18 0 (lsOf []) (lpsOf [])
theorem xzZ:OrcOk Tryz.prog (ITryz.at 0) xhT:=xMz.fn
theorem xvx:LoOk Tryz.prog (ITryz.at xhT.pin) xhT (Tryz.f52.body.getD .skip):=xaq (by kernel_rfl)
def xf7 (a b:Int):Bool:=(br (decide (a≥0)) (br (decide (a<b)) ((decide (b≤1099511627776))) ((false))) ((false)))
def xts (a b:Int):Bool:=true
def xvn {T:Type} (a b:Int) (δ:T) (κ:Bool→T):T:=br (decide (a≥0)) (br (decide (a<b)) (κ (decide (b≤1099511627776))) (κ (false))) (κ (false))
theorem xFv (a b:Int):Pre (xts a b) (XF Tryz.prog xhT Tryz.f52 (Tryz.f52.body.getD .skip) [AV.agg [AV.int .i64 a,AV.int .i64 b]]) (AV.bool (xf7 a b)):=by
 have h:XF Tryz.prog xhT Tryz.f52 (Tryz.f52.body.getD .skip) [AV.agg [AV.int .i64 a,AV.int .i64 b]]=xvn a b none (fun (p:Bool)=>some ((AV.bool p):AV)):=by kernel_rfl
 rw [h];unfold xf7 xts xvn;repeat' (first|exact Pre.none|exact Pre.tt rfl|exact Pre.some rfl|refine Pre.l ?_|refine Pre.r ?_|refine Pre.br (f:=fun (p:Bool)=>((AV.bool p):AV)) ?_ ?_|refine Pre.brt (f:=fun (p:Bool)=>((AV.bool p):AV)) ?_ ?_)
def xu8:LA→Option (Bool×AV):=ocOf (sCons (sAgg (sCons (sEq (pInt .i64)) (sCons (sEq (pInt .i64)) sNil))) sNil) fun ((a,(b,_)),_)=>(true,(AV.bool (xf7 a b)))
theorem xEy:OcOk Tryz.prog ITryz 52 (xu8):=xaN fun b g c=>by
 obtain ⟨⟨d,⟨e,_⟩⟩,_⟩:=b
 obtain ⟨f,a⟩:=Prod.mk.inj c
 refine xaH (p:=xhT.pin) (xaL mxTryz (inv0Ok Tryz.prog _) rfl xzZ Tryz.func52 rfl (by kernel_rfl) xvx ((Pre.get (xFv _ _) rfl).trans ?_))
 exact congrArg some a
def xDo:Env:=EK1.with 52 xu8
theorem xwu:OrcOk Tryz.prog ITryz xDo:=xMz.with xEy
def xhS:Env:=xDo.fn 37 0 (lsOf []) (lpsOf [])
theorem xy1:OrcOk Tryz.prog (ITryz.at 0) xhS:=xwu.fn
theorem xuG:LoOk Tryz.prog (ITryz.at xhS.pin) xhS (loopAt Tryz.f91 1):=xaq (by kernel_rfl)
def xhr (b:Int) (a:LA):=((a.getD (0+b.toNat) .top).cells.getD 0 .top).toInt
def xmL (d:Int) (c:Nat) (b a:LA):=((xaM (Lib.itoa (xhr d b)) c a).getD (0,0,[])).snd
def xmF (d:Int) (c:Nat) (b a:LA):=xbm 32 (xmL d c b a).fst (xmL d c b a).snd
def xmQ (d:Int) (c:Nat) (b a:LA):=(xmF d c b a).getD (0,[])
def xih {T:Type} (k:LA) (l j:Int) (e:Nat) (i c:Int) (d:Nat) (f g:Int) (h:List UInt8) (a b:LA) (δ:T) (κl:(Int×Nat×Int×Int×List UInt8×LA×LA)→T) (κr:(Nat×Int×Int×List UInt8×LA)→T):T:=br (decide (c<i)) (br (decide (0≤c)&&decide (c<(↑e:Int))) (br (decide (0+c.toNat<a.length)&&hasSh1 (Sh.int .i64) ((a.getD (0+c.toNat) .top).cells.getD 0 .top)) (br (decide ((-9223372036854775808)≤xhr c a)&&decide (xhr c a≤9223372036854775807)) (br ((xaM (Lib.itoa (xhr c a)) d b).isSome) (br ((xmF c d a b).isSome) (κl (i64.wrap (c+1),(xmQ c d a b).fst,f,g,h,a,(xmQ c d a b).snd)) δ) δ) δ) δ) δ) (κr (d,f,g,h,b))
def xbi (k:LA) (l e:Int) (c:Nat) (f:Int):(Int×Nat×Int×Int×List UInt8×LA×LA)→Option ((Int×Nat×Int×Int×List UInt8×LA×LA)⊕(Nat×Int×Int×List UInt8×LA)):=fun (g,d,h,i,j,b,a)=>xih k l e c f g d h i j b a none (fun s=>some (.inl s)) (fun p=>some (.inr p))
def xgB (k:LA) (l e:Int) (c:Nat) (f:Int):(Int×Nat×Int×Int×List UInt8×LA×LA)→LA×List Box:=fun (g,d,h,i,j,b,a)=>([AV.own 0 0 0 0,AV.own 1 0 0 0,AV.list 3 k,AV.int .i64 l,AV.int .i64 e,AV.osl 2 0 0 c,AV.int .i64 f,AV.int .i64 g],[⟨0,2,137,[AV.agg [AV.own 0 0 0 0,AV.osl 3 0 0 d]],false,false⟩,⟨0,3,73,[AV.agg [AV.int .i64 h,AV.int .i64 i,AV.str j]],false,true⟩,⟨0,1,3,b,false,true⟩,⟨0,1,5,a,false,true⟩])
def xfc (c:LA) (d a:Int) (b:Nat) (e:Int):(Nat×Int×Int×List UInt8×LA)→LR:=fun p=>(.leaf (.exit 2) [AV.own 0 0 0 0,AV.own 1 0 0 0,AV.list 3 c,AV.int .i64 d,AV.int .i64 a] [⟨0,2,137,[AV.agg [AV.own 0 0 0 0,AV.osl 2 0 0 p.1]],false,false⟩,⟨0,3,73,[AV.agg [AV.int .i64 p.2.1,AV.int .i64 p.2.2.1,AV.str p.2.2.2.1]],false,true⟩,⟨0,1,5,p.2.2.2.2,false,true⟩])
abbrev xAS (a:LA) (H:List Box):=XR Tryz.prog xhS [3,5,8,9,10,21,22,23] [3,5,8,9,10] [] (loopAt Tryz.f91 1) a H
theorem xA9 (d:LA) (e b:Int) (a:Nat) (c:Int) (s:Int×Nat×Int×Int×List UInt8×LA×LA):Enc (encR (xgB d e b a c) (xfc d e b a c)) (xbi d e b a c s) (xAS (xgB d e b a c s).1 (xgB d e b a c s).2):=by
 obtain ⟨i,h,j,k,l,g,f⟩:=s
 refine eV (xih d e b a c i h j k l g f none (fun s=>some (encR (xgB d e b a c) (xfc d e b a c) (.inl s))) (fun p=>some (encR (xgB d e b a c) (xfc d e b a c) (.inr p)))) (by kernel_rfl) ?_;unfold xbi xih;repeat' first|exact eN|exact eS rfl|apply eB
def xmm:Lp:=lpOf [3,5,8,9,10,21,22,23] [3,5,8,9,10] [] (pCons (pOwn 0 0 0 0) (pCons (pOwn 1 0 0 0) (pCons (pList 3 pAny) (pCons (pInt .i64) (pCons (pInt .i64) (pCons (pOsl 2 0 0) (pCons (pInt .i64) (pCons (pInt .i64) pNil)))))))) (pCons (pBox 0 2 137 false false (pCons (pAgg (pCons (pOwn 0 0 0 0) (pCons (pOsl 3 0 0) pNil))) pNil)) (pCons (pBox 0 3 73 false true (pCons (pAgg (pCons (pInt .i64) (pCons (pInt .i64) (pCons pStr pNil)))) pNil)) (pCons (pBox 0 1 3 false true pAny) (pCons (pBox 0 1 5 false true pAny) pNil)))) fun (_,(_,(k,(l,(d,(b,(e,(g,_)))))))) (((_,(f,_)),_),(((h,(i,(j,_))),_),(c,(a,_))))=>((Iter (xbi k l d b e) (g,f,h,i,j,c,a)).isSome,xfc k l d b e ((Iter (xbi k l d b e) (g,f,h,i,j,c,a)).getD (0,0,0,[],[])))
theorem xqU:LoopOk Tryz.prog (ITryz.at xhS.pin) xhS.nt (loopAt Tryz.f91 1) xmm:=xaY fun n o r q=>by
 obtain ⟨_,⟨_,⟨f,⟨g,⟨c,⟨a,⟨d,⟨i,_⟩⟩⟩⟩⟩⟩⟩⟩:=n
 obtain ⟨⟨⟨_,⟨h,_⟩⟩,_⟩,⟨⟨⟨j,⟨k,⟨l,_⟩⟩⟩,_⟩,⟨e,⟨b,_⟩⟩⟩⟩:=o
 obtain ⟨m,rfl⟩:=Prod.mk.inj q
 exact xaG mxTryz (inv0Ok Tryz.prog _) rfl xy1 xuG (xgB f g c a d) (xfc f g c a d) (fun p=>by simp only [xfc,LR.eval];first|(simp;done)|(repeat' split<;>simp)) (xA9 f g c a d) (s:=(i,h,j,k,l,e,b)) (xab m)
def xhw:Env:=xDo.fn 37 0 (lsOf []) (lpsOf [(6,xmm)])
theorem xzA:OrcOk Tryz.prog (ITryz.at 0) xhw:=xwu.fn
theorem xuL:LoOk Tryz.prog (ITryz.at xhw.pin) xhw (loopAt Tryz.f91 0):=xaP (ls:=[loopAt Tryz.f91 1]) (by kernel_rfl) (lkC xqU lkN)
def xmT (b:LA) (e a:Int) (d:Nat) (c:LA):=Iter (xbi b e a 3 3) (0,d,((b.getD a.toNat .top).cells.getD 0 .top).toInt,((b.getD a.toNat .top).cells.getD 1 .top).toInt,((b.getD a.toNat .top).cells.getD 2 .top).toStr,[AV.int .i64 ((b.getD a.toNat .top).cells.getD 0 .top).toInt,AV.int .i64 ((b.getD a.toNat .top).cells.getD 1 .top).toInt,AV.int .i64 (↑((b.getD a.toNat .top).cells.getD 2 .top).toStr.length:Int)],c)
def xmV (d:LA) (e c:Int) (b:Nat) (a:LA):=(xmT d e c b a).getD (0,0,0,[],[])
def xmJ (d:LA) (e c:Int) (b:Nat) (a:LA):=(xmV d e c b a).snd.snd.snd
def xmh (d:LA) (e c:Int) (b:Nat) (a:LA):=xaM (xmJ d e c b a).fst (xmV d e c b a).fst (xmJ d e c b a).snd
def xmu (d:LA) (e c:Int) (b:Nat) (a:LA):=((xmh d e c b a).getD (0,0,[])).snd
def xia {T:Type} (d:LA) (e b:Int) (c:Nat) (a:LA) (δ:T) (κl:(Int×Nat×LA)→T) (κr:(Nat×LA)→T):T:=br (decide (b<e)) (br (decide (0≤b)&&decide (b<d.length)) (br (decide (b.toNat<d.length)&&((d.getD b.toNat .top).cells.length==3&&hasShs [Sh.int .i64,Sh.int .i64,Sh.str] (d.getD b.toNat .top).cells 0)) (br ((xmT d e b c a).isSome) (br ((xmh d e b c a).isSome) (κl (i64.wrap (b+1),(xmu d e b c a).fst,(xmu d e b c a).snd)) δ) δ) δ) δ) (κr (c,a))
def xcy (d:LA) (e:Int):(Int×Nat×LA)→Option ((Int×Nat×LA)⊕(Nat×LA)):=fun (c,b,a)=>xia d e c b a none (fun s=>some (.inl s)) (fun p=>some (.inr p))
def xgv (d:LA) (e:Int):(Int×Nat×LA)→LA×List Box:=fun (c,b,a)=>([AV.own 0 0 0 0,AV.list 3 d,AV.int .i64 e,AV.int .i64 c],[⟨0,2,137,[AV.agg [AV.own 0 0 0 0,AV.osl 1 0 0 b]],false,false⟩,⟨0,1,5,a,false,true⟩])
def xe7 (a:LA) (b:Int):(Nat×LA)→LR:=fun p=>(.leaf (.exit 0) [AV.own 0 0 0 0] [⟨0,2,137,[AV.agg [AV.own 0 0 0 0,AV.osl 1 0 0 p.1]],false,false⟩,⟨0,1,5,p.2,false,true⟩])
abbrev xAJ (a:LA) (H:List Box):=XR Tryz.prog xhw [3,8,9,10] [3] [] (loopAt Tryz.f91 0) a H
theorem xBa (a:LA) (b:Int) (s:Int×Nat×LA):Enc (encR (xgv a b) (xe7 a b)) (xcy a b s) (xAJ (xgv a b s).1 (xgv a b s).2):=by
 obtain ⟨e,d,c⟩:=s
 refine eV (xia a b e d c none (fun s=>some (encR (xgv a b) (xe7 a b) (.inl s))) (fun p=>some (encR (xgv a b) (xe7 a b) (.inr p)))) (by kernel_rfl) ?_;unfold xcy xia;repeat' first|exact eN|exact eS rfl|apply eB
def xrz:Lp:=lpOf [3,8,9,10] [3] [] (pCons (pOwn 0 0 0 0) (pCons (pList 3 pAny) (pCons (pInt .i64) (pCons (pInt .i64) pNil)))) (pCons (pBox 0 2 137 false false (pCons (pAgg (pCons (pOwn 0 0 0 0) (pCons (pOsl 1 0 0) pNil))) pNil)) (pCons (pBox 0 1 5 false true pAny) pNil)) fun (_,(d,(e,(c,_)))) (((_,(b,_)),_),(a,_))=>((Iter (xcy d e) (c,b,a)).isSome,xe7 d e ((Iter (xcy d e) (c,b,a)).getD (0,[])))
theorem xyz:LoopOk Tryz.prog (ITryz.at xhw.pin) xhw.nt (loopAt Tryz.f91 0) xrz:=xaY fun g h j i=>by
 obtain ⟨_,⟨b,⟨c,⟨e,_⟩⟩⟩⟩:=g
 obtain ⟨⟨⟨_,⟨d,_⟩⟩,_⟩,⟨a,_⟩⟩:=h
 obtain ⟨f,rfl⟩:=Prod.mk.inj i
 exact xaG mxTryz (inv0Ok Tryz.prog _) rfl xzA xuL (xgv b c) (xe7 b c) (fun p=>by simp only [xe7,LR.eval];first|(simp;done)|(repeat' split<;>simp)) (xBa b c) (s:=(e,d,a)) (xab f)
def xjS:Env:=xDo.fn 37 0 (lsOf []) (lpsOf [(6,xmm),(3,xrz)])
theorem xAc:OrcOk Tryz.prog (ITryz.at 0) xjS:=xwu.fn
theorem xwB:LoOk Tryz.prog (ITryz.at xjS.pin) xjS (Tryz.f91.body.getD .skip):=xaP (ls:=[loopAt Tryz.f91 0,loopAt Tryz.f91 1]) (by kernel_rfl) (lkC xyz (lkC xqU lkN))
def xer (a:LA):=((a.getD 0 .top).cells.getD 0 .top).toInt
def xqf (a:LA):=xbF 32 ((xaQ (Lib.itoa (xer a))).getD (0,0,[])).snd.fst ((xaQ (Lib.itoa (xer a))).getD (0,0,[])).snd.snd
def xp9 (a:LA):=(xqf a).getD (0,[])
def xp8 (a:LA):=Iter (xbi a (↑a.length:Int) 0 3 3) (1,(xp9 a).fst,xer a,((a.getD 0 .top).cells.getD 1 .top).toInt,((a.getD 0 .top).cells.getD 2 .top).toStr,[AV.int .i64 (xer a),AV.int .i64 ((a.getD 0 .top).cells.getD 1 .top).toInt,AV.int .i64 (↑((a.getD 0 .top).cells.getD 2 .top).toStr.length:Int)],(xp9 a).snd)
def xpD (a:LA):=(xp8 a).getD (0,0,0,[],[])
def xpu (a:LA):=(xpD a).snd.snd.snd
def xpP (a:LA):=xaM (xpu a).fst (xpD a).fst (xpu a).snd
def xpU (a:LA):=((xpP a).getD (0,0,[])).snd
def xpG (a:LA):=Iter (xcy a (↑a.length:Int)) (1,(xpU a).fst,(xpU a).snd)
def xpR (a:LA):=(xpG a).getD (0,[])
def xjW (a:LA):=(xpR a).snd
def xnn {T:Type} (a:LA) (δ:T) (κ:List UInt8→T):T:=br (decide (0<(↑a.length:Int))) (br (decide (0<(↑a.length:Int))) (br (decide (0<a.length)&&((a.getD 0 .top).cells.length==3&&hasShs [Sh.int .i64,Sh.int .i64,Sh.str] (a.getD 0 .top).cells 0)) (br (decide ((-9223372036854775808)≤xer a)&&decide (xer a≤9223372036854775807)) (br ((xaQ (Lib.itoa (xer a))).isSome) (br ((xqf a).isSome) (br ((xp8 a).isSome) (br ((xpP a).isSome) (br ((xpG a).isSome) (br (decide ((xpR a).fst=(xjW a).length)&&isBytes (xjW a)&&decide ((xjW a).length≠0)) (κ (strOf (xjW a))) δ) δ) δ) δ) δ) δ) δ) δ) δ) (κ ([]))
def xga (a:LA):Option (List UInt8):=xnn a none some
theorem xEo (a:LA):Enc (fun (p:List UInt8)=>((AV.str p):AV)) (xga a) (XF Tryz.prog xjS Tryz.f91 (Tryz.f91.body.getD .skip) [AV.list 3 a]):=by
 refine eV (xnn a none (fun (p:List UInt8)=>some ((AV.str p):AV))) (by kernel_rfl) ?_;unfold xga xnn;repeat' first|exact eN|exact eS rfl|apply eB
def xvY:LA→Option (Bool×AV):=ocOf (sCons (sList 3 pAny) sNil) fun (a,_)=>((xga a).isSome,(AV.str ((xga a).getD [])))
theorem xFe:OcOk Tryz.prog ITryz 91 (xvY):=xaN fun c g e=>by
 obtain ⟨f,_⟩:=c
 obtain ⟨a,b⟩:=Prod.mk.inj e
 refine xaH (p:=xjS.pin) (xaL mxTryz (inv0Ok Tryz.prog _) rfl xAc Tryz.func91 rfl (by kernel_rfl) xwB ((xEo _ _ (xab (d:=[]) a)).trans ?_))
 exact congrArg some b
def xOQ:Env:=xDo.with 91 xvY
theorem xNk:OrcOk Tryz.prog ITryz xOQ:=xwu.with xFe
abbrev EK2:Env:=xOQ
theorem xLD:OrcOk Tryz.prog ITryz EK2:=xNk
end Go.Sim.M
end
noncomputable section
set_option maxRecDepth 100000
namespace Go.Sim.M
open Go.IntKind (i64 u64 u8)
open Go.RowKit Go.Proofs
def xkV:Env:=EK2.fn 6 0 (lsOf []) (lpsOf [])
theorem xDz:OrcOk Tryz.prog (ITryz.at 0) xkV:=xLD.fn
theorem xBj:LoOk Tryz.prog (ITryz.at xkV.pin) xkV (Tryz.f84.body.getD .skip):=xaq (by kernel_rfl)
def xiC (x:Int):Bool:=((x != x))
def xwV (x:Int):Bool:=true
def xBK {T:Type} (x:Int) (δ:T) (κ:Bool→T):T:=κ (x != x)
theorem xI0 (x:Int):Pre (xwV x) (XF Tryz.prog xkV Tryz.f84 (Tryz.f84.body.getD .skip) [AV.int .i64 x]) (AV.bool (xiC x)):=by
 have h:XF Tryz.prog xkV Tryz.f84 (Tryz.f84.body.getD .skip) [AV.int .i64 x]=xBK x none (fun (p:Bool)=>some ((AV.bool p):AV)):=by kernel_rfl
 rw [h];unfold xiC xwV xBK;repeat' (first|exact Pre.none|exact Pre.tt rfl|exact Pre.some rfl|refine Pre.l ?_|refine Pre.r ?_|refine Pre.br (f:=fun (p:Bool)=>((AV.bool p):AV)) ?_ ?_|refine Pre.brt (f:=fun (p:Bool)=>((AV.bool p):AV)) ?_ ?_)
def xBN:LA→Option (Bool×AV):=ocOf (sCons (sEq (pInt .i64)) sNil) fun (x,_)=>(true,(AV.bool (xiC x)))
theorem xI4:OcOk Tryz.prog ITryz 84 (xBN):=xaN fun b e c=>by
 obtain ⟨x,_⟩:=b
 obtain ⟨d,a⟩:=Prod.mk.inj c
 refine xaH (p:=xkV.pin) (xaL mxTryz (inv0Ok Tryz.prog _) rfl xDz Tryz.func84 rfl (by kernel_rfl) xBj ((Pre.get (xI0 _) rfl).trans ?_))
 exact congrArg some a
def xKq:Env:=EK2.with 84 xBN
theorem xH4:OrcOk Tryz.prog ITryz xKq:=xLD.with xI4
def xiH:Env:=xKq.fn 20 0 (lsOf []) (lpsOf [])
theorem xAK:OrcOk Tryz.prog (ITryz.at 0) xiH:=xH4.fn
theorem xyJ:LoOk Tryz.prog (ITryz.at xiH.pin) xiH (Tryz.f54.body.getD .skip):=xaq (by kernel_rfl)
def xhi (x y:Int):Int:=(br (xiC x) (br (xiC y) ((0)) (((-1)))) (br (xiC y) ((1)) (br (decide (x<y)) (((-1))) (br (decide (x>y)) ((1)) ((0))))))
def xtZ (x y:Int):Bool:=true
def xw8 {T:Type} (x y:Int) (δ:T) (κ:Int→T):T:=br (xiC x) (br (xiC y) (κ (0)) (κ ((-1)))) (br (xiC y) (κ (1)) (br (decide (x<y)) (κ ((-1))) (br (decide (x>y)) (κ (1)) (κ (0)))))
theorem xGE (x y:Int):Pre (xtZ x y) (XF Tryz.prog xiH Tryz.f54 (Tryz.f54.body.getD .skip) [AV.int .i64 x,AV.int .i64 y]) (AV.int .i64 (xhi x y)):=by
 have h:XF Tryz.prog xiH Tryz.f54 (Tryz.f54.body.getD .skip) [AV.int .i64 x,AV.int .i64 y]=xw8 x y none (fun (p:Int)=>some ((AV.int .i64 p):AV)):=by kernel_rfl
 rw [h];unfold xhi xtZ xw8;repeat' (first|exact Pre.none|exact Pre.tt rfl|exact Pre.some rfl|refine Pre.l ?_|refine Pre.r ?_|refine Pre.br (f:=fun (p:Int)=>((AV.int .i64 p):AV)) ?_ ?_|refine Pre.brt (f:=fun (p:Int)=>((AV.int .i64 p):AV)) ?_ ?_)
def xya:LA→Option (Bool×AV):=ocOf (sCons (sEq (pInt .i64)) (sCons (sEq (pInt .i64)) sNil)) fun (x,(y,_))=>(true,(AV.int .i64 (xhi x y)))
theorem xGU:OcOk Tryz.prog ITryz 54 (xya):=xaN fun b e c=>by
 obtain ⟨x,⟨y,_⟩⟩:=b
 obtain ⟨d,a⟩:=Prod.mk.inj c
 refine xaH (p:=xiH.pin) (xaL mxTryz (inv0Ok Tryz.prog _) rfl xAK Tryz.func54 rfl (by kernel_rfl) xyJ ((Pre.get (xGE _ _) rfl).trans ?_))
 exact congrArg some a
def xKA:Env:=xKq.with 54 xya
theorem xIz:OrcOk Tryz.prog ITryz xKA:=xH4.with xGU
def xmR:Env:=xKA.fn 18 0 (lsOf []) (lpsOf [])
theorem xIa:OrcOk Tryz.prog (ITryz.at 0) xmR:=xIz.fn
theorem xEs:LoOk Tryz.prog (ITryz.at xmR.pin) xmR (Tryz.f71.body.getD .skip):=xaP (ls:=[loopAt Tryz.f71 0]) (by kernel_rfl) (fun l a lp b=>by
 simp only [List.mem_cons,List.not_mem_nil,or_false] at a
 rcases a with rfl
 · rw [show xmR.lp (codeId (loopAt Tryz.f71 0))=none by kernel_rfl] at b
   simp at b)
def xtj (a b c:Int):Int:=(br (a != 0) ((a)) (br (b != 0) ((b)) (br (c != 0) ((c)) ((0)))))
def xDR (a b c:Int):Bool:=true
def xIp {T:Type} (a b c:Int) (δ:T) (κ:Int→T):T:=br (a != 0) (κ (a)) (br (b != 0) (κ (b)) (br (c != 0) (κ (c)) (κ (0))))
theorem xNE (a b c:Int):Pre (xDR a b c) (XF Tryz.prog xmR Tryz.f71 (Tryz.f71.body.getD .skip) [AV.list 1 [AV.int .i64 a,AV.int .i64 b,AV.int .i64 c]]) (AV.int .i64 (xtj a b c)):=by
 have h:XF Tryz.prog xmR Tryz.f71 (Tryz.f71.body.getD .skip) [AV.list 1 [AV.int .i64 a,AV.int .i64 b,AV.int .i64 c]]=xIp a b c none (fun (p:Int)=>some ((AV.int .i64 p):AV)):=by kernel_rfl
 rw [h];unfold xtj xDR xIp;repeat' (first|exact Pre.none|exact Pre.tt rfl|exact Pre.some rfl|refine Pre.l ?_|refine Pre.r ?_|refine Pre.br (f:=fun (p:Int)=>((AV.int .i64 p):AV)) ?_ ?_|refine Pre.brt (f:=fun (p:Int)=>((AV.int .i64 p):AV)) ?_ ?_)
def xIv:LA→Option (Bool×AV):=ocOf (sCons (sList 1 (pCons (pInt .i64) (pCons (pInt .i64) (pCons (pInt .i64) pNil)))) sNil) fun ((a,(b,(c,_))),_)=>(true,(AV.int .i64 (xtj a b c)))
theorem xOc:OcOk Tryz.prog ITryz 71 (xIv):=xaN fun e h f=>by
 obtain ⟨⟨a,⟨b,⟨c,_⟩⟩⟩,_⟩:=e
 obtain ⟨g,d⟩:=Prod.mk.inj f
 refine xaH (p:=xmR.pin) (xaL mxTryz (inv0Ok Tryz.prog _) rfl xIa Tryz.func71 rfl (by kernel_rfl) xEs ((Pre.get (xNE _ _ _) rfl).trans ?_))
 exact congrArg some d
def xKP:Env:=xKA.with 71 xIv
theorem xHK:OrcOk Tryz.prog ITryz xKP:=xIz.with xOc
def xg7:Env:=xKP.fn 22 0 (lsOf []) (lpsOf [])
theorem xys:OrcOk Tryz.prog (ITryz.at 0) xg7:=xHK.fn
theorem xuF:LoOk Tryz.prog (ITryz.at xg7.pin) xg7 (Tryz.f114.body.getD .skip):=xaq (by kernel_rfl)
def xbM (a b:Int) (c:List UInt8) (d e:Int) (f:List UInt8):Int:=((xtj (xhi a d) (xhi b e) (Lib.compareBytes c f)))
def xsn (a b:Int) (c:List UInt8) (d e:Int) (f:List UInt8):Bool:=true
def xt9 {T:Type} (a b:Int) (c:List UInt8) (d e:Int) (f:List UInt8) (δ:T) (κ:Int→T):T:=κ (xtj (xhi a d) (xhi b e) (Lib.compareBytes c f))
theorem xD3 (a b:Int) (c:List UInt8) (d e:Int) (g:List UInt8):Pre (xsn a b c d e g) (XF Tryz.prog xg7 Tryz.f114 (Tryz.f114.body.getD .skip) [AV.agg [AV.int .i64 a,AV.int .i64 b,AV.str c],AV.agg [AV.int .i64 d,AV.int .i64 e,AV.str g]]) (AV.int .i64 (xbM a b c d e g)):=by
 have h:XF Tryz.prog xg7 Tryz.f114 (Tryz.f114.body.getD .skip) [AV.agg [AV.int .i64 a,AV.int .i64 b,AV.str c],AV.agg [AV.int .i64 d,AV.int .i64 e,AV.str g]]=xt9 a b c d e g none (fun (p:Int)=>some ((AV.int .i64 p):AV)):=by kernel_rfl
 rw [h];unfold xbM xsn xt9;repeat' (first|exact Pre.none|exact Pre.tt rfl|exact Pre.some rfl|refine Pre.l ?_|refine Pre.r ?_|refine Pre.br (f:=fun (p:Int)=>((AV.int .i64 p):AV)) ?_ ?_|refine Pre.brt (f:=fun (p:Int)=>((AV.int .i64 p):AV)) ?_ ?_)
def xt7:LA→Option (Bool×AV):=ocOf (sCons (sAgg (sCons (sEq (pInt .i64)) (sCons (sEq (pInt .i64)) (sCons (sEq pStr) sNil)))) (sCons (sAgg (sCons (sEq (pInt .i64)) (sCons (sEq (pInt .i64)) (sCons (sEq pStr) sNil)))) sNil)) fun ((a,(b,(c,_))),((d,(e,(f,_))),_))=>(true,(AV.int .i64 (xbM a b c d e f)))
theorem xD6:OcOk Tryz.prog ITryz 114 (xt7):=xaN fun b k c=>by
 obtain ⟨⟨d,⟨e,⟨f,_⟩⟩⟩,⟨⟨g,⟨h,⟨i,_⟩⟩⟩,_⟩⟩:=b
 obtain ⟨j,a⟩:=Prod.mk.inj c
 refine xaH (p:=xg7.pin) (xaL mxTryz (inv0Ok Tryz.prog _) rfl xys Tryz.func114 rfl (by kernel_rfl) xuF ((Pre.get (xD3 _ _ _ _ _ _) rfl).trans ?_))
 exact congrArg some a
def xG3:Env:=xKP.with 114 xt7
theorem xB3:OrcOk Tryz.prog ITryz xG3:=xHK.with xD6
def xeb:Env:=xG3.fn 39 0 (lsOf []) (lpsOf [])
theorem xtf:OrcOk Tryz.prog (ITryz.at 0) xeb:=xB3.fn
theorem xqG:LoOk Tryz.prog (ITryz.at xeb.pin) xeb (loopAt Tryz.f113 0):=xaq (by kernel_rfl)
def xdl (c b:LA) (a:Int):=xbM ((b.getD a.toNat .top).cells.getD 0 .top).toInt ((b.getD a.toNat .top).cells.getD 1 .top).toInt ((b.getD a.toNat .top).cells.getD 2 .top).toStr ((c.getD a.toNat .top).cells.getD 0 .top).toInt ((c.getD a.toNat .top).cells.getD 1 .top).toInt ((c.getD a.toNat .top).cells.getD 2 .top).toStr
def xcX {T:Type} (e c b:LA) (d a:Int) (δ:T) (κl:(Int)→T) (κr:(Bool×(Int)×(Unit))→T):T:=br (decide (a<d)) (br (decide (0≤a)&&decide (a<b.length)) (br (decide (a.toNat<b.length)&&((b.getD a.toNat .top).cells.length==3&&hasShs [Sh.int .i64,Sh.int .i64,Sh.str] (b.getD a.toNat .top).cells 0)) (br (decide (a≥c.length)) (κr (true,(1),())) (br (decide (0≤a)&&decide (a<c.length)) (br (decide (a.toNat<c.length)&&((c.getD a.toNat .top).cells.length==3&&hasShs [Sh.int .i64,Sh.int .i64,Sh.str] (c.getD a.toNat .top).cells 0)) (br (xdl c b a != 0) (κr (true,(xdl c b a),())) (κl (i64.wrap (a+1)))) δ) δ)) δ) δ) (κr (false,0,()))
def xaS (d e a:LA) (b:Int):(Int)→Option ((Int)⊕(Bool×(Int)×(Unit))):=fun (c)=>xcX d e a b c none (fun s=>some (.inl s)) (fun p=>some (.inr p))
def xdv (d e a:LA) (b:Int):(Int)→LA×List Box:=fun (c)=>([AV.list 3 d,AV.list 3 e,AV.func 114 [],AV.list 3 a,AV.int .i64 b,AV.int .i64 c],[])
def xdf (a b c:LA) (d:Int):(Bool×(Int)×(Unit))→LR:=fun p=>(.node p.1 (.leaf .ret [AV.list 3 a,AV.list 3 b,AV.int .i64 p.2.1] []) (.leaf (.exit 0) [AV.list 3 a,AV.list 3 b,.top] []))
abbrev xtw (a:LA) (H:List Box):=XR Tryz.prog xeb [0,1,2,11,12,13] [0,1,6] [] (loopAt Tryz.f113 0) a H
theorem xtC (c d a:LA) (b e:Int):Enc (encR (xdv c d a b) (xdf c d a b)) (xaS c d a b e) (xtw (xdv c d a b e).1 (xdv c d a b e).2):=by
 refine eV (xcX c d a b e none (fun s=>some (encR (xdv c d a b) (xdf c d a b) (.inl s))) (fun p=>some (encR (xdv c d a b) (xdf c d a b) (.inr p)))) (by kernel_rfl) ?_;unfold xaS xcX;repeat' first|exact eN|exact eS rfl|apply eB
def xm0:Lp:=lpOf [0,1,2,11,12,13] [0,1,6] [] (pCons (pList 3 pAny) (pCons (pList 3 pAny) (pCons (pFunc 114 pNil) (pCons (pList 3 pAny) (pCons (pInt .i64) (pCons (pInt .i64) pNil)))))) pNil fun (d,(e,(_,(a,(b,(c,_)))))) _=>((Iter (xaS d e a b) (c)).isSome,xdf d e a b ((Iter (xaS d e a b) (c)).getD (false,0,())))
theorem xsG:LoopOk Tryz.prog (ITryz.at xeb.pin) xeb.nt (loopAt Tryz.f113 0) xm0:=xaY fun g i j h=>by
 obtain ⟨c,⟨d,⟨_,⟨a,⟨b,⟨e,_⟩⟩⟩⟩⟩⟩:=g
 obtain ⟨f,rfl⟩:=Prod.mk.inj h
 exact xaG mxTryz (inv0Ok Tryz.prog _) rfl xtf xqG (xdv c d a b) (xdf c d a b) (fun p=>by simp only [xdf,LR.eval];first|(simp;done)|(repeat' split<;>simp)) (xtC c d a b) (s:=(e)) (xab f)
def xfQ:Env:=xG3.fn 39 0 (lsOf []) (lpsOf [(2,xm0)])
theorem xs2:OrcOk Tryz.prog (ITryz.at 0) xfQ:=xB3.fn
theorem xrU:LoOk Tryz.prog (ITryz.at xfQ.pin) xfQ (Tryz.f113.body.getD .skip):=xaP (ls:=[loopAt Tryz.f113 0]) (by kernel_rfl) (lkC xsG lkN)
def xiy {T:Type} (a b:LA) (δ:T) (κ:Int→T):T:=br ((Iter (xaS a b a (↑a.length:Int)) 0).isSome) (br (((Iter (xaS a b a (↑a.length:Int)) 0).getD (false,0,())).fst) (κ (((Iter (xaS a b a (↑a.length:Int)) 0).getD (false,0,())).snd.fst)) (br (decide ((↑a.length:Int)<(↑b.length:Int))) (κ ((-1))) (κ (0)))) δ
def xef (a b:LA):Option (Int):=xiy a b none some
theorem xwO (a b:LA):Enc (fun (p:Int)=>((AV.int .i64 p):AV)) (xef a b) (XF Tryz.prog xfQ Tryz.f113 (Tryz.f113.body.getD .skip) [AV.list 3 a,AV.list 3 b,AV.func (114:FuncId) []]):=by
 refine eV (xiy a b none (fun (p:Int)=>some ((AV.int .i64 p):AV))) (by kernel_rfl) ?_;unfold xef xiy;repeat' first|exact eN|exact eS rfl|apply eB
def xpw:LA→Option (Bool×AV):=ocOf (sCons (sList 3 pAny) (sCons (sList 3 pAny) (sCons (sEq (pFunc (114:FuncId) pNil)) sNil))) fun (a,(b,(_,_)))=>((xef a b).isSome,(AV.int .i64 ((xef a b).getD 0)))
theorem xwf:OcOk Tryz.prog ITryz 113 (xpw):=xaN fun f h g=>by
 obtain ⟨a,⟨b,⟨_,_⟩⟩⟩:=f
 obtain ⟨c,e⟩:=Prod.mk.inj g
 refine xaH (p:=xfQ.pin) (xaL mxTryz (inv0Ok Tryz.prog _) rfl xs2 Tryz.func113 rfl (by kernel_rfl) xrU ((xwO _ _ _ (xab (d:=0) c)).trans ?_))
 exact congrArg some e
def xKk:Env:=xG3.with 113 xpw
theorem xHW:OrcOk Tryz.prog ITryz xKk:=xB3.with xwf
def xi2:Env:=xKk.fn 8 0 (lsOf []) (lpsOf [])
theorem xyb:OrcOk Tryz.prog (ITryz.at 0) xi2:=xHW.fn
theorem xvJ:LoOk Tryz.prog (ITryz.at xi2.pin) xi2 (Tryz.f88.body.getD .skip):=xaq (by kernel_rfl)
def xl5 {T:Type} (a b:LA) (δ:T) (κ:Int→T):T:=br ((xef a b).isSome) (κ ((xef a b).getD 0)) δ
def xet (a b:LA):Option (Int):=xl5 a b none some
theorem xDb (a b:LA):Enc (fun (p:Int)=>((AV.int .i64 p):AV)) (xet a b) (XF Tryz.prog xi2 Tryz.f88 (Tryz.f88.body.getD .skip) [AV.list 3 a,AV.list 3 b]):=by
 refine eV (xl5 a b none (fun (p:Int)=>some ((AV.int .i64 p):AV))) (by kernel_rfl) ?_;unfold xet xl5;repeat' first|exact eN|exact eS rfl|apply eB
def xtM:LA→Option (Bool×AV):=ocOf (sCons (sList 3 pAny) (sCons (sList 3 pAny) sNil)) fun (a,(b,_))=>((xet a b).isSome,(AV.int .i64 ((xet a b).getD 0)))
theorem xEh:OcOk Tryz.prog ITryz 88 (xtM):=xaN fun f h g=>by
 obtain ⟨a,⟨b,_⟩⟩:=f
 obtain ⟨c,e⟩:=Prod.mk.inj g
 refine xaH (p:=xi2.pin) (xaL mxTryz (inv0Ok Tryz.prog _) rfl xyb Tryz.func88 rfl (by kernel_rfl) xvJ ((xDb _ _ _ (xab (d:=0) c)).trans ?_))
 exact congrArg some e
def xKw:Env:=xKk.with 88 xtM
theorem xH1:OrcOk Tryz.prog ITryz xKw:=xHW.with xEh
def xik:Env:=xKw.fn 10 0 (lsOf []) (lpsOf [])
theorem xwz:OrcOk Tryz.prog (ITryz.at 0) xik:=xH1.fn
theorem xuD:LoOk Tryz.prog (ITryz.at xik.pin) xik (Tryz.f93.body.getD .skip):=xaq (by kernel_rfl)
def xlo {T:Type} (a c b d:LA) (δ:T) (κ:Int→T):T:=br ((xet a b).isSome) (κ ((xet a b).getD 0)) δ
def xcF (c a d b:LA):Option (Int):=xlo c a d b none some
theorem xCi (c a d b:LA):Enc (fun (p:Int)=>((AV.int .i64 p):AV)) (xcF c a d b) (XF Tryz.prog xik Tryz.f93 (Tryz.f93.body.getD .skip) [AV.agg [AV.list 3 c,AV.list 2 a],AV.agg [AV.list 3 d,AV.list 2 b]]):=by
 refine eV (xlo c a d b none (fun (p:Int)=>some ((AV.int .i64 p):AV))) (by kernel_rfl) ?_;unfold xcF xlo;repeat' first|exact eN|exact eS rfl|apply eB
def xsZ:LA→Option (Bool×AV):=ocOf (sCons (sAgg (sCons (sList 3 pAny) (sCons (sList 2 pAny) sNil))) (sCons (sAgg (sCons (sList 3 pAny) (sCons (sList 2 pAny) sNil))) sNil)) fun ((c,(a,_)),((d,(b,_)),_))=>((xcF c a d b).isSome,(AV.int .i64 ((xcF c a d b).getD 0)))
theorem xCa:OcOk Tryz.prog ITryz 93 (xsZ):=xaN fun c j e=>by
 obtain ⟨⟨h,⟨f,_⟩⟩,⟨⟨i,⟨g,_⟩⟩,_⟩⟩:=c
 obtain ⟨a,b⟩:=Prod.mk.inj e
 refine xaH (p:=xik.pin) (xaL mxTryz (inv0Ok Tryz.prog _) rfl xwz Tryz.func93 rfl (by kernel_rfl) xuD ((xCi _ _ _ _ _ (xab (d:=0) a)).trans ?_))
 exact congrArg some b
def xOL:Env:=xKw.with 93 xsZ
theorem xN2:OrcOk Tryz.prog ITryz xOL:=xH1.with xCa
abbrev xOo:Env:=xOL
theorem xOg:OrcOk Tryz.prog ITryz xOo:=xN2
abbrev EK3:Env:=xOo
theorem xDK:OrcOk Tryz.prog ITryz EK3:=xOg
end Go.Sim.M
end
noncomputable section
set_option maxRecDepth 100000
namespace Go.Sim.M
open Go.IntKind (i64 u64 u8)
open Go.RowKit Go.Proofs
def xbK:Env:=EK3.fn 53 1 (lsOf [83]) (lpsOf [])
theorem xnb:OrcOk Tryz.prog (ITryz.at 1) xbK:=xDK.fn
theorem xlu:LoOk Tryz.prog (ITryz.at xbK.pin) xbK (loopAt Tryz.f141 1):=xaq (by kernel_rfl)
def xeL (a:Nat) (j:Int):=decide (0≤i64.wrap (j - 1))&&decide (i64.wrap (j - 1)<(↑a:Int))
def xdc (j:Int):Nat:=0+(i64.wrap (j - 1)).toNat
def xeF (a:Nat) (j:Int):=decide (0≤j)&&decide (j<(↑a:Int))
def xh2 (j:Int) (a:LA):=decide (0+j.toNat<a.length)
def xhU (j:Int) (a:LA):=xh2 j a&&((a.getD (0+j.toNat) .top).cells.length==2&&hasShs [Sh.list 3,Sh.list 2] (a.getD (0+j.toNat) .top).cells 0)
def xbq (j:Int) (a:LA):=(a.getD (xdc j) .top).cells
def xh0 (j:Int) (a:LA):=decide (xdc j<a.length)&&((xbq j a).length==2&&hasShs [Sh.list 3,Sh.list 2] (xbq j a) 0)
def xhJ (j:Int) (a:LA):=xcF ((a.getD (0+j.toNat) .top).cells.getD 0 .top).toList ((a.getD (0+j.toNat) .top).cells.getD 1 .top).toList ((xbq j a).getD 0 .top).toList ((xbq j a).getD 1 .top).toList
def xhH (j:Int) (a:LA):=a.set (0+j.toNat) (AV.agg [AV.list 3 ((xbq j a).getD 0 .top).toList,AV.list 2 ((xbq j a).getD 1 .top).toList])
def xeS {T:Type} (d:Nat) (a b i j:Int) (c:LA) (δ:T) (κl:(Int×LA)→T) (κr:(LA)→T):T:=br (decide (j>a)) (br (xeF d j) (br (xhU j c) (br (xeL d j) (br (xh0 j c) (br ((xhJ j c).isSome) (br (decide ((xhJ j c).getD 0<0)) (br (xeL d j) (br (xh0 j c) (br (xeF d j) (br (xhU j c) (br (xeF d j) (br (xh2 j c) (br (xeL d j) (br (decide (xdc j<(xhH j c).length)) (κl (i64.wrap (j - 1),(xhH j c).set (xdc j) (AV.agg [AV.list 3 ((c.getD (0+j.toNat) .top).cells.getD 0 .top).toList,AV.list 2 ((c.getD (0+j.toNat) .top).cells.getD 1 .top).toList]))) δ) δ) δ) δ) δ) δ) δ) δ) (κr (c))) δ) δ) δ) δ) δ) (κr (c))
def xa0 (d:Nat) (a b i:Int):(Int×LA)→Option ((Int×LA)⊕(LA)):=fun (j,c)=>xeS d a b i j c none (fun s=>some (.inl s)) (fun p=>some (.inr p))
def xbz (d:Nat) (a b i:Int):(Int×LA)→LA×List Box:=fun (j,c)=>([AV.osl 0 0 0 d,AV.int .i64 a,AV.int .i64 b,AV.func 93 [],AV.int .i64 i,AV.int .i64 j],[⟨0,2,83,c,false,true⟩])
def xbn (c:Nat) (a b i:Int):(LA)→LR:=fun p=>(.leaf (.exit 2) [AV.osl 0 0 0 c,AV.int .i64 a,AV.int .i64 b,AV.func 93 [],AV.int .i64 i] [⟨0,2,83,p,false,true⟩])
abbrev xnY (a:LA) (H:List Box):=XR Tryz.prog xbK [0,1,2,3,8,9] [0,1,2,3,8] [] (loopAt Tryz.f141 1) a H
theorem xnP (c:Nat) (a b i:Int) (s:Int×LA):Enc (encR (xbz c a b i) (xbn c a b i)) (xa0 c a b i s) (xnY (xbz c a b i s).1 (xbz c a b i s).2):=by
 obtain ⟨j,d⟩:=s
 refine eV (xeS c a b i j d none (fun s=>some (encR (xbz c a b i) (xbn c a b i) (.inl s))) (fun p=>some (encR (xbz c a b i) (xbn c a b i) (.inr p)))) (by kernel_rfl) ?_;unfold xa0 xeS;repeat' first|exact eN|exact eS rfl|apply eB
def xeE:Lp:=lpOf [0,1,2,3,8,9] [0,1,2,3,8] [] (pCons (pOsl 0 0 0) (pCons (pInt .i64) (pCons (pInt .i64) (pCons (pFunc 93 pNil) (pCons (pInt .i64) (pCons (pInt .i64) pNil)))))) (pCons (pBox 0 2 83 false true pAny) pNil) fun (c,(a,(b,(_,(i,(j,_)))))) (d,_)=>((Iter (xa0 c a b i) (j,d)).isSome,xbn c a b i ((Iter (xa0 c a b i) (j,d)).getD []))
theorem xhn:LoopOk Tryz.prog (ITryz.at xbK.pin) xbK.nt (loopAt Tryz.f141 1) xeE:=xaY fun f g k h=>by
 obtain ⟨c,⟨a,⟨b,⟨_,⟨i,⟨j,_⟩⟩⟩⟩⟩⟩:=f
 obtain ⟨d,_⟩:=g
 obtain ⟨e,rfl⟩:=Prod.mk.inj h
 exact xaG mxTryz (inv0Ok Tryz.prog _) rfl xnb xlu (xbz c a b i) (xbn c a b i) (fun p=>by simp only [xbn,LR.eval];first|(simp;done)|(repeat' split<;>simp)) (xnP c a b i) (s:=(j,d)) (xab e)
def xbH:Env:=EK3.fn 53 1 (lsOf [83]) (lpsOf [(4,xeE)])
theorem xnE:OrcOk Tryz.prog (ITryz.at 1) xbH:=xDK.fn
theorem xlt:LoOk Tryz.prog (ITryz.at xbH.pin) xbH (loopAt Tryz.f141 0):=xaP (ls:=[loopAt Tryz.f141 1]) (by kernel_rfl) (lkC xhn lkN)
def xeP {T:Type} (d:Nat) (a b i:Int) (c:LA) (δ:T) (κl:(Int×LA)→T) (κr:(LA)→T):T:=br (decide (i<b)) (br ((Iter (xa0 d a b i) (i,c)).isSome) (κl (i64.wrap (i+1),(Iter (xa0 d a b i) (i,c)).getD [])) δ) (κr (c))
def xa1 (d:Nat) (a b:Int):(Int×LA)→Option ((Int×LA)⊕(LA)):=fun (i,c)=>xeP d a b i c none (fun s=>some (.inl s)) (fun p=>some (.inr p))
def xby (d:Nat) (a b:Int):(Int×LA)→LA×List Box:=fun (i,c)=>([AV.osl 0 0 0 d,AV.int .i64 a,AV.int .i64 b,AV.func 93 [],AV.int .i64 i],[⟨0,2,83,c,false,true⟩])
def xbp (c:Nat) (a b:Int):(LA)→LR:=fun p=>(.leaf (.exit 0) [] [⟨0,2,83,p,false,true⟩])
abbrev xnV (a:LA) (H:List Box):=XR Tryz.prog xbH [0,1,2,3,8] [] [] (loopAt Tryz.f141 0) a H
theorem xnS (c:Nat) (a b:Int) (s:Int×LA):Enc (encR (xby c a b) (xbp c a b)) (xa1 c a b s) (xnV (xby c a b s).1 (xby c a b s).2):=by
 obtain ⟨i,d⟩:=s
 refine eV (xeP c a b i d none (fun s=>some (encR (xby c a b) (xbp c a b) (.inl s))) (fun p=>some (encR (xby c a b) (xbp c a b) (.inr p)))) (by kernel_rfl) ?_;unfold xa1 xeP;repeat' first|exact eN|exact eS rfl|apply eB
def xhX:Lp:=lpOf [0,1,2,3,8] [] [] (pCons (pOsl 0 0 0) (pCons (pInt .i64) (pCons (pInt .i64) (pCons (pFunc 93 pNil) (pCons (pInt .i64) pNil))))) (pCons (pBox 0 2 83 false true pAny) pNil) fun (c,(a,(b,(_,(i,_))))) (d,_)=>((Iter (xa1 c a b) (i,d)).isSome,xbp c a b ((Iter (xa1 c a b) (i,d)).getD []))
theorem xm2:LoopOk Tryz.prog (ITryz.at xbH.pin) xbH.nt (loopAt Tryz.f141 0) xhX:=xaY fun f g j h=>by
 obtain ⟨c,⟨a,⟨b,⟨_,⟨i,_⟩⟩⟩⟩⟩:=f
 obtain ⟨d,_⟩:=g
 obtain ⟨e,rfl⟩:=Prod.mk.inj h
 exact xaG mxTryz (inv0Ok Tryz.prog _) rfl xnE xlt (xby c a b) (xbp c a b) (fun p=>by simp only [xbp,LR.eval];first|(simp;done)|(repeat' split<;>simp)) (xnS c a b) (s:=(i,d)) (xab e)
def xcJ:Env:=EK3.fn 53 1 (lsOf [83]) (lpsOf [(4,xeE),(1,xhX)])
theorem xnj:OrcOk Tryz.prog (ITryz.at 1) xcJ:=xDK.fn
theorem xlY:LoOk Tryz.prog (ITryz.at xcJ.pin) xcJ (Tryz.f141.body.getD .skip):=xaP (ls:=[loopAt Tryz.f141 0,loopAt Tryz.f141 1]) (by kernel_rfl) (lkC xm2 (lkC xhn lkN))
def xdO {T:Type} (n:Nat) (a b:Int) (c:LA) (δ:T) (κ:LA→T):T:=br ((Iter (xa1 n a b) (i64.wrap (a+1),c)).isSome) (κ ((Iter (xa1 n a b) (i64.wrap (a+1),c)).getD [])) δ
def xaX (n:Nat) (a b:Int) (c:LA):Option (LA):=xdO n a b c none some
theorem xpi (n:Nat) (a b:Int) (xs:LA):Enc (fun (p:LA)=>(((AV.tuple [],([⟨0,2,83,p,false,true⟩]:List Box))):(AV×List Box))) (xaX n a b xs) (XFM Tryz.prog xcJ Tryz.f141 (Tryz.f141.body.getD .skip) [AV.osl (0:Id) 0 0 n,AV.int .i64 a,AV.int .i64 b,AV.func (93:FuncId) []] [{ ver:=0,sz:=2,ty:=(83:TypeId),xs:=xs,frz:=false,pm:=true }]):=by
 refine eV (xdO n a b xs none (fun (p:LA)=>some (((AV.tuple [],([⟨0,2,83,p,false,true⟩]:List Box))):(AV×List Box)))) (by kernel_rfl) ?_;unfold xaX xdO;repeat' first|exact eN|exact eS rfl|apply eB
def xjc:LA→List Box→Option (Bool×AV×List Box):=omOf (sCons (sEq (pOsl 0 0 0)) (sCons (sEq (pInt .i64)) (sCons (sEq (pInt .i64)) (sCons (sEq (pFunc (93:FuncId) pNil)) sNil)))) (pCons (pBox 0 2 (83:TypeId) false true pAny) pNil) fun (n,(a,(b,(_,_)))) (c,_)=>((xaX n a b c).isSome,((AV.tuple [],([⟨0,2,83,((xaX n a b c).getD []),false,true⟩]:List Box))))
theorem xpa:OmOk Tryz.prog ITryz 141 (xjc):=xfP fun f g j i h=>by
 obtain ⟨n,⟨a,⟨b,⟨_,_⟩⟩⟩⟩:=f
 obtain ⟨k,_⟩:=g
 obtain ⟨c,e⟩:=Prod.mk.inj h
 refine xdq (p:=xcJ.pin) (xdV mxTryz (inv0Ok Tryz.prog _) rfl xnj rfl Tryz.func141 rfl (by kernel_rfl) xlY ((xpi _ _ _ _ _ (xab (d:=[]) c)).trans ?_))
 exact congrArg some e
def xG2:Env:=EK3.withM 141 xjc
theorem xBx:OrcOk Tryz.prog ITryz xG2:=xDK.withM xpa
def xcG:Env:=xG2.fn 38 1 (lsOf [83]) (lpsOf [])
theorem xo9:OrcOk Tryz.prog (ITryz.at 1) xcG:=xBx.fn
theorem xms:LoOk Tryz.prog (ITryz.at xcG.pin) xcG (loopAt Tryz.f182 0):=xaq (by kernel_rfl)
def xjf (a i:Int) (b:LA):=decide (0+(i64.wrap (a+i)).toNat<b.length)
def xdP (a i:Int) (b:LA):=(b.getD (0+(i64.wrap (a+i)).toNat) .top).cells
def xjh (a:Nat) (b i:Int):=decide (0≤i64.wrap (b+i))&&decide (i64.wrap (b+i)<(↑a:Int))
def xjb (b:Nat) (a i:Int):=decide (0≤i64.wrap (a+i))&&decide (i64.wrap (a+i)<(↑b:Int))
def xdN (b i:Int):Nat:=0+(i64.wrap (b+i)).toNat
def xdM (b i:Int) (a:LA):=(a.getD (xdN b i) .top).cells
def xjg (a b i:Int) (c:LA):=c.set (0+(i64.wrap (a+i)).toNat) (AV.agg [AV.list 3 ((xdM b i c).getD 0 .top).toList,AV.list 2 ((xdM b i c).getD 1 .top).toList])
def xf2 {T:Type} (d:Nat) (a b n i:Int) (c:LA) (δ:T) (κl:(Int×LA)→T) (κr:(LA)→T):T:=br (decide (i<n)) (br (xjh d b i) (br (decide (xdN b i<c.length)&&((xdM b i c).length==2&&hasShs [Sh.list 3,Sh.list 2] (xdM b i c) 0)) (br (xjb d a i) (br (xjf a i c&&((xdP a i c).length==2&&hasShs [Sh.list 3,Sh.list 2] (xdP a i c) 0)) (br (xjb d a i) (br (xjf a i c) (br (xjh d b i) (br (decide (xdN b i<(xjg a b i c).length)) (κl (i64.wrap (i+1),(xjg a b i c).set (xdN b i) (AV.agg [AV.list 3 ((xdP a i c).getD 0 .top).toList,AV.list 2 ((xdP a i c).getD 1 .top).toList]))) δ) δ) δ) δ) δ) δ) δ) δ) (κr (c))
def xbb (d:Nat) (a b n:Int):(Int×LA)→Option ((Int×LA)⊕(LA)):=fun (i,c)=>xf2 d a b n i c none (fun s=>some (.inl s)) (fun p=>some (.inr p))
def xb9 (d:Nat) (a b n:Int):(Int×LA)→LA×List Box:=fun (i,c)=>([AV.osl 0 0 0 d,AV.int .i64 a,AV.int .i64 b,AV.int .i64 n,AV.int .i64 i],[⟨0,2,83,c,false,true⟩])
def xbG (c:Nat) (a b n:Int):(LA)→LR:=fun p=>(.leaf (.exit 0) [] [⟨0,2,83,p,false,true⟩])
abbrev xpN (a:LA) (H:List Box):=XR Tryz.prog xcG [0,1,2,3,10] [] [] (loopAt Tryz.f182 0) a H
theorem xpv (c:Nat) (a b n:Int) (s:Int×LA):Enc (encR (xb9 c a b n) (xbG c a b n)) (xbb c a b n s) (xpN (xb9 c a b n s).1 (xb9 c a b n s).2):=by
 obtain ⟨i,d⟩:=s
 refine eV (xf2 c a b n i d none (fun s=>some (encR (xb9 c a b n) (xbG c a b n) (.inl s))) (fun p=>some (encR (xb9 c a b n) (xbG c a b n) (.inr p)))) (by kernel_rfl) ?_;unfold xbb xf2;repeat' first|exact eN|exact eS rfl|apply eB
def xjd:Lp:=lpOf [0,1,2,3,10] [] [] (pCons (pOsl 0 0 0) (pCons (pInt .i64) (pCons (pInt .i64) (pCons (pInt .i64) (pCons (pInt .i64) pNil))))) (pCons (pBox 0 2 83 false true pAny) pNil) fun (c,(a,(b,(n,(i,_))))) (d,_)=>((Iter (xbb c a b n) (i,d)).isSome,xbG c a b n ((Iter (xbb c a b n) (i,d)).getD []))
theorem xoW:LoopOk Tryz.prog (ITryz.at xcG.pin) xcG.nt (loopAt Tryz.f182 0) xjd:=xaY fun f g j h=>by
 obtain ⟨c,⟨a,⟨b,⟨n,⟨i,_⟩⟩⟩⟩⟩:=f
 obtain ⟨d,_⟩:=g
 obtain ⟨e,rfl⟩:=Prod.mk.inj h
 exact xaG mxTryz (inv0Ok Tryz.prog _) rfl xo9 xms (xb9 c a b n) (xbG c a b n) (fun p=>by simp only [xbG,LR.eval];first|(simp;done)|(repeat' split<;>simp)) (xpv c a b n) (s:=(i,d)) (xab e)
def xdm:Env:=xG2.fn 38 1 (lsOf [83]) (lpsOf [(1,xjd)])
theorem xpm:OrcOk Tryz.prog (ITryz.at 1) xdm:=xBx.fn
theorem xnQ:LoOk Tryz.prog (ITryz.at xdm.pin) xdm (Tryz.f182.body.getD .skip):=xaP (ls:=[loopAt Tryz.f182 0]) (by kernel_rfl) (lkC xoW lkN)
def xeU {T:Type} (n:Nat) (a b k:Int) (c:LA) (δ:T) (κ:LA→T):T:=br ((Iter (xbb n a b k) (0,c)).isSome) (κ ((Iter (xbb n a b k) (0,c)).getD [])) δ
def xaV (n:Nat) (a b k:Int) (c:LA):Option (LA):=xeU n a b k c none some
theorem xrx (n:Nat) (a b k:Int) (xs:LA):Enc (fun (p:LA)=>(((AV.tuple [],([⟨0,2,83,p,false,true⟩]:List Box))):(AV×List Box))) (xaV n a b k xs) (XFM Tryz.prog xdm Tryz.f182 (Tryz.f182.body.getD .skip) [AV.osl (0:Id) 0 0 n,AV.int .i64 a,AV.int .i64 b,AV.int .i64 k,AV.func (93:FuncId) []] [{ ver:=0,sz:=2,ty:=(83:TypeId),xs:=xs,frz:=false,pm:=true }]):=by
 refine eV (xeU n a b k xs none (fun (p:LA)=>some (((AV.tuple [],([⟨0,2,83,p,false,true⟩]:List Box))):(AV×List Box)))) (by kernel_rfl) ?_;unfold xaV xeU;repeat' first|exact eN|exact eS rfl|apply eB
def xlk:LA→List Box→Option (Bool×AV×List Box):=omOf (sCons (sEq (pOsl 0 0 0)) (sCons (sEq (pInt .i64)) (sCons (sEq (pInt .i64)) (sCons (sEq (pInt .i64)) (sCons (sEq (pFunc (93:FuncId) pNil)) sNil))))) (pCons (pBox 0 2 (83:TypeId) false true pAny) pNil) fun (n,(a,(b,(k,(_,_))))) (c,_)=>((xaV n a b k c).isSome,((AV.tuple [],([⟨0,2,83,((xaV n a b k c).getD []),false,true⟩]:List Box))))
theorem xrF:OmOk Tryz.prog ITryz 182 (xlk):=xfP fun f g j i h=>by
 obtain ⟨n,⟨a,⟨b,⟨k,⟨_,_⟩⟩⟩⟩⟩:=f
 obtain ⟨l,_⟩:=g
 obtain ⟨c,e⟩:=Prod.mk.inj h
 refine xdq (p:=xdm.pin) (xdV mxTryz (inv0Ok Tryz.prog _) rfl xpm rfl Tryz.func182 rfl (by kernel_rfl) xnQ ((xrx _ _ _ _ _ _ (xab (d:=[]) c)).trans ?_))
 exact congrArg some e
def xG4:Env:=xG2.withM 182 xlk
theorem xCl:OrcOk Tryz.prog ITryz xG4:=xBx.withM xrF
def xda:Env:=xG4.fn 58 1 (lsOf [83]) (lpsOf [])
theorem xre:OrcOk Tryz.prog (ITryz.at 1) xda:=xCl.fn
theorem xn1:LoOk Tryz.prog (ITryz.at xda.pin) xda (loopAt Tryz.f162 0):=xaq (by kernel_rfl)
def xhk {T:Type} (b:Nat) (m i j:Int) (a:LA) (δ:T) (κl:(Int×Int×LA)→T) (κr:(Int×LA)→T):T:=br (i != j) (br (decide (i>j)) (br ((xaV b (i64.wrap (m - i)) m j a).isSome) (κl (i64.wrap (i - j),j,(xaV b (i64.wrap (m - i)) m j a).getD [])) δ) (br ((xaV b (i64.wrap (m - i)) (i64.wrap (i64.wrap (m+j) - i)) i a).isSome) (κl (i,i64.wrap (j - i),(xaV b (i64.wrap (m - i)) (i64.wrap (i64.wrap (m+j) - i)) i a).getD [])) δ)) (κr (i,a))
def xb6 (b:Nat) (m:Int):(Int×Int×LA)→Option ((Int×Int×LA)⊕(Int×LA)):=fun (i,j,a)=>xhk b m i j a none (fun s=>some (.inl s)) (fun p=>some (.inr p))
def xcM (b:Nat) (m:Int):(Int×Int×LA)→LA×List Box:=fun (i,j,a)=>([AV.osl 0 0 0 b,AV.int .i64 m,AV.func 93 [],AV.int .i64 i,AV.int .i64 j],[⟨0,2,83,a,false,true⟩])
def xck (a:Nat) (m:Int):(Int×LA)→LR:=fun p=>(.leaf (.exit 0) [AV.osl 0 0 0 a,AV.int .i64 m,AV.func 93 [],AV.int .i64 p.1] [⟨0,2,83,p.2,false,true⟩])
abbrev xrO (a:LA) (H:List Box):=XR Tryz.prog xda [0,2,4,10,11] [0,2,4,10] [] (loopAt Tryz.f162 0) a H
theorem xry (a:Nat) (m:Int) (s:Int×Int×LA):Enc (encR (xcM a m) (xck a m)) (xb6 a m s) (xrO (xcM a m s).1 (xcM a m s).2):=by
 obtain ⟨i,j,b⟩:=s
 refine eV (xhk a m i j b none (fun s=>some (encR (xcM a m) (xck a m) (.inl s))) (fun p=>some (encR (xcM a m) (xck a m) (.inr p)))) (by kernel_rfl) ?_;unfold xb6 xhk;repeat' first|exact eN|exact eS rfl|apply eB
def xk9:Lp:=lpOf [0,2,4,10,11] [0,2,4,10] [] (pCons (pOsl 0 0 0) (pCons (pInt .i64) (pCons (pFunc 93 pNil) (pCons (pInt .i64) (pCons (pInt .i64) pNil))))) (pCons (pBox 0 2 83 false true pAny) pNil) fun (a,(m,(_,(i,(j,_))))) (b,_)=>((Iter (xb6 a m) (i,j,b)).isSome,xck a m ((Iter (xb6 a m) (i,j,b)).getD (0,[])))
theorem xqL:LoopOk Tryz.prog (ITryz.at xda.pin) xda.nt (loopAt Tryz.f162 0) xk9:=xaY fun d e g f=>by
 obtain ⟨a,⟨m,⟨_,⟨i,⟨j,_⟩⟩⟩⟩⟩:=d
 obtain ⟨b,_⟩:=e
 obtain ⟨c,rfl⟩:=Prod.mk.inj f
 exact xaG mxTryz (inv0Ok Tryz.prog _) rfl xre xn1 (xcM a m) (xck a m) (fun p=>by simp only [xck,LR.eval];first|(simp;done)|(repeat' split<;>simp)) (xry a m) (s:=(i,j,b)) (xab c)
def xd0:Env:=xG4.fn 58 1 (lsOf [83]) (lpsOf [(2,xk9)])
theorem xrc:OrcOk Tryz.prog (ITryz.at 1) xd0:=xCl.fn
theorem xpl:LoOk Tryz.prog (ITryz.at xd0.pin) xd0 (Tryz.f162.body.getD .skip):=xaP (ls:=[loopAt Tryz.f162 0]) (by kernel_rfl) (lkC xqL lkN)
def xiw (n:Nat) (a m b:Int) (c:LA):=Iter (xb6 n m) (i64.wrap (m - a),i64.wrap (b - m),c)
def xin (n:Nat) (a m b:Int) (c:LA):=(xiw n a m b c).getD (0,[])
def xip (n:Nat) (a m b:Int) (c:LA):=(xin n a m b c).fst
def xiz (n:Nat) (a m b:Int) (c:LA):=xaV n (i64.wrap (m - xip n a m b c)) m (xip n a m b c) (xin n a m b c).snd
def xf9 {T:Type} (n:Nat) (a m b:Int) (c:LA) (δ:T) (κ:LA→T):T:=br ((xiw n a m b c).isSome) (br ((xiz n a m b c).isSome) (κ ((xiz n a m b c).getD [])) δ) δ
def xbc (n:Nat) (a m b:Int) (c:LA):Option (LA):=xf9 n a m b c none some
theorem xtl (n:Nat) (a m b:Int) (xs:LA):Enc (fun (p:LA)=>(((AV.tuple [],([⟨0,2,83,p,false,true⟩]:List Box))):(AV×List Box))) (xbc n a m b xs) (XFM Tryz.prog xd0 Tryz.f162 (Tryz.f162.body.getD .skip) [AV.osl (0:Id) 0 0 n,AV.int .i64 a,AV.int .i64 m,AV.int .i64 b,AV.func (93:FuncId) []] [{ ver:=0,sz:=2,ty:=(83:TypeId),xs:=xs,frz:=false,pm:=true }]):=by
 refine eV (xf9 n a m b xs none (fun (p:LA)=>some (((AV.tuple [],([⟨0,2,83,p,false,true⟩]:List Box))):(AV×List Box)))) (by kernel_rfl) ?_;unfold xbc xf9;repeat' first|exact eN|exact eS rfl|apply eB
def xmj:LA→List Box→Option (Bool×AV×List Box):=omOf (sCons (sEq (pOsl 0 0 0)) (sCons (sEq (pInt .i64)) (sCons (sEq (pInt .i64)) (sCons (sEq (pInt .i64)) (sCons (sEq (pFunc (93:FuncId) pNil)) sNil))))) (pCons (pBox 0 2 (83:TypeId) false true pAny) pNil) fun (n,(a,(m,(b,(_,_))))) (c,_)=>((xbc n a m b c).isSome,((AV.tuple [],([⟨0,2,83,((xbc n a m b c).getD []),false,true⟩]:List Box))))
theorem xtg:OmOk Tryz.prog ITryz 162 (xmj):=xfP fun f g j i h=>by
 obtain ⟨n,⟨a,⟨m,⟨b,⟨_,_⟩⟩⟩⟩⟩:=f
 obtain ⟨k,_⟩:=g
 obtain ⟨c,e⟩:=Prod.mk.inj h
 refine xdq (p:=xd0.pin) (xdV mxTryz (inv0Ok Tryz.prog _) rfl xrc rfl Tryz.func162 rfl (by kernel_rfl) xpl ((xtl _ _ _ _ _ _ (xab (d:=[]) c)).trans ?_))
 exact congrArg some e
def xt1:Env:=xG4.withM 162 xmj
theorem xoY:OrcOk Tryz.prog ITryz xt1:=xCl.withM xtg
def xcN:Env:=xt1.fn 220 1 (lsOf [83]) (lpsOf [])
theorem xpq:OrcOk Tryz.prog (ITryz.at 1) xcN:=xoY.fn
theorem xny:LoOk Tryz.prog (ITryz.at xcN.pin) xcN (loopAt Tryz.f142 0):=xaq (by kernel_rfl)
def xb8 (i j:Int):=i64.wrap ((u64.wrap (i64.wrap (i+j))).fdiv 2)
def xdZ (i j:Int) (a:LA):=(a.getD (0+(xb8 i j).toNat) .top).cells
def xjY (a i j:Int) (b:LA):=xcF ((xdZ i j b).getD 0 .top).toList ((xdZ i j b).getD 1 .top).toList ((b.getD (0+a.toNat) .top).cells.getD 0 .top).toList ((b.getD (0+a.toNat) .top).cells.getD 1 .top).toList
def xgN {T:Type} (c:Nat) (a i j:Int) (b:LA) (δ:T) (κl:(Int×Int×LA)→T) (κr:(Int×LA)→T):T:=br (decide (i<j)) (br (decide (0≤xb8 i j)&&decide (xb8 i j<(↑c:Int))) (br (decide (0+(xb8 i j).toNat<b.length)&&((xdZ i j b).length==2&&hasShs [Sh.list 3,Sh.list 2] (xdZ i j b) 0)) (br (decide (0≤a)&&decide (a<(↑c:Int))) (br (decide (0+a.toNat<b.length)&&((b.getD (0+a.toNat) .top).cells.length==2&&hasShs [Sh.list 3,Sh.list 2] (b.getD (0+a.toNat) .top).cells 0)) (br ((xjY a i j b).isSome) (br (decide ((xjY a i j b).getD 0<0)) (κl (i64.wrap (xb8 i j+1),j,b)) (κl (i,xb8 i j,b))) δ) δ) δ) δ) δ) (κr (i,b))
def xa4 (c:Nat) (a:Int):(Int×Int×LA)→Option ((Int×Int×LA)⊕(Int×LA)):=fun (i,j,b)=>xgN c a i j b none (fun s=>some (.inl s)) (fun p=>some (.inr p))
def xcj (c:Nat) (a:Int):(Int×Int×LA)→LA×List Box:=fun (i,j,b)=>([AV.osl 0 0 0 c,AV.int .i64 a,AV.func 93 [],AV.int .i64 i,AV.int .i64 j],[⟨0,2,83,b,false,true⟩])
def xbX (b:Nat) (a:Int):(Int×LA)→LR:=fun p=>(.leaf (.exit 0) [AV.osl 0 0 0 b,AV.int .i64 a,AV.int .i64 p.1] [⟨0,2,83,p.2,false,true⟩])
abbrev xqE (a:LA) (H:List Box):=XR Tryz.prog xcN [0,1,4,10,11] [0,1,10] [] (loopAt Tryz.f142 0) a H
theorem xqF (b:Nat) (a:Int) (s:Int×Int×LA):Enc (encR (xcj b a) (xbX b a)) (xa4 b a s) (xqE (xcj b a s).1 (xcj b a s).2):=by
 obtain ⟨i,j,c⟩:=s
 refine eV (xgN b a i j c none (fun s=>some (encR (xcj b a) (xbX b a) (.inl s))) (fun p=>some (encR (xcj b a) (xbX b a) (.inr p)))) (by kernel_rfl) ?_;unfold xa4 xgN;repeat' first|exact eN|exact eS rfl|apply eB
def xbt:Lp:=lpOf [0,1,4,10,11] [0,1,10] [] (pCons (pOsl 0 0 0) (pCons (pInt .i64) (pCons (pFunc 93 pNil) (pCons (pInt .i64) (pCons (pInt .i64) pNil))))) (pCons (pBox 0 2 83 false true pAny) pNil) fun (b,(a,(_,(i,(j,_))))) (c,_)=>((Iter (xa4 b a) (i,j,c)).isSome,xbX b a ((Iter (xa4 b a) (i,j,c)).getD (0,[])))
theorem xpk:LoopOk Tryz.prog (ITryz.at xcN.pin) xcN.nt (loopAt Tryz.f142 0) xbt:=xaY fun e f h g=>by
 obtain ⟨b,⟨a,⟨_,⟨i,⟨j,_⟩⟩⟩⟩⟩:=e
 obtain ⟨c,_⟩:=f
 obtain ⟨d,rfl⟩:=Prod.mk.inj g
 exact xaG mxTryz (inv0Ok Tryz.prog _) rfl xpq xny (xcj b a) (xbX b a) (fun p=>by simp only [xbX,LR.eval];first|(simp;done)|(repeat' split<;>simp)) (xqF b a) (s:=(i,j,c)) (xab d)
def xcT:Env:=xt1.fn 220 1 (lsOf [83]) (lpsOf [(3,xbt)])
theorem xqt:OrcOk Tryz.prog (ITryz.at 1) xcT:=xoY.fn
theorem xnC:LoOk Tryz.prog (ITryz.at xcT.pin) xcT (loopAt Tryz.f142 1):=xaq (by kernel_rfl)
def xj0 (a:Nat) (k:Int):=decide (0≤i64.wrap (k+1))&&decide (i64.wrap (k+1)<(↑a:Int))
def xd4 (k:Int):Nat:=0+(i64.wrap (k+1)).toNat
def xkh (k:Int) (a:LA):=decide (0+k.toNat<a.length)
def xd1 (k:Int) (a:LA):=(a.getD (xd4 k) .top).cells
def xjz (k:Int) (a:LA):=a.set (0+k.toNat) (AV.agg [AV.list 3 ((xd1 k a).getD 0 .top).toList,AV.list 2 ((xd1 k a).getD 1 .top).toList])
def xgK {T:Type} (b:Nat) (i k:Int) (a:LA) (δ:T) (κl:(Int×LA)→T) (κr:(LA)→T):T:=br (decide (k<i64.wrap (i - 1))) (br (xj0 b k) (br (decide (xd4 k<a.length)&&((xd1 k a).length==2&&hasShs [Sh.list 3,Sh.list 2] (xd1 k a) 0)) (br (decide (0≤k)&&decide (k<(↑b:Int))) (br (xkh k a&&((a.getD (0+k.toNat) .top).cells.length==2&&hasShs [Sh.list 3,Sh.list 2] (a.getD (0+k.toNat) .top).cells 0)) (br (decide (0≤k)&&decide (k<(↑b:Int))) (br (xkh k a) (br (xj0 b k) (br (decide (xd4 k<(xjz k a).length)) (κl (i64.wrap (k+1),(xjz k a).set (xd4 k) (AV.agg [AV.list 3 ((a.getD (0+k.toNat) .top).cells.getD 0 .top).toList,AV.list 2 ((a.getD (0+k.toNat) .top).cells.getD 1 .top).toList]))) δ) δ) δ) δ) δ) δ) δ) δ) (κr (a))
def xbL (b:Nat) (i:Int):(Int×LA)→Option ((Int×LA)⊕(LA)):=fun (k,a)=>xgK b i k a none (fun s=>some (.inl s)) (fun p=>some (.inr p))
def xco (b:Nat) (i:Int):(Int×LA)→LA×List Box:=fun (k,a)=>([AV.osl 0 0 0 b,AV.int .i64 i,AV.int .i64 k],[⟨0,2,83,a,false,true⟩])
def xbU (a:Nat) (i:Int):(LA)→LR:=fun p=>(.leaf (.exit 2) [] [⟨0,2,83,p,false,true⟩])
abbrev xqA (a:LA) (H:List Box):=XR Tryz.prog xcT [0,10,13] [] [] (loopAt Tryz.f142 1) a H
theorem xqv (a:Nat) (i:Int) (s:Int×LA):Enc (encR (xco a i) (xbU a i)) (xbL a i s) (xqA (xco a i s).1 (xco a i s).2):=by
 obtain ⟨k,b⟩:=s
 refine eV (xgK a i k b none (fun s=>some (encR (xco a i) (xbU a i) (.inl s))) (fun p=>some (encR (xco a i) (xbU a i) (.inr p)))) (by kernel_rfl) ?_;unfold xbL xgK;repeat' first|exact eN|exact eS rfl|apply eB
def xcb:Lp:=lpOf [0,10,13] [] [] (pCons (pOsl 0 0 0) (pCons (pInt .i64) (pCons (pInt .i64) pNil))) (pCons (pBox 0 2 83 false true pAny) pNil) fun (a,(i,(k,_))) (b,_)=>((Iter (xbL a i) (k,b)).isSome,xbU a i ((Iter (xbL a i) (k,b)).getD []))
theorem xpb:LoopOk Tryz.prog (ITryz.at xcT.pin) xcT.nt (loopAt Tryz.f142 1) xcb:=xaY fun d e g f=>by
 obtain ⟨a,⟨i,⟨k,_⟩⟩⟩:=d
 obtain ⟨b,_⟩:=e
 obtain ⟨c,rfl⟩:=Prod.mk.inj f
 exact xaG mxTryz (inv0Ok Tryz.prog _) rfl xqt xnC (xco a i) (xbU a i) (fun p=>by simp only [xbU,LR.eval];first|(simp;done)|(repeat' split<;>simp)) (xqv a i) (s:=(k,b)) (xab c)
def xcU:Env:=xt1.fn 220 1 (lsOf [83]) (lpsOf [(3,xbt),(9,xcb)])
theorem xp0:OrcOk Tryz.prog (ITryz.at 1) xcU:=xoY.fn
theorem xni:LoOk Tryz.prog (ITryz.at xcU.pin) xcU (loopAt Tryz.f142 2):=xaq (by kernel_rfl)
def xcd (i j:Int):=i64.wrap ((u64.wrap (i64.wrap (i+j))).fdiv 2)
def xdY (i j:Int) (a:LA):=(a.getD (0+(xcd i j).toNat) .top).cells
def xjF (m i j:Int) (a:LA):=xcF ((a.getD (0+m.toNat) .top).cells.getD 0 .top).toList ((a.getD (0+m.toNat) .top).cells.getD 1 .top).toList ((xdY i j a).getD 0 .top).toList ((xdY i j a).getD 1 .top).toList
def xgL {T:Type} (b:Nat) (m i j:Int) (a:LA) (δ:T) (κl:(Int×Int×LA)→T) (κr:(Int×LA)→T):T:=br (decide (i<j)) (br (decide (0≤m)&&decide (m<(↑b:Int))) (br (decide (0+m.toNat<a.length)&&((a.getD (0+m.toNat) .top).cells.length==2&&hasShs [Sh.list 3,Sh.list 2] (a.getD (0+m.toNat) .top).cells 0)) (br (decide (0≤xcd i j)&&decide (xcd i j<(↑b:Int))) (br (decide (0+(xcd i j).toNat<a.length)&&((xdY i j a).length==2&&hasShs [Sh.list 3,Sh.list 2] (xdY i j a) 0)) (br ((xjF m i j a).isSome) (br (!decide ((xjF m i j a).getD 0<0)) (κl (i64.wrap (xcd i j+1),j,a)) (κl (i,xcd i j,a))) δ) δ) δ) δ) δ) (κr (i,a))
def xa3 (b:Nat) (m:Int):(Int×Int×LA)→Option ((Int×Int×LA)⊕(Int×LA)):=fun (i,j,a)=>xgL b m i j a none (fun s=>some (.inl s)) (fun p=>some (.inr p))
def xcm (b:Nat) (m:Int):(Int×Int×LA)→LA×List Box:=fun (i,j,a)=>([AV.osl 0 0 0 b,AV.int .i64 m,AV.func 93 [],AV.int .i64 i,AV.int .i64 j],[⟨0,2,83,a,false,true⟩])
def xbY (a:Nat) (m:Int):(Int×LA)→LR:=fun p=>(.leaf (.exit 4) [AV.osl 0 0 0 a,AV.int .i64 m,AV.int .i64 p.1] [⟨0,2,83,p.2,false,true⟩])
abbrev xqy (a:LA) (H:List Box):=XR Tryz.prog xcU [0,2,4,14,15] [0,2,14] [] (loopAt Tryz.f142 2) a H
theorem xqz (a:Nat) (m:Int) (s:Int×Int×LA):Enc (encR (xcm a m) (xbY a m)) (xa3 a m s) (xqy (xcm a m s).1 (xcm a m s).2):=by
 obtain ⟨i,j,b⟩:=s
 refine eV (xgL a m i j b none (fun s=>some (encR (xcm a m) (xbY a m) (.inl s))) (fun p=>some (encR (xcm a m) (xbY a m) (.inr p)))) (by kernel_rfl) ?_;unfold xa3 xgL;repeat' first|exact eN|exact eS rfl|apply eB
def xc4:Lp:=lpOf [0,2,4,14,15] [0,2,14] [] (pCons (pOsl 0 0 0) (pCons (pInt .i64) (pCons (pFunc 93 pNil) (pCons (pInt .i64) (pCons (pInt .i64) pNil))))) (pCons (pBox 0 2 83 false true pAny) pNil) fun (a,(m,(_,(i,(j,_))))) (b,_)=>((Iter (xa3 a m) (i,j,b)).isSome,xbY a m ((Iter (xa3 a m) (i,j,b)).getD (0,[])))
theorem xpf:LoopOk Tryz.prog (ITryz.at xcU.pin) xcU.nt (loopAt Tryz.f142 2) xc4:=xaY fun d e g f=>by
 obtain ⟨a,⟨m,⟨_,⟨i,⟨j,_⟩⟩⟩⟩⟩:=d
 obtain ⟨b,_⟩:=e
 obtain ⟨c,rfl⟩:=Prod.mk.inj f
 exact xaG mxTryz (inv0Ok Tryz.prog _) rfl xp0 xni (xcm a m) (xbY a m) (fun p=>by simp only [xbY,LR.eval];first|(simp;done)|(repeat' split<;>simp)) (xqz a m) (s:=(i,j,b)) (xab c)
def xcK:Env:=xt1.fn 220 1 (lsOf [83]) (lpsOf [(3,xbt),(9,xcb),(15,xc4)])
theorem xpL:OrcOk Tryz.prog (ITryz.at 1) xcK:=xoY.fn
theorem xm6:LoOk Tryz.prog (ITryz.at xcK.pin) xcK (loopAt Tryz.f142 3):=xaq (by kernel_rfl)
def xj3 (a:Nat) (k:Int):=decide (0≤i64.wrap (k - 1))&&decide (i64.wrap (k - 1)<(↑a:Int))
def xd5 (k:Int):Nat:=0+(i64.wrap (k - 1)).toNat
def xkl (k:Int) (a:LA):=decide (0+k.toNat<a.length)
def xd6 (k:Int) (a:LA):=(a.getD (xd5 k) .top).cells
def xjB (k:Int) (a:LA):=a.set (0+k.toNat) (AV.agg [AV.list 3 ((xd6 k a).getD 0 .top).toList,AV.list 2 ((xd6 k a).getD 1 .top).toList])
def xgM {T:Type} (b:Nat) (i k:Int) (a:LA) (δ:T) (κl:(Int×LA)→T) (κr:(LA)→T):T:=br (decide (k>i)) (br (xj3 b k) (br (decide (xd5 k<a.length)&&((xd6 k a).length==2&&hasShs [Sh.list 3,Sh.list 2] (xd6 k a) 0)) (br (decide (0≤k)&&decide (k<(↑b:Int))) (br (xkl k a&&((a.getD (0+k.toNat) .top).cells.length==2&&hasShs [Sh.list 3,Sh.list 2] (a.getD (0+k.toNat) .top).cells 0)) (br (decide (0≤k)&&decide (k<(↑b:Int))) (br (xkl k a) (br (xj3 b k) (br (decide (xd5 k<(xjB k a).length)) (κl (i64.wrap (k - 1),(xjB k a).set (xd5 k) (AV.agg [AV.list 3 ((a.getD (0+k.toNat) .top).cells.getD 0 .top).toList,AV.list 2 ((a.getD (0+k.toNat) .top).cells.getD 1 .top).toList]))) δ) δ) δ) δ) δ) δ) δ) δ) (κr (a))
def xbI (b:Nat) (i:Int):(Int×LA)→Option ((Int×LA)⊕(LA)):=fun (k,a)=>xgM b i k a none (fun s=>some (.inl s)) (fun p=>some (.inr p))
def xcq (b:Nat) (i:Int):(Int×LA)→LA×List Box:=fun (k,a)=>([AV.osl 0 0 0 b,AV.int .i64 i,AV.int .i64 k],[⟨0,2,83,a,false,true⟩])
def xbW (a:Nat) (i:Int):(LA)→LR:=fun p=>(.leaf (.exit 6) [] [⟨0,2,83,p,false,true⟩])
abbrev xqD (a:LA) (H:List Box):=XR Tryz.prog xcK [0,14,17] [] [] (loopAt Tryz.f142 3) a H
theorem xqJ (a:Nat) (i:Int) (s:Int×LA):Enc (encR (xcq a i) (xbW a i)) (xbI a i s) (xqD (xcq a i s).1 (xcq a i s).2):=by
 obtain ⟨k,b⟩:=s
 refine eV (xgM a i k b none (fun s=>some (encR (xcq a i) (xbW a i) (.inl s))) (fun p=>some (encR (xcq a i) (xbW a i) (.inr p)))) (by kernel_rfl) ?_;unfold xbI xgM;repeat' first|exact eN|exact eS rfl|apply eB
def xd2:Lp:=lpOf [0,14,17] [] [] (pCons (pOsl 0 0 0) (pCons (pInt .i64) (pCons (pInt .i64) pNil))) (pCons (pBox 0 2 83 false true pAny) pNil) fun (a,(i,(k,_))) (b,_)=>((Iter (xbI a i) (k,b)).isSome,xbW a i ((Iter (xbI a i) (k,b)).getD []))
theorem xpj:LoopOk Tryz.prog (ITryz.at xcK.pin) xcK.nt (loopAt Tryz.f142 3) xd2:=xaY fun d e g f=>by
 obtain ⟨a,⟨i,⟨k,_⟩⟩⟩:=d
 obtain ⟨b,_⟩:=e
 obtain ⟨c,rfl⟩:=Prod.mk.inj f
 exact xaG mxTryz (inv0Ok Tryz.prog _) rfl xpL xm6 (xcq a i) (xbW a i) (fun p=>by simp only [xbW,LR.eval];first|(simp;done)|(repeat' split<;>simp)) (xqJ a i) (s:=(k,b)) (xab c)
def xcP:Env:=xt1.fn 220 1 (lsOf [83]) (lpsOf [(3,xbt),(9,xcb),(15,xc4),(21,xd2)])
theorem xql:OrcOk Tryz.prog (ITryz.at 1) xcP:=xoY.fn
theorem xnt:LoOk Tryz.prog (ITryz.at xcP.pin) xcP (loopAt Tryz.f142 4):=xaq (by kernel_rfl)
def xaU (a r:Int):=i64.wrap ((u64.wrap (i64.wrap (a+r))).fdiv 2)
def xdX (c b r:Int) (a:LA):=(a.getD (0+(i64.wrap (c - xaU b r)).toNat) .top).cells
def xdx (b r:Int) (a:LA):=(a.getD (0+(xaU b r).toNat) .top).cells
def xkf (c b r:Int) (a:LA):=xcF ((xdX c b r a).getD 0 .top).toList ((xdX c b r a).getD 1 .top).toList ((xdx b r a).getD 0 .top).toList ((xdx b r a).getD 1 .top).toList
def xgP {T:Type} (e:Nat) (a m b g n f c r:Int) (d:LA) (δ:T) (κl:(Int×Int×LA)→T) (κr:(Int×LA)→T):T:=br (decide (c<r)) (br (decide (0≤i64.wrap (f - xaU c r))&&decide (i64.wrap (f - xaU c r)<(↑e:Int))) (br (decide (0+(i64.wrap (f - xaU c r)).toNat<d.length)&&((xdX f c r d).length==2&&hasShs [Sh.list 3,Sh.list 2] (xdX f c r d) 0)) (br (decide (0≤xaU c r)&&decide (xaU c r<(↑e:Int))) (br (decide (0+(xaU c r).toNat<d.length)&&((xdx c r d).length==2&&hasShs [Sh.list 3,Sh.list 2] (xdx c r d) 0)) (br ((xkf f c r d).isSome) (br (!decide ((xkf f c r d).getD 0<0)) (κl (i64.wrap (xaU c r+1),r,d)) (κl (c,xaU c r,d))) δ) δ) δ) δ) δ) (κr (c,d))
def xbk (d:Nat) (a m b f n g:Int):(Int×Int×LA)→Option ((Int×Int×LA)⊕(Int×LA)):=fun (e,r,c)=>xgP d a m b f n g e r c none (fun s=>some (.inl s)) (fun p=>some (.inr p))
def xcr (d:Nat) (a m b f n g:Int):(Int×Int×LA)→LA×List Box:=fun (e,r,c)=>([AV.osl 0 0 0 d,AV.int .i64 a,AV.int .i64 m,AV.int .i64 b,AV.func 93 [],AV.int .i64 f,AV.int .i64 n,AV.int .i64 e,AV.int .i64 r,AV.int .i64 g],[⟨0,2,83,c,false,true⟩])
def xbV (c:Nat) (a m b d n e:Int):(Int×LA)→LR:=fun p=>(.leaf (.exit 8) [AV.osl 0 0 0 c,AV.int .i64 a,AV.int .i64 m,AV.int .i64 b,AV.func 93 [],AV.int .i64 d,AV.int .i64 n,AV.int .i64 p.1] [⟨0,2,83,p.2,false,true⟩])
abbrev xqH (a:LA) (H:List Box):=XR Tryz.prog xcP [0,1,2,3,4,18,19,20,21,22] [0,1,2,3,4,18,19,20] [] (loopAt Tryz.f142 4) a H
theorem xqB (c:Nat) (a m b d n e:Int) (s:Int×Int×LA):Enc (encR (xcr c a m b d n e) (xbV c a m b d n e)) (xbk c a m b d n e s) (xqH (xcr c a m b d n e s).1 (xcr c a m b d n e s).2):=by
 obtain ⟨g,r,f⟩:=s
 refine eV (xgP c a m b d n e g r f none (fun s=>some (encR (xcr c a m b d n e) (xbV c a m b d n e) (.inl s))) (fun p=>some (encR (xcr c a m b d n e) (xbV c a m b d n e) (.inr p)))) (by kernel_rfl) ?_;unfold xbk xgP;repeat' first|exact eN|exact eS rfl|apply eB
def xf6:Lp:=lpOf [0,1,2,3,4,18,19,20,21,22] [0,1,2,3,4,18,19,20] [] (pCons (pOsl 0 0 0) (pCons (pInt .i64) (pCons (pInt .i64) (pCons (pInt .i64) (pCons (pFunc 93 pNil) (pCons (pInt .i64) (pCons (pInt .i64) (pCons (pInt .i64) (pCons (pInt .i64) (pCons (pInt .i64) pNil)))))))))) (pCons (pBox 0 2 83 false true pAny) pNil) fun (c,(a,(m,(b,(_,(f,(n,(e,(r,(g,_)))))))))) (d,_)=>((Iter (xbk c a m b f n g) (e,r,d)).isSome,xbV c a m b f n g ((Iter (xbk c a m b f n g) (e,r,d)).getD (0,[])))
theorem xpg:LoopOk Tryz.prog (ITryz.at xcP.pin) xcP.nt (loopAt Tryz.f142 4) xf6:=xaY fun i j l k=>by
 obtain ⟨c,⟨a,⟨m,⟨b,⟨_,⟨e,⟨n,⟨f,⟨r,⟨g,_⟩⟩⟩⟩⟩⟩⟩⟩⟩⟩:=i
 obtain ⟨d,_⟩:=j
 obtain ⟨h,rfl⟩:=Prod.mk.inj k
 exact xaG mxTryz (inv0Ok Tryz.prog _) rfl xql xnt (xcr c a m b e n g) (xbV c a m b e n g) (fun p=>by simp only [xbV,LR.eval];first|(simp;done)|(repeat' split<;>simp)) (xqB c a m b e n g) (s:=(f,r,d)) (xab h)
def xgO (R:Nat→Int→Int→Int→LA→Option (LA)):LA→List Box→Option (Bool×AV×List Box):=omOf (sCons (sEq (pOsl 0 0 0)) (sCons (sEq (pInt .i64)) (sCons (sEq (pInt .i64)) (sCons (sEq (pInt .i64)) (sCons (sEq (pFunc (93:FuncId) pNil)) sNil))))) (pCons (pBox 0 2 (83:TypeId) false true pAny) pNil) fun (n,(a,(m,(b,(_,_))))) (c,_)=>((R n a m b c).isSome,(AV.tuple [],([⟨0,2,83,((R n a m b c).getD []),false,true⟩]:List Box)))
def xaZ (R:Nat→Int→Int→Int→LA→Option (LA)):Env:=(xt1.withM 142 (xgO R)).fn 220 1 (lsOf [83]) (lpsOf [(3,xbt),(9,xcb),(15,xc4),(21,xd2),(33,xf6)])
def xge (R:Nat→Int→Int→Int→LA→Option (LA)):Prop:=OmOk Tryz.prog ITryz 142 (xgO R)
theorem xqn (R:Nat→Int→Int→Int→LA→Option (LA)) (a:xge R):OrcOk Tryz.prog (ITryz.at 1) (xaZ R):=(xoY.withM a).fn
theorem xn8 (R:Nat→Int→Int→Int→LA→Option (LA)):LoOk Tryz.prog (ITryz.at (xaZ R).pin) (xaZ R) (Tryz.f142.body.getD .skip):=xaP (ls:=[loopAt Tryz.f142 0,loopAt Tryz.f142 1,loopAt Tryz.f142 2,loopAt Tryz.f142 3,loopAt Tryz.f142 4]) (by kernel_rfl) (fun l b lp a=>by
 simp only [List.mem_cons,List.not_mem_nil,or_false] at b
 rcases b with rfl|rfl|rfl|rfl|rfl
 · rw [show (xaZ R).lp (codeId (loopAt Tryz.f142 0))=some xbt by kernel_rfl] at a
   simp only [Option.some.injEq] at a;subst a;exact xpk
 · rw [show (xaZ R).lp (codeId (loopAt Tryz.f142 1))=some xcb by kernel_rfl] at a
   simp only [Option.some.injEq] at a;subst a;exact xpb
 · rw [show (xaZ R).lp (codeId (loopAt Tryz.f142 2))=some xc4 by kernel_rfl] at a
   simp only [Option.some.injEq] at a;subst a;exact xpf
 · rw [show (xaZ R).lp (codeId (loopAt Tryz.f142 3))=some xd2 by kernel_rfl] at a
   simp only [Option.some.injEq] at a;subst a;exact xpj
 · rw [show (xaZ R).lp (codeId (loopAt Tryz.f142 4))=some xf6 by kernel_rfl] at a
   simp only [Option.some.injEq] at a;subst a;exact xpg)
def xaa (a b:Int):=i64.wrap ((u64.wrap (i64.wrap (a+b))).fdiv 2)
def xaD (n:Nat) (a m:Int) (b:LA):=Iter (xbI n ((Iter (xa3 n m) (a,m,b)).getD (0,[])).fst) (m,((Iter (xa3 n m) (a,m,b)).getD (0,[])).snd)
def xaB (n:Nat) (a m b:Int) (c:LA):=Iter (xbL n ((Iter (xa4 n a) (m,b,c)).getD (0,[])).fst) (a,((Iter (xa4 n a) (m,b,c)).getD (0,[])).snd)
def xaz (n:Nat) (a m b:Int) (c:LA):=Iter (xbk n a m b (xaa a b) (i64.wrap (xaa a b+m)) (i64.wrap (i64.wrap (xaa a b+m) - 1))) (i64.wrap (i64.wrap (xaa a b+m) - b),xaa a b,c)
def xay (n:Nat) (a m b:Int) (c:LA):=Iter (xbk n a m b (xaa a b) (i64.wrap (xaa a b+m)) (i64.wrap (i64.wrap (xaa a b+m) - 1))) (a,m,c)
def xaE (n:Nat) (a m b:Int) (c:LA):=(xaz n a m b c).getD (0,[])
def xaC (n:Nat) (a m b:Int) (c:LA):=(xay n a m b c).getD (0,[])
def xag (n:Nat) (a m b:Int) (c:LA):=(xaE n a m b c).fst
def xah (n:Nat) (a m b:Int) (c:LA):=(xaC n a m b c).fst
def xac (n:Nat) (a m b:Int) (c:LA):=(xaE n a m b c).snd
def xad (n:Nat) (a m b:Int) (c:LA):=(xaC n a m b c).snd
def xae (n:Nat) (a m b:Int) (c:LA):=i64.wrap (i64.wrap (xaa a b+m) - xag n a m b c)
def xaf (n:Nat) (a m b:Int) (c:LA):=i64.wrap (i64.wrap (xaa a b+m) - xah n a m b c)
def xas (n:Nat) (a m b:Int) (c:LA):=decide (xag n a m b c<xaa a b)
def xau (n:Nat) (a m b:Int) (c:LA):=decide (a<xag n a m b c)
def xar (n:Nat) (a m b:Int) (c:LA):=decide (xah n a m b c<xaa a b)
def xat (n:Nat) (a m b:Int) (c:LA):=decide (a<xah n a m b c)
def xan (n:Nat) (a m b:Int) (c:LA):=decide (xaa a b<xae n a m b c)
def xao (n:Nat) (a m b:Int) (c:LA):=decide (xae n a m b c<b)
def xap (n:Nat) (a m b:Int) (c:LA):=decide (xaa a b<xaf n a m b c)
def xam (n:Nat) (a m b:Int) (c:LA):=decide (xaf n a m b c<b)
def xai (n:Nat) (a m b:Int) (c:LA):=(xbc n (xag n a m b c) m (xae n a m b c) (xac n a m b c)).getD []
def xaj (n:Nat) (a m b:Int) (c:LA):=(xbc n (xah n a m b c) m (xaf n a m b c) (xad n a m b c)).getD []
def xaw (R:Nat→Int→Int→Int→LA→Option (LA)) (n:Nat) (a m b:Int) (c:LA):Option (LA):=R n (xaa a b) (xae n a m b c) b ((R n a (xag n a m b c) (xaa a b) (xai n a m b c)).getD [])
def xaA (R:Nat→Int→Int→Int→LA→Option (LA)) (n:Nat) (a m b:Int) (c:LA):Option (LA):=R n (xaa a b) (xaf n a m b c) b ((R n a (xah n a m b c) (xaa a b) (xaj n a m b c)).getD [])
def xaF {T:Type} (R:Nat→Int→Int→Int→LA→Option (LA)) (n:Nat) (a m b:Int) (c:LA) (δ:T) (κ:LA→T):T:=br (i64.wrap (m - a)==1) (br ((Iter (xa4 n a) (m,b,c)).isSome) (br ((xaB n a m b c).isSome) (κ ((xaB n a m b c).getD [])) δ) δ) (br (i64.wrap (b - m)==1) (br ((Iter (xa3 n m) (a,m,c)).isSome) (br ((xaD n a m c).isSome) (κ ((xaD n a m c).getD [])) δ) δ) (br (decide (m>xaa a b)) (br ((xaz n a m b c).isSome) (br (decide (xag n a m b c<m)) (br (decide (m<xae n a m b c)) (br ((xbc n (xag n a m b c) m (xae n a m b c) (xac n a m b c)).isSome) (br (xau n a m b c) (br (xas n a m b c) (br ((R n a (xag n a m b c) (xaa a b) (xai n a m b c)).isSome) (br (xan n a m b c) (br (xao n a m b c) (br ((xaw R n a m b c).isSome) (κ ((xaw R n a m b c).getD [])) δ) (κ ((R n a (xag n a m b c) (xaa a b) (xai n a m b c)).getD []))) (κ ((R n a (xag n a m b c) (xaa a b) (xai n a m b c)).getD []))) δ) (br (xan n a m b c) (br (xao n a m b c) (br ((R n (xaa a b) (xae n a m b c) b (xai n a m b c)).isSome) (κ ((R n (xaa a b) (xae n a m b c) b (xai n a m b c)).getD [])) δ) (κ (xai n a m b c))) (κ (xai n a m b c)))) (br (xan n a m b c) (br (xao n a m b c) (br ((R n (xaa a b) (xae n a m b c) b (xai n a m b c)).isSome) (κ ((R n (xaa a b) (xae n a m b c) b (xai n a m b c)).getD [])) δ) (κ (xai n a m b c))) (κ (xai n a m b c)))) δ) (br (xau n a m b c) (br (xas n a m b c) (br ((R n a (xag n a m b c) (xaa a b) (xac n a m b c)).isSome) (br (xan n a m b c) (br (xao n a m b c) (br ((R n (xaa a b) (xae n a m b c) b ((R n a (xag n a m b c) (xaa a b) (xac n a m b c)).getD [])).isSome) (κ ((R n (xaa a b) (xae n a m b c) b ((R n a (xag n a m b c) (xaa a b) (xac n a m b c)).getD [])).getD [])) δ) (κ ((R n a (xag n a m b c) (xaa a b) (xac n a m b c)).getD []))) (κ ((R n a (xag n a m b c) (xaa a b) (xac n a m b c)).getD []))) δ) (br (xan n a m b c) (br (xao n a m b c) (br ((R n (xaa a b) (xae n a m b c) b (xac n a m b c)).isSome) (κ ((R n (xaa a b) (xae n a m b c) b (xac n a m b c)).getD [])) δ) (κ (xac n a m b c))) (κ (xac n a m b c)))) (br (xan n a m b c) (br (xao n a m b c) (br ((R n (xaa a b) (xae n a m b c) b (xac n a m b c)).isSome) (κ ((R n (xaa a b) (xae n a m b c) b (xac n a m b c)).getD [])) δ) (κ (xac n a m b c))) (κ (xac n a m b c))))) (br (xau n a m b c) (br (xas n a m b c) (br ((R n a (xag n a m b c) (xaa a b) (xac n a m b c)).isSome) (br (xan n a m b c) (br (xao n a m b c) (br ((R n (xaa a b) (xae n a m b c) b ((R n a (xag n a m b c) (xaa a b) (xac n a m b c)).getD [])).isSome) (κ ((R n (xaa a b) (xae n a m b c) b ((R n a (xag n a m b c) (xaa a b) (xac n a m b c)).getD [])).getD [])) δ) (κ ((R n a (xag n a m b c) (xaa a b) (xac n a m b c)).getD []))) (κ ((R n a (xag n a m b c) (xaa a b) (xac n a m b c)).getD []))) δ) (br (xan n a m b c) (br (xao n a m b c) (br ((R n (xaa a b) (xae n a m b c) b (xac n a m b c)).isSome) (κ ((R n (xaa a b) (xae n a m b c) b (xac n a m b c)).getD [])) δ) (κ (xac n a m b c))) (κ (xac n a m b c)))) (br (xan n a m b c) (br (xao n a m b c) (br ((R n (xaa a b) (xae n a m b c) b (xac n a m b c)).isSome) (κ ((R n (xaa a b) (xae n a m b c) b (xac n a m b c)).getD [])) δ) (κ (xac n a m b c))) (κ (xac n a m b c))))) δ) (br ((xay n a m b c).isSome) (br (decide (xah n a m b c<m)) (br (decide (m<xaf n a m b c)) (br ((xbc n (xah n a m b c) m (xaf n a m b c) (xad n a m b c)).isSome) (br (xat n a m b c) (br (xar n a m b c) (br ((R n a (xah n a m b c) (xaa a b) (xaj n a m b c)).isSome) (br (xap n a m b c) (br (xam n a m b c) (br ((xaA R n a m b c).isSome) (κ ((xaA R n a m b c).getD [])) δ) (κ ((R n a (xah n a m b c) (xaa a b) (xaj n a m b c)).getD []))) (κ ((R n a (xah n a m b c) (xaa a b) (xaj n a m b c)).getD []))) δ) (br (xap n a m b c) (br (xam n a m b c) (br ((R n (xaa a b) (xaf n a m b c) b (xaj n a m b c)).isSome) (κ ((R n (xaa a b) (xaf n a m b c) b (xaj n a m b c)).getD [])) δ) (κ (xaj n a m b c))) (κ (xaj n a m b c)))) (br (xap n a m b c) (br (xam n a m b c) (br ((R n (xaa a b) (xaf n a m b c) b (xaj n a m b c)).isSome) (κ ((R n (xaa a b) (xaf n a m b c) b (xaj n a m b c)).getD [])) δ) (κ (xaj n a m b c))) (κ (xaj n a m b c)))) δ) (br (xat n a m b c) (br (xar n a m b c) (br ((R n a (xah n a m b c) (xaa a b) (xad n a m b c)).isSome) (br (xap n a m b c) (br (xam n a m b c) (br ((R n (xaa a b) (xaf n a m b c) b ((R n a (xah n a m b c) (xaa a b) (xad n a m b c)).getD [])).isSome) (κ ((R n (xaa a b) (xaf n a m b c) b ((R n a (xah n a m b c) (xaa a b) (xad n a m b c)).getD [])).getD [])) δ) (κ ((R n a (xah n a m b c) (xaa a b) (xad n a m b c)).getD []))) (κ ((R n a (xah n a m b c) (xaa a b) (xad n a m b c)).getD []))) δ) (br (xap n a m b c) (br (xam n a m b c) (br ((R n (xaa a b) (xaf n a m b c) b (xad n a m b c)).isSome) (κ ((R n (xaa a b) (xaf n a m b c) b (xad n a m b c)).getD [])) δ) (κ (xad n a m b c))) (κ (xad n a m b c)))) (br (xap n a m b c) (br (xam n a m b c) (br ((R n (xaa a b) (xaf n a m b c) b (xad n a m b c)).isSome) (κ ((R n (xaa a b) (xaf n a m b c) b (xad n a m b c)).getD [])) δ) (κ (xad n a m b c))) (κ (xad n a m b c))))) (br (xat n a m b c) (br (xar n a m b c) (br ((R n a (xah n a m b c) (xaa a b) (xad n a m b c)).isSome) (br (xap n a m b c) (br (xam n a m b c) (br ((R n (xaa a b) (xaf n a m b c) b ((R n a (xah n a m b c) (xaa a b) (xad n a m b c)).getD [])).isSome) (κ ((R n (xaa a b) (xaf n a m b c) b ((R n a (xah n a m b c) (xaa a b) (xad n a m b c)).getD [])).getD [])) δ) (κ ((R n a (xah n a m b c) (xaa a b) (xad n a m b c)).getD []))) (κ ((R n a (xah n a m b c) (xaa a b) (xad n a m b c)).getD []))) δ) (br (xap n a m b c) (br (xam n a m b c) (br ((R n (xaa a b) (xaf n a m b c) b (xad n a m b c)).isSome) (κ ((R n (xaa a b) (xaf n a m b c) b (xad n a m b c)).getD [])) δ) (κ (xad n a m b c))) (κ (xad n a m b c)))) (br (xap n a m b c) (br (xam n a m b c) (br ((R n (xaa a b) (xaf n a m b c) b (xad n a m b c)).isSome) (κ ((R n (xaa a b) (xaf n a m b c) b (xad n a m b c)).getD [])) δ) (κ (xad n a m b c))) (κ (xad n a m b c))))) δ)))
def xav (R:Nat→Int→Int→Int→LA→Option (LA)) (n:Nat) (a m b:Int) (c:LA):Option (LA):=xaF R n a m b c none some
theorem xsd (R:Nat→Int→Int→Int→LA→Option (LA)) (n:Nat) (a m b:Int) (xs:LA):Enc (fun (p:LA)=>(((AV.tuple [],([⟨0,2,83,p,false,true⟩]:List Box))):(AV×List Box))) (xav R n a m b xs) (XFM Tryz.prog (xaZ R) Tryz.f142 (Tryz.f142.body.getD .skip) [AV.osl (0:Id) 0 0 n,AV.int .i64 a,AV.int .i64 m,AV.int .i64 b,AV.func (93:FuncId) []] [{ ver:=0,sz:=2,ty:=(83:TypeId),xs:=xs,frz:=false,pm:=true }]):=by
 refine eV (xaF R n a m b xs none (fun (p:LA)=>some (((AV.tuple [],([⟨0,2,83,p,false,true⟩]:List Box))):(AV×List Box)))) (by kernel_rfl) ?_;unfold xav xaF;repeat' first|exact eN|exact eS rfl|apply eB
def xsj (R:Nat→Int→Int→Int→LA→Option (LA)):LA→List Box→Option (Bool×AV×List Box):=omOf (sCons (sEq (pOsl 0 0 0)) (sCons (sEq (pInt .i64)) (sCons (sEq (pInt .i64)) (sCons (sEq (pInt .i64)) (sCons (sEq (pFunc (93:FuncId) pNil)) sNil))))) (pCons (pBox 0 2 (83:TypeId) false true pAny) pNil) fun (n,(a,(m,(b,(_,_))))) (c,_)=>((xav R n a m b c).isSome,((AV.tuple [],([⟨0,2,83,((xav R n a m b c).getD []),false,true⟩]:List Box))))
theorem xr9 (R:Nat→Int→Int→Int→LA→Option (LA)) (f:xge R):OmOk Tryz.prog ITryz 142 (xsj R):=xfP fun g h k j i=>by
 obtain ⟨n,⟨a,⟨m,⟨b,⟨_,_⟩⟩⟩⟩⟩:=g
 obtain ⟨l,_⟩:=h
 obtain ⟨c,e⟩:=Prod.mk.inj i
 refine xdq (p:=(xaZ R).pin) (xdV mxTryz (inv0Ok Tryz.prog _) rfl (xqn R f) rfl Tryz.func142 rfl (by kernel_rfl) (xn8 R) ((xsd R _ _ _ _ _ _ (xab (d:=[]) c)).trans ?_))
 exact congrArg some e
def xaR:Nat→Nat→Int→Int→Int→LA→Option (LA)
 | 0=>fun _ _ _ _ _=>none
 | fu_+1=>fun n a m b c=>xav (xaR fu_) n a m b c
theorem xkw:∀ n,xge (xaR n)
 | 0=>xfP fun _ _ _ _ h=>absurd (Prod.mk.inj h).1 Bool.false_ne_true
 | fu_+1=>fun a H r b h=>xr9 (xaR fu_) (xkw fu_) a H r b h
def xAs:Env:=xt1.withM 142 (xgO (xaR 1000))
theorem xtm:OrcOk Tryz.prog ITryz xAs:=xoY.withM (xkw _)
def xde:Env:=xAs.fn 63 1 (lsOf [83]) (lpsOf [])
theorem xq7:OrcOk Tryz.prog (ITryz.at 1) xde:=xtm.fn
theorem xn4:LoOk Tryz.prog (ITryz.at xde.pin) xde (loopAt Tryz.f119 0):=xaq (by kernel_rfl)
def xhs {T:Type} (d:Nat) (n e a b:Int) (c:LA) (δ:T) (κl:(Int×Int×LA)→T) (κr:(Int×LA)→T):T:=br (decide (b≤n)) (br ((xaX d a b c).isSome) (κl (b,i64.wrap (b+e),(xaX d a b c).getD [])) δ) (κr (a,c))
def xa8 (e:Nat) (n c:Int):(Int×Int×LA)→Option ((Int×Int×LA)⊕(Int×LA)):=fun (a,b,d)=>xhs e n c a b d none (fun s=>some (.inl s)) (fun p=>some (.inr p))
def xcO (e:Nat) (n c:Int):(Int×Int×LA)→LA×List Box:=fun (a,b,d)=>([AV.osl 0 0 0 e,AV.int .i64 n,AV.func 93 [],AV.int .i64 c,AV.int .i64 a,AV.int .i64 b],[⟨0,2,83,d,false,true⟩])
def xcn (b:Nat) (n a:Int):(Int×LA)→LR:=fun p=>(.leaf (.exit 0) [AV.osl 0 0 0 b,AV.int .i64 n,AV.func 93 [],AV.int .i64 a,AV.int .i64 p.1] [⟨0,2,83,p.2,false,true⟩])
abbrev xrW (a:LA) (H:List Box):=XR Tryz.prog xde [0,1,2,6,7,8] [0,1,2,6,7] [] (loopAt Tryz.f119 0) a H
theorem xrZ (d:Nat) (n c:Int) (s:Int×Int×LA):Enc (encR (xcO d n c) (xcn d n c)) (xa8 d n c s) (xrW (xcO d n c s).1 (xcO d n c s).2):=by
 obtain ⟨a,b,e⟩:=s
 refine eV (xhs d n c a b e none (fun s=>some (encR (xcO d n c) (xcn d n c) (.inl s))) (fun p=>some (encR (xcO d n c) (xcn d n c) (.inr p)))) (by kernel_rfl) ?_;unfold xa8 xhs;repeat' first|exact eN|exact eS rfl|apply eB
def xeG:Lp:=lpOf [0,1,2,6,7,8] [0,1,2,6,7] [] (pCons (pOsl 0 0 0) (pCons (pInt .i64) (pCons (pFunc 93 pNil) (pCons (pInt .i64) (pCons (pInt .i64) (pCons (pInt .i64) pNil)))))) (pCons (pBox 0 2 83 false true pAny) pNil) fun (d,(n,(_,(c,(a,(b,_)))))) (e,_)=>((Iter (xa8 d n c) (a,b,e)).isSome,xcn d n c ((Iter (xa8 d n c) (a,b,e)).getD (0,[])))
theorem xqK:LoopOk Tryz.prog (ITryz.at xde.pin) xde.nt (loopAt Tryz.f119 0) xeG:=xaY fun g h j i=>by
 obtain ⟨d,⟨n,⟨_,⟨c,⟨a,⟨b,_⟩⟩⟩⟩⟩⟩:=g
 obtain ⟨e,_⟩:=h
 obtain ⟨f,rfl⟩:=Prod.mk.inj i
 exact xaG mxTryz (inv0Ok Tryz.prog _) rfl xq7 xn4 (xcO d n c) (xcn d n c) (fun p=>by simp only [xcn,LR.eval];first|(simp;done)|(repeat' split<;>simp)) (xrZ d n c) (s:=(a,b,e)) (xab f)
def xdd:Env:=xAs.fn 63 1 (lsOf [83]) (lpsOf [(2,xeG)])
theorem xq2:OrcOk Tryz.prog (ITryz.at 1) xdd:=xtm.fn
theorem xoc:LoOk Tryz.prog (ITryz.at xdd.pin) xdd (loopAt Tryz.f119 2):=xaq (by kernel_rfl)
def xhq {T:Type} (e:Nat) (n c a b:Int) (d:LA) (δ:T) (κl:(Int×Int×LA)→T) (κr:(Int×LA)→T):T:=br (decide (b≤n)) (br ((xaR 1000 e a (i64.wrap (a+c)) b d).isSome) (κl (b,i64.wrap (b+i64.wrap (2*c)),(xaR 1000 e a (i64.wrap (a+c)) b d).getD [])) δ) (κr (a,d))
def xbu (e:Nat) (n c:Int):(Int×Int×LA)→Option ((Int×Int×LA)⊕(Int×LA)):=fun (a,b,d)=>xhq e n c a b d none (fun s=>some (.inl s)) (fun p=>some (.inr p))
def xcQ (e:Nat) (n c:Int):(Int×Int×LA)→LA×List Box:=fun (a,b,d)=>([AV.osl 0 0 0 e,AV.int .i64 n,AV.func 93 [],AV.int .i64 c,AV.int .i64 a,AV.int .i64 b],[⟨0,2,83,d,false,true⟩])
def xcl (b:Nat) (n a:Int):(Int×LA)→LR:=fun p=>(.leaf (.exit 4) [AV.osl 0 0 0 b,AV.int .i64 n,AV.func 93 [],AV.int .i64 a,AV.int .i64 p.1] [⟨0,2,83,p.2,false,true⟩])
abbrev xrS (a:LA) (H:List Box):=XR Tryz.prog xdd [0,1,2,6,7,8] [0,1,2,6,7] [] (loopAt Tryz.f119 2) a H
theorem xrw (d:Nat) (n c:Int) (s:Int×Int×LA):Enc (encR (xcQ d n c) (xcl d n c)) (xbu d n c s) (xrS (xcQ d n c s).1 (xcQ d n c s).2):=by
 obtain ⟨a,b,e⟩:=s
 refine eV (xhq d n c a b e none (fun s=>some (encR (xcQ d n c) (xcl d n c) (.inl s))) (fun p=>some (encR (xcQ d n c) (xcl d n c) (.inr p)))) (by kernel_rfl) ?_;unfold xbu xhq;repeat' first|exact eN|exact eS rfl|apply eB
def xgY:Lp:=lpOf [0,1,2,6,7,8] [0,1,2,6,7] [] (pCons (pOsl 0 0 0) (pCons (pInt .i64) (pCons (pFunc 93 pNil) (pCons (pInt .i64) (pCons (pInt .i64) (pCons (pInt .i64) pNil)))))) (pCons (pBox 0 2 83 false true pAny) pNil) fun (d,(n,(_,(c,(a,(b,_)))))) (e,_)=>((Iter (xbu d n c) (a,b,e)).isSome,xcl d n c ((Iter (xbu d n c) (a,b,e)).getD (0,[])))
theorem xky:LoopOk Tryz.prog (ITryz.at xdd.pin) xdd.nt (loopAt Tryz.f119 2) xgY:=xaY fun g h j i=>by
 obtain ⟨d,⟨n,⟨_,⟨c,⟨a,⟨b,_⟩⟩⟩⟩⟩⟩:=g
 obtain ⟨e,_⟩:=h
 obtain ⟨f,rfl⟩:=Prod.mk.inj i
 exact xaG mxTryz (inv0Ok Tryz.prog _) rfl xq2 xoc (xcQ d n c) (xcl d n c) (fun p=>by simp only [xcl,LR.eval];first|(simp;done)|(repeat' split<;>simp)) (xrw d n c) (s:=(a,b,e)) (xab f)
def xdb:Env:=xAs.fn 63 1 (lsOf [83]) (lpsOf [(2,xeG),(9,xgY)])
theorem xqX:OrcOk Tryz.prog (ITryz.at 1) xdb:=xtm.fn
theorem xoe:LoOk Tryz.prog (ITryz.at xdb.pin) xdb (loopAt Tryz.f119 1):=xaP (ls:=[loopAt Tryz.f119 2]) (by kernel_rfl) (lkC xky lkN)
def xeM (c:Nat) (n a:Int) (b:LA):=Iter (xbu c n a) (0,i64.wrap (2*a),b)
def xew (c:Nat) (n a:Int) (b:LA):=(xeM c n a b).getD (0,[])
def xeA (c:Nat) (n a:Int) (b:LA):=(xew c n a b).snd
def xeK (c:Nat) (n a:Int) (b:LA):=(xew c n a b).fst
def xeJ (c:Nat) (n a:Int) (b:LA):=i64.wrap (xeK c n a b+a)
def xeN (b:Nat) (n a:Int) (c:LA):=xaR 1000 b (xeK b n a c) (xeJ b n a c) n (xeA b n a c)
def xcS {T:Type} (c:Nat) (n a:Int) (b:LA) (δ:T) (κl:(Int×LA)→T) (κr:(LA)→T):T:=br (decide (a<n)) (br ((xeM c n a b).isSome) (br (decide (xeJ c n a b<n)) (br ((xeN c n a b).isSome) (κl (i64.wrap (a*2),(xeN c n a b).getD [])) δ) (κl (i64.wrap (a*2),xeA c n a b))) δ) (κr (b))
def xaT (c:Nat) (n:Int):(Int×LA)→Option ((Int×LA)⊕(LA)):=fun (a,b)=>xcS c n a b none (fun s=>some (.inl s)) (fun p=>some (.inr p))
def xcL (c:Nat) (n:Int):(Int×LA)→LA×List Box:=fun (a,b)=>([AV.osl 0 0 0 c,AV.int .i64 n,AV.func 93 [],AV.int .i64 a],[⟨0,2,83,b,false,true⟩])
def xcp (a:Nat) (n:Int):(LA)→LR:=fun p=>(.leaf (.exit 2) [] [⟨0,2,83,p,false,true⟩])
abbrev xrs (a:LA) (H:List Box):=XR Tryz.prog xdb [0,1,2,6] [] [] (loopAt Tryz.f119 1) a H
theorem xrV (a:Nat) (n:Int) (s:Int×LA):Enc (encR (xcL a n) (xcp a n)) (xaT a n s) (xrs (xcL a n s).1 (xcL a n s).2):=by
 obtain ⟨b,c⟩:=s
 refine eV (xcS a n b c none (fun s=>some (encR (xcL a n) (xcp a n) (.inl s))) (fun p=>some (encR (xcL a n) (xcp a n) (.inr p)))) (by kernel_rfl) ?_;unfold xaT xcS;repeat' first|exact eN|exact eS rfl|apply eB
def xk6:Lp:=lpOf [0,1,2,6] [] [] (pCons (pOsl 0 0 0) (pCons (pInt .i64) (pCons (pFunc 93 pNil) (pCons (pInt .i64) pNil)))) (pCons (pBox 0 2 83 false true pAny) pNil) fun (b,(n,(_,(a,_)))) (c,_)=>((Iter (xaT b n) (a,c)).isSome,xcp b n ((Iter (xaT b n) (a,c)).getD []))
theorem xqC:LoopOk Tryz.prog (ITryz.at xdb.pin) xdb.nt (loopAt Tryz.f119 1) xk6:=xaY fun e f h g=>by
 obtain ⟨a,⟨n,⟨_,⟨b,_⟩⟩⟩⟩:=e
 obtain ⟨c,_⟩:=f
 obtain ⟨d,rfl⟩:=Prod.mk.inj g
 exact xaG mxTryz (inv0Ok Tryz.prog _) rfl xqX xoe (xcL a n) (xcp a n) (fun p=>by simp only [xcp,LR.eval];first|(simp;done)|(repeat' split<;>simp)) (xrV a n) (s:=(b,c)) (xab d)
def xd3:Env:=xAs.fn 63 1 (lsOf [83]) (lpsOf [(2,xeG),(9,xgY),(7,xk6)])
theorem xrd:OrcOk Tryz.prog (ITryz.at 1) xd3:=xtm.fn
theorem xpd:LoOk Tryz.prog (ITryz.at xd3.pin) xd3 (Tryz.f119.body.getD .skip):=xaP (ls:=[loopAt Tryz.f119 0,loopAt Tryz.f119 1,loopAt Tryz.f119 2]) (by kernel_rfl) (lkC xqK (lkC xqC (lkC xky lkN)))
def xiv (n:Nat) (k:Int) (a:LA):=(Iter (xa8 n k 20) (0,20,a)).getD (0,[])
def xis (n:Nat) (k:Int) (a:LA):=xaX n (xiv n k a).fst k (xiv n k a).snd
def xiu (n:Nat) (k:Int) (a:LA):=Iter (xaT n k) (20,(xis n k a).getD [])
def xf4 {T:Type} (n:Nat) (k:Int) (a:LA) (δ:T) (κ:LA→T):T:=br ((Iter (xa8 n k 20) (0,20,a)).isSome) (br ((xis n k a).isSome) (br ((xiu n k a).isSome) (κ ((xiu n k a).getD [])) δ) δ) δ
def xcA (n:Nat) (k:Int) (a:LA):Option (LA):=xf4 n k a none some
theorem xs0 (n:Nat) (k:Int) (xs:LA):Enc (fun (p:LA)=>(((AV.tuple [],([⟨0,2,83,p,false,true⟩]:List Box))):(AV×List Box))) (xcA n k xs) (XFM Tryz.prog xd3 Tryz.f119 (Tryz.f119.body.getD .skip) [AV.osl (0:Id) 0 0 n,AV.int .i64 k,AV.func (93:FuncId) []] [{ ver:=0,sz:=2,ty:=(83:TypeId),xs:=xs,frz:=false,pm:=true }]):=by
 refine eV (xf4 n k xs none (fun (p:LA)=>some (((AV.tuple [],([⟨0,2,83,p,false,true⟩]:List Box))):(AV×List Box)))) (by kernel_rfl) ?_;unfold xcA xf4;repeat' first|exact eN|exact eS rfl|apply eB
def xmt:LA→List Box→Option (Bool×AV×List Box):=omOf (sCons (sEq (pOsl 0 0 0)) (sCons (sEq (pInt .i64)) (sCons (sEq (pFunc (93:FuncId) pNil)) sNil))) (pCons (pBox 0 2 (83:TypeId) false true pAny) pNil) fun (n,(k,(_,_))) (a,_)=>((xcA n k a).isSome,((AV.tuple [],([⟨0,2,83,((xcA n k a).getD []),false,true⟩]:List Box))))
theorem xtt:OmOk Tryz.prog ITryz 119 (xmt):=xfP fun c e h g f=>by
 obtain ⟨n,⟨k,⟨_,_⟩⟩⟩:=c
 obtain ⟨i,_⟩:=e
 obtain ⟨a,b⟩:=Prod.mk.inj f
 refine xdq (p:=xd3.pin) (xdV mxTryz (inv0Ok Tryz.prog _) rfl xrd rfl Tryz.func119 rfl (by kernel_rfl) xpd ((xs0 _ _ _ _ (xab (d:=[]) a)).trans ?_))
 exact congrArg some b
def xKQ:Env:=xAs.withM 119 xmt
theorem xHG:OrcOk Tryz.prog ITryz xKQ:=xtm.withM xtt
def xdK:Env:=xKQ.fn 9 1 (lsOf [83]) (lpsOf [])
theorem xqw:OrcOk Tryz.prog (ITryz.at 1) xdK:=xHG.fn
theorem xph:LoOk Tryz.prog (ITryz.at xdK.pin) xdK (Tryz.f92.body.getD .skip):=xaq (by kernel_rfl)
def xfW {T:Type} (n:Nat) (a:LA) (δ:T) (κ:LA→T):T:=br ((xcA n (↑n:Int) a).isSome) (κ ((xcA n (↑n:Int) a).getD [])) δ
def xcY (n:Nat) (a:LA):Option (LA):=xfW n a none some
theorem xss (n:Nat) (xs:LA):Enc (fun (p:LA)=>(((AV.tuple [],([⟨0,2,83,p,false,true⟩]:List Box))):(AV×List Box))) (xcY n xs) (XFM Tryz.prog xdK Tryz.f92 (Tryz.f92.body.getD .skip) [AV.osl (0:Id) 0 0 n,AV.func (93:FuncId) []] [{ ver:=0,sz:=2,ty:=(83:TypeId),xs:=xs,frz:=false,pm:=true }]):=by
 refine eV (xfW n xs none (fun (p:LA)=>some (((AV.tuple [],([⟨0,2,83,p,false,true⟩]:List Box))):(AV×List Box)))) (by kernel_rfl) ?_;unfold xcY xfW;repeat' first|exact eN|exact eS rfl|apply eB
def xl8:LA→List Box→Option (Bool×AV×List Box):=omOf (sCons (sEq (pOsl 0 0 0)) (sCons (sEq (pFunc (93:FuncId) pNil)) sNil)) (pCons (pBox 0 2 (83:TypeId) false true pAny) pNil) fun (n,(_,_)) (a,_)=>((xcY n a).isSome,((AV.tuple [],([⟨0,2,83,((xcY n a).getD []),false,true⟩]:List Box))))
theorem xsz:OmOk Tryz.prog ITryz 92 (xl8):=xfP fun c e h g f=>by
 obtain ⟨n,⟨_,_⟩⟩:=c
 obtain ⟨i,_⟩:=e
 obtain ⟨a,b⟩:=Prod.mk.inj f
 refine xdq (p:=xdK.pin) (xdV mxTryz (inv0Ok Tryz.prog _) rfl xqw rfl Tryz.func92 rfl (by kernel_rfl) xph ((xss _ _ _ (xab (d:=[]) a)).trans ?_))
 exact congrArg some b
def xG0:Env:=xKQ.withM 92 xl8
theorem xCH:OrcOk Tryz.prog ITryz xG0:=xHG.withM xsz
def xg9:Env:=xG0.fn 60 0 (lsOf []) (lpsOf [])
theorem xyg:OrcOk Tryz.prog (ITryz.at 0) xg9:=xCH.fn
theorem xtB:LoOk Tryz.prog (ITryz.at xg9.pin) xg9 (loopAt Tryz.f67 0):=xaq (by kernel_rfl)
def xfZ (b:LA) (c:Int) (a:LA):=a++[AV.agg [AV.list 3 ((b.getD c.toNat .top).cells.getD 0 .top).toList,AV.list 2 []]]
def xcx (a:Nat):Nat:=0+(↑a:Int).toNat
def xdA (a:LA) (b:Int):=(xga ((a.getD b.toNat .top).cells.getD 0 .top).toList).getD []
def xi7 (d:LA) (f:Int) (b:Nat) (e:Int) (c a:LA):=decide (xcx b<(xfZ d e a).length)
def xi8 (d:LA) (e:Int) (a:Nat) (f:Int) (b c:LA):=decide ((↑a:Int)<(↑(a+1):Int))
def xbT (c:LA) (b:Nat) (d:Int) (a:LA):=((xfZ c d a).getD (xcx b) .top).cells
def xiA (a:LA) (b:Int):=decide ((xdA a b).length≤4611686018427387904)
def xgb (b:LA) (c:Int) (a:LA):=(mapGet (AV.int .i64 0) a (xdA b c)).toInt
def xi6 (c:LA) (b:Nat) (d:Int) (a:LA):=decide (0≤xgb c d a)&&decide (xgb c d a<(↑b:Int))
def xba (c:LA) (b:Nat) (d:Int) (a:LA):=((xbT c b d a).getD 1 .top).toList.length
def xaW (b:LA) (c:Int) (a:LA):Nat:=0+(xgb b c a).toNat
def xim (a:LA) (d:Nat) (b:Int) (c:LA):=((xbT a d b c).getD 1 .top).toList++[AV.agg [AV.int .i64 ((a.getD b.toNat .top).cells.getD 1 .top).toInt,AV.int .i64 ((a.getD b.toNat .top).cells.getD 2 .top).toInt]]
def xgQ (c:LA) (b:Nat) (d:Int) (a:LA):=(xfZ c d a).set (xcx b) (AV.agg (List.take 1 (xbT c b d a)++[AV.int .i64 (↑(xba c b d a):Int)]++List.drop 2 (xbT c b d a)))
def xi9 (c:LA) (d:Int) (a b:LA):=decide (xaW c d a<b.length)
def xa9 (c:LA) (d:Int) (a b:LA):=((b.getD (xaW c d a) .top).cells.getD 1 .top).toList.length
def xio (b:LA) (c:Int) (a d:LA):=((d.getD (xaW b c a) .top).cells.getD 1 .top).toList++[AV.agg [AV.int .i64 ((b.getD c.toNat .top).cells.getD 1 .top).toInt,AV.int .i64 ((b.getD c.toNat .top).cells.getD 2 .top).toInt]]
def xe6 (c:LA) (a:Nat) (d:Int) (b:LA):=((xgQ c a d b).getD (xcx a) .top).cells
def xgR (c:LA) (d:Int) (a b:LA):=b.set (xaW c d a) (AV.agg (List.take 1 (b.getD (xaW c d a) .top).cells++[AV.int .i64 (↑(xa9 c d a b):Int)]++List.drop 2 (b.getD (xaW c d a) .top).cells))
def xeY (c:LA) (d:Int) (a b:LA):=((xgR c d a b).getD (xaW c d a) .top).cells
def xeq {T:Type} (d:LA) (f:Int) (e:Nat) (c:Int) (b a:LA) (δ:T) (κl:(Nat×Int×LA×LA)→T) (κr:(Nat×LA)→T):T:=br (decide (c<f)) (br (decide (0≤c)&&decide (c<d.length)) (br (decide (c.toNat<d.length)&&((d.getD c.toNat .top).cells.length==3&&hasShs [Sh.list 3,Sh.int .i64,Sh.int .i64] (d.getD c.toNat .top).cells 0)) (br (!xf7 ((d.getD c.toNat .top).cells.getD 1 .top).toInt ((d.getD c.toNat .top).cells.getD 2 .top).toInt) (κl (e,i64.wrap (c+1),b,a)) (br ((xga ((d.getD c.toNat .top).cells.getD 0 .top).toList).isSome) (br (xiA d c&&hasSh1 (Sh.int .i64) (mapGet (AV.int .i64 0) b (xdA d c))) (br (!mapHas b (xdA d c)) (br (decide (b.length<4611686018427387904)&&xiA d c) (br (e==a.length&&(decide ((e+1)*48≤140737488355328)&&decide (e+1≤4611686018427387904))) (br (xi8 d f e c b a) (br (xi7 d f e c b a&&(isRow 2 ((xbT d e c a).getD 1 .top)&&(xbT d e c a).length==2)) (br (xi7 d f e c b a&&(isRow 2 ((xbT d e c a).getD 1 .top)&&((xbT d e c a).length==2&&(2*xba d e c a==2*xba d e c a&&(xba d e c a==xba d e c a&&(xba d e c a==xba d e c a&&(decide ((xba d e c a+1)*16≤140737488355328)&&decide (xba d e c a+1≤4611686018427387904)))))))) (br (xi8 d f e c b a) (br (decide (xcx e<(xgQ d e c a).length)&&((xe6 d e c a).length==2&&(xba d e c a+1==(xim d e c a).length&&deadLt ((xe6 d e c a).getD 1 .top) (xba d e c a+1)))) (κl (e+1,i64.wrap (c+1),mapPut b (xdA d c) (AV.int .i64 (↑e:Int)),(xgQ d e c a).set (xcx e) (AV.agg (List.take 1 (xe6 d e c a)++[AV.list 2 (xim d e c a)]++List.drop 2 (xe6 d e c a))))) δ) δ) δ) δ) δ) δ) δ) (br (xi6 d e c b) (br (xi9 d c b a&&(isRow 2 ((a.getD (xaW d c b) .top).cells.getD 1 .top)&&(a.getD (xaW d c b) .top).cells.length==2)) (br (xi9 d c b a&&(isRow 2 ((a.getD (xaW d c b) .top).cells.getD 1 .top)&&((a.getD (xaW d c b) .top).cells.length==2&&(2*xa9 d c b a==2*xa9 d c b a&&(xa9 d c b a==xa9 d c b a&&(xa9 d c b a==xa9 d c b a&&(decide ((xa9 d c b a+1)*16≤140737488355328)&&decide (xa9 d c b a+1≤4611686018427387904)))))))) (br (xi6 d e c b) (br (decide (xaW d c b<(xgR d c b a).length)&&((xeY d c b a).length==2&&(xa9 d c b a+1==(xio d c b a).length&&deadLt ((xeY d c b a).getD 1 .top) (xa9 d c b a+1)))) (κl (e,i64.wrap (c+1),b,(xgR d c b a).set (xaW d c b) (AV.agg (List.take 1 (xeY d c b a)++[AV.list 2 (xio d c b a)]++List.drop 2 (xeY d c b a))))) δ) δ) δ) δ) δ)) δ) δ)) δ) δ) (κr (e,a))
def xbo (d:LA) (e:Int):(Nat×Int×LA×LA)→Option ((Nat×Int×LA×LA)⊕(Nat×LA)):=fun (c,f,a,b)=>xeq d e c f a b none (fun s=>some (.inl s)) (fun p=>some (.inr p))
def xfS (d:LA) (e:Int):(Nat×Int×LA×LA)→LA×List Box:=fun (c,f,a,b)=>([AV.own 0 0 0 0,AV.osl 1 0 0 c,AV.list 3 d,AV.int .i64 e,AV.int .i64 f],[⟨0,2,1208925819615080213381120,a,false,true⟩,⟨0,2,133280301139,b,false,true⟩])
def xeC (a:LA) (b:Int):(Nat×LA)→LR:=fun p=>(.leaf (.exit 0) [AV.osl 0 0 0 p.1] [⟨0,2,133280301139,p.2,false,true⟩])
abbrev xzh (a:LA) (H:List Box):=XR Tryz.prog xg9 [3,4,11,12,13] [4] [(4,2,133280301139)] (loopAt Tryz.f67 0) a H
theorem xzW (a:LA) (b:Int) (s:Nat×Int×LA×LA):Enc (encR (xfS a b) (xeC a b)) (xbo a b s) (xzh (xfS a b s).1 (xfS a b s).2):=by
 obtain ⟨e,f,c,d⟩:=s
 refine eV (xeq a b e f c d none (fun s=>some (encR (xfS a b) (xeC a b) (.inl s))) (fun p=>some (encR (xfS a b) (xeC a b) (.inr p)))) (by kernel_rfl) ?_;unfold xbo xeq;repeat' first|exact eN|exact eS rfl|apply eB
def xqP:Lp:=lpOf [3,4,11,12,13] [4] [(4,2,133280301139)] (pCons (pOwn 0 0 0 0) (pCons (pOsl 1 0 0) (pCons (pList 3 pAny) (pCons (pInt .i64) (pCons (pInt .i64) pNil))))) (pCons (pBox 0 2 1208925819615080213381120 false true pAny) (pCons (pBox 0 2 133280301139 false true pAny) pNil)) fun (_,(c,(d,(e,(f,_))))) (a,(b,_))=>((Iter (xbo d e) (c,f,a,b)).isSome,xeC d e ((Iter (xbo d e) (c,f,a,b)).getD (0,[])))
theorem xwG:LoopOk Tryz.prog (ITryz.at xg9.pin) xg9.nt (loopAt Tryz.f67 0) xqP:=xaY fun h i k j=>by
 obtain ⟨_,⟨e,⟨b,⟨c,⟨f,_⟩⟩⟩⟩⟩:=h
 obtain ⟨a,⟨d,_⟩⟩:=i
 obtain ⟨g,rfl⟩:=Prod.mk.inj j
 exact xaG mxTryz (inv0Ok Tryz.prog _) rfl xyg xtB (xfS b c) (xeC b c) (fun p=>by simp only [xeC,LR.eval];first|(simp;done)|(repeat' split<;>simp)) (xzW b c) (s:=(e,f,a,d)) (xab g)
def xi1:Env:=xG0.fn 60 0 (lsOf []) (lpsOf [(4,xqP)])
theorem xyn:OrcOk Tryz.prog (ITryz.at 0) xi1:=xCH.fn
theorem xvN:LoOk Tryz.prog (ITryz.at xi1.pin) xi1 (Tryz.f67.body.getD .skip):=xaP (ls:=[loopAt Tryz.f67 0]) (by kernel_rfl) (lkC xwG lkN)
def xoZ (l:LA):=Iter (xbo l (↑l.length:Int)) (0,0,[],[])
def xoX (l:LA):=(xoZ l).getD (0,[])
def xlp (l:LA):=(xoX l).fst
def xoJ (l:LA):=(xoX l).snd
def xoH (l:LA):=xcY (xlp l) (xoJ l)
def xoT (l:LA):=(xoH l).getD []
def xmb {T:Type} (l:LA) (δ:T) (κ:LA→T):T:=br ((xoZ l).isSome) (br (rowsAll 2 1 (xoJ l)) (br ((xoH l).isSome) (br (decide (0+xlp l≤(xoT l).length)&&true) (κ (List.take (xlp l) (List.drop 0 (xoT l)))) δ) δ) δ) δ
def xfA (l:LA):Option (LA):=xmb l none some
theorem xDr (l:LA):Enc (fun (p:LA)=>((AV.list 2 p):AV)) (xfA l) (XF Tryz.prog xi1 Tryz.f67 (Tryz.f67.body.getD .skip) [AV.list 3 l]):=by
 refine eV (xmb l none (fun (p:LA)=>some ((AV.list 2 p):AV))) (by kernel_rfl) ?_;unfold xfA xmb;repeat' first|exact eN|exact eS rfl|apply eB
def xtL:LA→Option (Bool×AV):=ocOf (sCons (sList 3 pAny) sNil) fun (l,_)=>((xfA l).isSome,(AV.list 2 ((xfA l).getD [])))
theorem xCU:OcOk Tryz.prog ITryz 67 (xtL):=xaN fun c f e=>by
 obtain ⟨l,_⟩:=c
 obtain ⟨a,b⟩:=Prod.mk.inj e
 refine xaH (p:=xi1.pin) (xaL mxTryz (inv0Ok Tryz.prog _) rfl xyn Tryz.func67 rfl (by kernel_rfl) xvN ((xDr _ _ (xab (d:=[]) a)).trans ?_))
 exact congrArg some b
def xOu:Env:=xG0.with 67 xtL
theorem xNz:OrcOk Tryz.prog ITryz xOu:=xCH.with xCU
abbrev EKG:Env:=xOu
theorem xP7:OrcOk Tryz.prog ITryz EKG:=xNz
end Go.Sim.M
end
