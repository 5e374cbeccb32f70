/- Part 11 of the proof: Clone, Pat, E0, PatN, K1, K2, K3, KG. -/
import Derived.Test.YtefloaolddjnhaaGreatDoorQN10
import Derived.Deep.LoopGhost
import Derived.Lib.SliceRun
set_option linter.unusedVariables false
set_option linter.unusedSimpArgs false
set_option linter.unnecessarySimpa false
set_option linter.unusedSectionVars false
noncomputable section
namespace Go.Proofs
open Go.RowKit Go.Lib Go.Shelf
set_option maxHeartbeats 2000000 in
set_option maxRecDepth 100000 in
theorem Tryz.clone_nil (n c:Nat) (w:World) :
  Calls Tryz.prog 111 #[.slice none n c] w fun e w'=>e=.returned (.slice none 0 0)∧w'=w:=by
 have q22:∀ (w:World) (a:Option Addr) (n c n' c':Nat),(binOp .eql 40 (.slice a n c) (.slice none n' c')).run Tryz.prog w=.ok (.bool a.isNone) w:=fun w a n c n' c'=>Lib.run_eql_slice_nil w 40 73 a n c n' c' (by kernel_rfl)
 go_enter Tryz.func111,Tryz.ntmps111
 go_wp2
 go_ret
 exact ⟨rfl,rfl⟩
set_option maxHeartbeats 2000000 in
set_option maxRecDepth 100000 in
theorem Tryz.clone_some (i0:TypeInfo) (z:Value) (hi:Tryz.prog.info? 73=some i0) (hz0:i0.zero=some z) (hz1:i0.size=3) (hz2:i0.bytes=32) (hzs:z.cells.size=3)
  (a:Addr) (n c:Nat) (news:List Value) (w:World) (hl:news.length=n*3) (hn:n≤maxLen) (hbig:n*32≤140737488355328)
  (hc:∀ j u,news[j]?=some u→w.cell? (a.add j)=some u) (h1:∀ u∈news,u.oneCell'=true) :
  Calls Tryz.prog 111 #[.slice (some a) n c] w fun e w'=>∃ v',e=.returned v'∧w'.ownsRow w.heap.size 73 3 v' n news∧Below w.heap.size w w':=by
 have t22:Tryz.prog.underlying 40=some (.slice 73):=by kernel_rfl
 have q22:∀ (w:World) (a:Option Addr) (n c n' c':Nat),(binOp .eql 40 (.slice a n c) (.slice none n' c')).run Tryz.prog w=.ok (.bool a.isNone) w:=fun w a n c n' c'=>Lib.run_eql_slice_nil w 40 73 a n c n' c' t22
 have u22:∀ w,Sem.run Tryz.prog (underlying 40) w=.ok (TypeDesc.slice 73) w:=run_underlying t22
 have A:Aside (∀ j u,news[j]?=some u→w.cell? (a.add j)=some u):=hc
 clear hc
 go_enter Tryz.func111,Tryz.ntmps111
 go_wp2_with (at_builtin;refine wpList_append_own _ rfl _ _ 40 rfl w.heap.size 73 i0 z 3 32 t22 hi hz0 hz1 hz2 hzs (by decide) _ _ _ rfl (World.ownsRow_made w #[] 0 (Nat.le_refl _) (Nat.zero_le _) (by simp)) a n c news rfl ?qc1 ?qc2 ?qc3 ?qc4 ?qc5 ?qc6 ?_)
 case qc1=>exact hl
 case qc2 =>
  intro j u hj
  exact Lib.cell?_alloc_some _ (A.out j u hj)
 case qc3=>exact h1
 case qc4=>rw [Nat.zero_add];exact hn
 case qc5=>rw [Nat.zero_add];exact hbig
 case qc6=>simp
 intro v' w1 hown hgrow hnil
 go_wp2
 go_ret
 refine ⟨v',rfl,by simpa using hown,?_⟩
 exact ((Below.refl _ w).alloc (Nat.le_refl _) _).grown hgrow (by simp) (by intro k hk;simp [Value.ownBlock] at hk;omega)
end Go.Proofs
namespace Go.Sim
open Go.RowKit Go.Proofs
def xsn:List AV→Option (Bool×AV)
 | [.list 3 xs]=>some (decide (xs.length≤4398046511104),.list 3 xs)
 | _=>none
theorem xA2 {w w':World} {A:Nat→Prop} {e:TypeId} {sz:Nat} {v:Value} {xs:List AV} {news:List Value} (hl:∀ b,A b→b<w.heap.size) (hown:w'.ownsRow w.heap.size e sz v xs.length news) (hok:∀ x,x∈xs→x.okElem sz=true)
  (hr:∀ i j,i<xs.length→j<sz→Rel w' A noBox (news.getD (i*sz+j) undef) ((xs.getD i .top).cells.getD j .top)):Rel w' A noBox v (.list sz xs):=by
 obtain ⟨hlen,h⟩:=hown
 rcases h with ⟨rfl,h0⟩|⟨g,cap,cur,rfl,hg,hh,hle,hcm,hcs,htk⟩
 · have:xs=[]:=List.eq_nil_of_length_eq_zero h0
   subst this
   exact .list0 _ _ _
 · by_cases hne:xs=[]
   · subst hne;exact .list0 _ _ _
   · have hgl:g<w'.heap.size:=by
      rcases Nat.lt_or_ge g w'.heap.size with h|h
      · exact h
      · rw [Array.getElem?_eq_none h] at hh;simp at hh
     have hcell:∀ i j,i<xs.length→j<sz→w'.cell? ⟨g,0+i*sz+j,none⟩=some (news.getD (i*sz+j) undef):=fun i j hi hj=>by
      have hk:i*sz+j<xs.length*sz:=xgh hi hj
      have hk2:i*sz+j<cur.size:=by
       rw [hcs];exact Nat.lt_of_lt_of_le hk (Nat.mul_le_mul_right _ hle)
      have e1:news.getD (i*sz+j) undef=cur[i*sz+j]:=by
       rw [←htk];simp [List.getD_eq_getElem?_getD,List.getElem?_take,hk,hk2]
      rw [e1,Nat.zero_add]
      simp [World.cell?,hh,hk2]
     exact .list g 0 cap sz xs (fun i j=>news.getD (i*sz+j) undef) (fun hA=>by have:=hl g hA;omega) hgl hne hle hok hcell hr
theorem xFR:OcOk Tryz.prog ITryz 111 xsn:=fun xs r h=>by
 unfold xsn at h;split at h
 · rename_i xs
   simp only [Option.some.injEq,Prod.mk.injEq,decide_eq_true_eq] at h;obtain ⟨hle,rfl⟩:=h
   refine ⟨xfO Tryz.func111 rfl (by kernel_rfl),fun w A vs hI hA hrc=>?_⟩
   obtain ⟨v,rfl,h1⟩:=rc1 hrc
   have hti:∃ ti,tinfo Tryz.prog 73=some ti∧ti.sz=3∧ti.bytes=32∧ti.zero.okElem 3=true:=by
    have h:(match tinfo Tryz.prog 73 with|some ti=>(ti.sz==3)&&((ti.bytes==32)&&ti.zero.okElem 3)|none=>false)=true:=by kernel_rfl
    split at h
    · rename_i ti hti
      simp only [Bool.and_eq_true,beq_iff_eq] at h
      exact ⟨ti,hti,h.1,h.2.1,h.2.2⟩
    · simp at h
   obtain ⟨ti,hti,s1,s2,s3⟩:=hti
   obtain ⟨i,z,g1,g2,g3,g4,g5,g6,_⟩:=xdy hti
   have hzs:z.cells.size=3:=by
    have hrz:Rel w A noBox z ti.zero:=by rw [g6];exact xgo w A noBox z
    rw [(hrz.cells (xcm s3)).1,xbH s3]
   have hnil:∀ n c,v=.slice none n c→xs=[]→Calls Tryz.prog 111 [v].toArray w fun e w'=>∃ v,e=.returned v∧Below w.heap.size w w'∧Rel w' A noBox v (.list 3 xs):=by
    rintro n c rfl rfl
    refine (Tryz.clone_nil n c w).mono ?_
    rintro e w' ⟨rfl,rfl⟩
    exact ⟨_,rfl,Below.refl _ _,.list0 _ _ _⟩
   have hsome:∀ b off c (val:Nat→Nat→Value),v=.slice (some ⟨b,off,none⟩) xs.length c→(∀ x,x∈xs→x.okElem 3=true)→(∀ i j,i<xs.length→j<3→w.cell? ⟨b,off+i*3+j,none⟩=some (val i j))→(∀ i j,i<xs.length→j<3→Rel w A noBox (val i j) ((xs.getD i .top).cells.getD j .top)) →
     Calls Tryz.prog 111 [v].toArray w fun e w'=>∃ v,e=.returned v∧Below w.heap.size w w'∧Rel w' A noBox v (.list 3 xs):=by
    rintro b off c val rfl hok hc hr
    have hs:∀ i j,i<xs.length→j<3→∃ u,w.cell? ⟨b,off+(i*3+j),none⟩=some u∧Rel w A noBox u ((xs.getD i .top).cells.getD j .top):=fun i j hi hj=>⟨val i j,by rw [←Nat.add_assoc];exact hc i j hi hj,hr i j hi hj⟩
    refine (Tryz.clone_some i z g1 g3 (by rw [←g4,s1]) (by rw [←g5,s2]) hzs ⟨b,off,none⟩ xs.length c (srcCells w b off (xs.length*3)) w (xj3 _ _ _ _) (by unfold maxLen;omega) (by omega)
     (fun j u hj=>xys (by decide) hs j u hj) (xJx (by decide) hs hok)).mono ?_
    rintro e w' ⟨v',rfl,hown,hbel⟩
    exact ⟨v',rfl,hbel,xA2 hA hown hok fun i j hi hj=>(xJ0 hs hi hj).grow hbel⟩
   have h1':=h1
   generalize hx:AV.list 3 xs=x at h1
   cases h1 with
   | list0 a cap sz =>
    simp only [AV.list.injEq] at hx
    obtain ⟨rfl,rfl⟩:=hx
    cases a with
    | none=>exact hnil 0 cap rfl rfl
    | some a =>
     refine (Tryz.clone_some i z g1 g3 (by rw [←g4,s1]) (by rw [←g5,s2]) hzs a 0 cap [] w rfl (Nat.zero_le _) (by omega) (by simp) (by simp)).mono ?_
     rintro e w' ⟨v',rfl,hown,hbel⟩
     exact ⟨v',rfl,hbel,xA2 hA (xs:=[]) hown (by simp) (by simp)⟩
   | list b off cap sz ys val ha hb hne hcap hsz hc hr =>
    simp only [AV.list.injEq] at hx
    obtain ⟨rfl,rfl⟩:=hx
    exact hsome b off cap val rfl hsz hc hr
   | _=>simp at hx
 · simp at h
end Go.Sim
end
noncomputable section
namespace Go.Sim
open Go.RowKit
variable {α β γ : Type}
structure Pat (α β:Type) where
 enc:β→α
 dec:α→Option β
 ok:∀ a b,dec a=some b→a=enc b
def pAny:Pat α α:=⟨fun b=>b,some,fun a b h=>by simpa using h⟩
def pInt (k:IntKind):Pat AV Int:=⟨.int k,fun v=>match v with
 | .int k' n=>match decide (k'=k) with
  | true=>some n
  | false=>none
 | _=>none,fun v n h=>by
 split at h
 · split at h
   · rename_i hk;simp only [Option.some.injEq] at h;rw [of_decide_eq_true hk,h]
   · simp at h
 · simp at h⟩
def pStr:Pat AV (List UInt8):=⟨.str,fun v=>match v with
 | .str s=>some s
 | _=>none,fun v n h=>by
 split at h
 · simp only [Option.some.injEq] at h;rw [h]
 · simp at h⟩
def pBool:Pat AV Bool:=⟨.bool,fun v=>match v with
 | .bool s=>some s
 | _=>none,fun v n h=>by
 split at h
 · simp only [Option.some.injEq] at h;rw [h]
 · simp at h⟩
def pList (sz:Nat) (q:Pat (List AV) β):Pat AV β:=⟨fun b=>.list sz (q.enc b),fun v=>match v with
 | .list z xs=>match Nat.beq z sz with
  | true=>q.dec xs
  | false=>none
 | _=>none,fun v n h=>by
 split at h
 · split at h
   · rename_i hz;rw [Nat.eq_of_beq_eq_true hz,q.ok _ _ h]
   · simp at h
 · simp at h⟩
def pOsl (id ver off:Nat):Pat AV Nat:=⟨.osl id ver off,fun v=>match v with
 | .osl (.b i) e o n=>match Nat.beq i id&&(Nat.beq e ver&&Nat.beq o off) with
  | true=>some n
  | false=>none
 | _=>none,fun v n h=>by
 split at h
 · split at h
   · rename_i hz
     simp only [Bool.and_eq_true] at hz
     simp only [Option.some.injEq] at h
     rw [Nat.eq_of_beq_eq_true hz.1,Nat.eq_of_beq_eq_true hz.2.1,Nat.eq_of_beq_eq_true hz.2.2,h]
   · simp at h
 · simp at h⟩
def pOslV (id off:Nat):Pat AV (Nat×Nat):=⟨fun p=>.osl id p.1 off p.2,fun v=>match v with
 | .osl (.b i) e o n=>match Nat.beq i id&&Nat.beq o off with
  | true=>some (e,n)
  | false=>none
 | _=>none,fun v n h=>by
 split at h
 · split at h
   · rename_i hz
     simp only [Bool.and_eq_true] at hz
     simp only [Option.some.injEq] at h
     rw [Nat.eq_of_beq_eq_true hz.1,Nat.eq_of_beq_eq_true hz.2,←h]
   · simp at h
 · simp at h⟩
def pOwnV (id j:Nat):Pat AV (Nat×Nat):=⟨fun p=>.own id p.1 p.2 j,fun v=>match v with
 | .own (.b a) b c d=>match Nat.beq a id&&Nat.beq d j with
  | true=>some (b,c)
  | false=>none
 | _=>none,fun v n h=>by
 split at h
 · split at h
   · rename_i hz
     simp only [Bool.and_eq_true] at hz
     simp only [Option.some.injEq] at h
     rw [Nat.eq_of_beq_eq_true hz.1,Nat.eq_of_beq_eq_true hz.2,←h]
   · simp at h
 · simp at h⟩
def pOwn (id ver i j:Nat):Pat AV Unit:=⟨fun _=>.own id ver i j,fun v=>match v with
 | .own (.b a) b c d=>match Nat.beq a id&&(Nat.beq b ver&&(Nat.beq c i&&Nat.beq d j)) with
  | true=>some ()
  | false=>none
 | _=>none,fun v n h=>by
 split at h
 · split at h
   · rename_i hz
     simp only [Bool.and_eq_true] at hz
     rw [Nat.eq_of_beq_eq_true hz.1,Nat.eq_of_beq_eq_true hz.2.1,Nat.eq_of_beq_eq_true hz.2.2.1,Nat.eq_of_beq_eq_true hz.2.2.2]
   · simp at h
 · simp at h⟩
def pAgg (q:Pat (List AV) β):Pat AV β:=⟨fun b=>.agg (q.enc b),fun v=>match v with
 | .agg cs=>q.dec cs
 | _=>none,fun v n h=>by
 split at h
 · rw [q.ok _ _ h]
 · simp at h⟩
def pFunc (f:Nat) (q:Pat (List AV) β):Pat AV β:=⟨fun b=>.func f (q.enc b),fun v=>match v with
 | .func g cs=>match Nat.beq g f with
  | true=>q.dec cs
  | false=>none
 | _=>none,fun v n h=>by
 split at h
 · split at h
   · rename_i hz;rw [Nat.eq_of_beq_eq_true hz,q.ok _ _ h]
   · simp at h
 · simp at h⟩
def pNils:Pat AV Unit:=⟨fun _=>.nils,fun v=>match v with
 | .nils=>some ()
 | _=>none,fun v n h=>by
 split at h
 · rfl
 · simp at h⟩
def pNilptr:Pat AV Unit:=⟨fun _=>.nilptr,fun v=>match v with
 | .nilptr=>some ()
 | _=>none,fun v n h=>by
 split at h
 · rfl
 · simp at h⟩
def pNil:Pat (List α) Unit:=⟨fun _=>[],fun v=>match v with
 | []=>some ()
 | _=>none,fun v n h=>by
 split at h
 · rfl
 · simp at h⟩
def pCons (p:Pat α β) (q:Pat (List α) γ):Pat (List α) (β×γ):=⟨fun b=>p.enc b.1::q.enc b.2,fun v=>match v with
 | x::t=>match p.dec x with
  | some b=>match q.dec t with
   | some c=>some (b,c)
   | none=>none
  | none=>none
 | _=>none,fun v n h=>by
 split at h
 · split at h
   · rename_i hp
     split at h
     · rename_i hq
       simp only [Option.some.injEq] at h
       subst h
       rw [p.ok _ _ hp,q.ok _ _ hq]
     · simp at h
   · simp at h
 · simp at h⟩
def pBox (ver sz ty:Nat) (frz pm:Bool) (q:Pat (List AV) β):Pat Box β:=⟨fun b=>⟨ver,sz,ty,q.enc b,frz,pm⟩,fun v=>match v with
 | ⟨a,b,c,xs,f,p⟩=>match Nat.beq a ver&&(Nat.beq b sz&&(Nat.beq c ty&&((f==frz)&&(p==pm)))) with
  | true=>q.dec xs
  | false=>none,fun v n h=>by
 obtain ⟨a,b,c,xs,f,p⟩:=v
 dsimp only at h;split at h
 · rename_i hz
   simp only [Bool.and_eq_true,beq_iff_eq] at hz
   rw [Nat.eq_of_beq_eq_true hz.1,Nat.eq_of_beq_eq_true hz.2.1,Nat.eq_of_beq_eq_true hz.2.2.1,hz.2.2.2.1,hz.2.2.2.2,q.ok _ _ h]
 · simp at h⟩
def pBoxV (sz ty:Nat) (frz pm:Bool) (q:Pat (List AV) β):Pat Box (Nat×β):=⟨fun b=>⟨b.1,sz,ty,q.enc b.2,frz,pm⟩,fun v=>match v with
 | ⟨a,b,c,xs,f,p⟩=>match Nat.beq b sz&&(Nat.beq c ty&&((f==frz)&&(p==pm))) with
  | true=>match q.dec xs with
   | some y=>some (a,y)
   | none=>none
  | false=>none,fun v n h=>by
 obtain ⟨a,b,c,xs,f,p⟩:=v
 dsimp only at h;split at h
 · rename_i hz
   simp only [Bool.and_eq_true,beq_iff_eq] at hz
   split at h
   · rename_i y hy
     simp only [Option.some.injEq] at h
     rw [Nat.eq_of_beq_eq_true hz.1,Nat.eq_of_beq_eq_true hz.2.1,hz.2.2.1,hz.2.2.2,←h,q.ok _ _ hy]
   · simp at h
 · simp at h⟩
def Sub (a b:AV):Prop:=∀ (w:World) (A:Nat→Prop) (M:Id→Option MB) (v:Value),Rel w A M v a→Rel w A M v b
def SubL (aS bs:List AV):Prop:=aS.length=bs.length∧∀ i,i<aS.length→Sub (aS.getD i .top) (bs.getD i .top)
theorem Sub.refl (a:AV):Sub a a:=fun _ _ _ _ h=>h
theorem Sub.of_eq {a b:AV} (h:a=b):Sub a b:=h▸Sub.refl a
theorem xOr (sz:Nat):Sub .nils (.list sz []):=fun w A M v h=>by
 cases h;exact .list0 _ _ _
theorem xPu {aS bs:List AV} (h:SubL aS bs):Sub (.agg aS) (.agg bs):=fun w A M v hr=>by
 obtain ⟨vs,rfl,h1,h2⟩:=hr.agg_inv
 exact .agg vs bs (h1.trans h.1) fun i hi=>h.2 i (h.1.symm▸hi) w A M _ (h2 i (h.1.symm▸hi))
theorem xMu {w:World} {A:Nat→Prop} {M:Id→Option MB} {vs:List Value} {aS bs:List AV} (h:SubL aS bs) (hr:RC w A M vs aS):RC w A M vs bs :=
 ⟨hr.1.trans h.1,fun i hi=>h.2 i (h.1.symm▸hi) w A M _ (hr.2 i (h.1.symm▸hi))⟩
structure SPat (β:Type) where
 enc:β→AV
 dec:AV→Option β
 ok:∀ a b,dec a=some b→Sub a (enc b)
structure SPatL (β:Type) where
 enc:β→List AV
 dec:List AV→Option β
 ok:∀ a b,dec a=some b→SubL a (enc b)
def sEq (p:Pat AV β):SPat β:=⟨p.enc,p.dec,fun a b h=>Sub.of_eq (p.ok a b h)⟩
def sList (sz:Nat) (q:Pat (List AV) β):SPat β:=⟨fun b=>.list sz (q.enc b),fun v=>match v with
 | .nils=>q.dec []
 | .list z xs=>match Nat.beq z sz with
  | true=>q.dec xs
  | false=>none
 | _=>none,fun v n h=>by
 split at h
 · rw [←q.ok _ _ h];exact xOr sz
 · split at h
   · rename_i hz;rw [Nat.eq_of_beq_eq_true hz,q.ok _ _ h];exact Sub.refl _
   · simp at h
 · simp at h⟩
def sAgg (q:SPatL β):SPat β:=⟨fun b=>.agg (q.enc b),fun v=>match v with
 | .agg cs=>q.dec cs
 | _=>none,fun v n h=>by
 split at h
 · exact xPu (q.ok _ _ h)
 · simp at h⟩
def sNil:SPatL Unit:=⟨fun _=>[],fun v=>match v with
 | []=>some ()
 | _=>none,fun v n h=>by
 split at h
 · exact ⟨rfl,fun i hi=>by simp at hi⟩
 · simp at h⟩
def sCons (p:SPat β) (q:SPatL γ):SPatL (β×γ):=⟨fun b=>p.enc b.1::q.enc b.2,fun v=>match v with
 | x::t=>match p.dec x with
  | some b=>match q.dec t with
   | some c=>some (b,c)
   | none=>none
  | none=>none
 | _=>none,fun v n h=>by
 split at h
 · split at h
   · rename_i hp
     split at h
     · rename_i hq
       simp only [Option.some.injEq] at h
       subst h
       obtain ⟨h1,h2⟩:=q.ok _ _ hq
       refine ⟨by simp [h1],fun i hi=>?_⟩
       cases i with
       | zero=>exact p.ok _ _ hp
       | succ i=>exact h2 i (by simpa using hi)
     · simp at h
   · simp at h
 · simp at h⟩
def ocOf (pv:SPatL β) (g:β→Bool×AV):List AV→Option (Bool×AV):=fun xs=>match pv.dec xs with
 | some b=>some (g b)
 | none=>none
def omOf (pv:SPatL β) (pb:Pat (List Box) γ) (g:β→γ→Bool×AV×List Box):List AV→List Box→Option (Bool×AV×List Box):=fun xs H=>match pv.dec xs with
 | some b=>match pb.dec H with
  | some c=>some (g b c)
  | none=>none
 | none=>none
def lpOf (live liveO:List Nat) (conv:List (Nat×Nat×TypeId)) (pv:Pat (List AV) β) (pb:Pat (List Box) γ) (g:β→γ→Bool×LR):Lp:=⟨live,liveO,conv,fun xs H=>match pv.dec xs with
 | some b=>match pb.dec H with
  | some c=>some (g b c)
  | none=>none
 | none=>none⟩
section
variable {P : Program} {Inv : IV}
theorem xbg {n:FuncId} {pv:SPatL β} {g:β→Bool×AV} (h:∀ b r,g b=(true,r)→Good P Inv n (pv.enc b) r):OcOk P Inv n (ocOf pv g):=fun xs r e=>by
 unfold ocOf at e;split at e
 · rename_i b hb
   simp only [Option.some.injEq] at e
   obtain ⟨h1,h2⟩:=h b r e
   exact ⟨h1,fun w A vs hi ha hr=>h2 w A vs hi ha (xMu (pv.ok _ _ hb) hr)⟩
 · simp at e
theorem xeQ {n:FuncId} {pv:SPatL β} {pb:Pat (List Box) γ} {g:β→γ→Bool×AV×List Box} (h:∀ b c r H',g b c=(true,r,H')→GoodM P Inv n (pv.enc b) (pb.enc c) r H'):OmOk P Inv n (omOf pv pb g):=fun xs H r H' e=>by
 unfold omOf at e;split at e
 · rename_i b hb
   split at e
   · rename_i c hc
     simp only [Option.some.injEq] at e
     rw [pb.ok _ _ hc]
     obtain ⟨h1,h2⟩:=h b c r H' e
     exact ⟨h1,fun w0 w A M vs hi hb' hR hr=>h2 w0 w A M vs hi hb' hR (xMu (pv.ok _ _ hb) hr)⟩
   · simp at e
 · simp at e
theorem xbm {nt:Nat} {l:Code} {live liveO:List Nat} {conv:List (Nat×Nat×TypeId)} {pv:Pat (List AV) β} {pb:Pat (List Box) γ} {g:β→γ→Bool×LR}
  (h:∀ b c r,g b c=(true,r)→DoesL P Inv l (fun e1 s1=>e1=r.eval.1∧s1=⟨mkTs nt (liveO.zip r.eval.2.1),r.eval.2.2⟩) ⟨mkTs nt (live.zip (pv.enc b)),pb.enc c⟩):LoopOk P Inv nt l (lpOf live liveO conv pv pb g):=fun vals H r e=>by
 unfold lpOf at e;dsimp only at e;split at e
 · rename_i b hb
   split at e
   · rename_i c hc
     simp only [Option.some.injEq] at e
     rw [pv.ok _ _ hb,pb.ok _ _ hc]
     exact h b c r e
   · simp at e
 · simp at e
end
theorem xac {x:Option α} {d:α} (h:x.isSome=true):x=some (x.getD d):=by
 cases x with
 | none=>simp at h
 | some y=>rfl
end Go.Sim
end
noncomputable section
namespace Go.Sim.M
open Go.RowKit Go.Proofs
def E0:Env:=((((Env.none.with 138 xo2).with 116 xsE).with 111 xsn).withM 139 xwo).withM 118 xpY
theorem xK8:OrcOk Tryz.prog ITryz E0:=((((xKk.with xBy).with xFd).with xFR).withM xI4).withM xCS
end Go.Sim.M
end
noncomputable section
namespace Go.Sim
open Go.RowKit
def EncS {α:Type} (f:α→AV) (a:Option α) (b:Option AV):Prop:=∀ r,a=some r→∃ x,b=some x∧Sub x (f r)
theorem EncS.none {α:Type} {f:α→AV} {b:Option AV}:EncS f .none b:=fun r h=>by simp at h
theorem EncS.some {α:Type} {f:α→AV} {a:α} {b:AV} (h:Sub b (f a)):EncS f (Option.some a) (Option.some b):=fun r e=>by simp only [Option.some.injEq] at e;subst e;exact ⟨b,rfl,h⟩
theorem EncS.br {α:Type} {f:α→AV} {t:Bool} {a a':Option α} {b b':Option AV} (h1:EncS f a b) (h2:EncS f a' b'):EncS f (Sim.br t a a') (Sim.br t b b'):=by cases t<;>assumption
theorem Good.sub {P:Program} {Inv:IV} {f:FuncId} {args:List AV} {r r':AV} (h:Good P Inv f args r) (hs:Sub r r'):Good P Inv f args r' :=
 ⟨h.1,fun w A vs hI hA hrc=>(h.2 w A vs hI hA hrc).mono fun e w' ⟨v,he,hb,hr⟩=>⟨v,he,hb,hs w' A noBox v hr⟩⟩
theorem GoodM.bump1 {P:Program} {Inv:IV} {f:FuncId} {args:List AV} {H:List Box} {v v' k sz:Nat} {ty:TypeId} {xs:List AV} {frz pm:Bool} (hpl:isC ty=false) (hv:v<v')
  (h:GoodM P Inv f args H (.osl (.b 0) v 0 k) [⟨v,sz,ty,xs,frz,pm⟩]):GoodM P Inv f args H (.osl (.b 0) v' 0 k) [⟨v',sz,ty,xs,frz,pm⟩]:=by
 refine ⟨h.1,fun w0 w A M vs hI hB hR hrc=>(h.2 w0 w A M vs hI hB hR hrc).mono ?_⟩
 rintro e w' ⟨u,A',M',rfl,h1,h2,h3,h4,h5⟩
 obtain ⟨m,g1,g2,g3,g4⟩:=Rel.osl_inv h5
 obtain ⟨bx,q1,q2⟩:=h4.box _ m g1
 have:bx=⟨v,sz,ty,xs,frz,pm⟩:=by
  have:=q1
  rw [xg2] at this
  simpa using this.symm
 subst this
 have hver:v=m.ver:=q2.ver
 have hext:MExt M' (MSet M' (.b 0) ⟨m.b,v',m.sz,m.cap,m.ty⟩):=xuz g1 (.inr (by simp only;omega))
 have hsame:∀ id m1,MSet M' (.b 0) ⟨m.b,v',m.sz,m.cap,m.ty⟩ id=some m1→∃ m0,M' id=some m0∧m1.b=m0.b∧m1.cap=m0.cap:=fun id m1 hm1=>by
  by_cases hi:id=.b 0
  · subst hi;simp [MSet] at hm1;subst hm1;exact ⟨m,g1,rfl,rfl⟩
  · exact ⟨m1,by simpa [MSet,hi] using hm1,rfl,rfl⟩
 have hR':HR w' A' (MSet M' (.b 0) ⟨m.b,v',m.sz,m.cap,m.ty⟩) w0.heap.size [⟨v',sz,ty,xs,frz,pm⟩]:=by
  refine ⟨fun id m1 hm1=>?_,fun id id' m1 m2 k1 k2 c1 c2 he=>?_,h4.lt⟩
  · by_cases hi:id=.b 0
    · subst hi
      have:m1=⟨m.b,v',m.sz,m.cap,m.ty⟩:=by simp [MSet] at hm1;exact hm1.symm
      subst this
      have q3:=q2.mono (w':=w') (fun _=>rfl) (fun _ _ _=>rfl) (Nat.le_refl _) (fun _ _ h=>h) q2.guard hext
      exact ⟨⟨v',sz,ty,xs,frz,pm⟩,rfl,rfl,q3.sz,q3.ty,q3.capm,q3.fits,q3.ok,q3.low,q3.lt,q3.cells,q3.guard⟩
    · have hm2:M' id=some m1:=by simpa [MSet,hi] using hm1
      obtain ⟨bx,k1,k2⟩:=h4.box id m1 hm2
      have k3:getB [⟨v',sz,ty,xs,frz,pm⟩] id=some bx:=by
       rw [←k1]
       exact xim (H:=[⟨v,sz,ty,xs,frz,pm⟩]) (n:=0) (bx:=⟨v,sz,ty,xs,frz,pm⟩) (bx':=⟨v',sz,ty,xs,frz,pm⟩) rfl hpl hpl hi
      exact ⟨bx,k3,k2.mono (fun _=>rfl) (fun _ _ _=>rfl) (Nat.le_refl _) (fun _ _ h=>h) k2.guard hext⟩
  · obtain ⟨n1,a1,a2,a3⟩:=hsame id m1 k1
    obtain ⟨n2,b1,b2,b3⟩:=hsame id' m2 k2
    exact h4.inj id id' n1 n2 a1 b1 (by omega) (by omega) (by rw [←a2,←b2,he])
 refine ⟨u,A',MSet M' (.b 0) ⟨m.b,v',m.sz,m.cap,m.ty⟩,rfl,h1,h2,h3.step ⟨Nat.le_refl _,fun _ _ _=>rfl,fun _ _ h=>h,fun _ _ h _=>h,hext,⟨fun _ _ _=>rfl,fun id m1 hm1 h0=>?_⟩⟩,hR',?_⟩
 · obtain ⟨n1,a1,a2,a3⟩:=hsame id m1 hm1
   exact .inl ⟨id,n1,a1,by omega,a2⟩
 · exact .osl u (.b 0) v' 0 k ⟨m.b,v',m.sz,m.cap,m.ty⟩ (by simp [MSet]) (Nat.le_refl _) g3 fun _=>g4 hver
end Go.Sim
end
noncomputable section
set_option maxRecDepth 100000
namespace Go.Sim.M
open Go.IntKind (i64 u64 u8)
open Go.RowKit Go.Proofs
def xdL:Env:=E0.fn 19 1 (lsOf []) (lpsOf [])
theorem xn6:OrcOk Tryz.prog (ITryz.at 1) xdL:=xK8.fn
theorem xm3:LoOk Tryz.prog (ITryz.at xdL.pin) xdL (Tryz.f115.body.getD .skip):=xaD (by kernel_rfl)
def xfb {T:Type} (a:List UInt8) (δ:T) (κ:Int×Nat×LA→T):T:=br (decide ((byteAVs a).length*1≤140737488355328)&&decide ((byteAVs a).length≤4611686018427387904)) (κ ((↑a.length:Int),(byteAVs a).length,byteAVs a)) δ
def xbf (a:List UInt8):Option (Int×Nat×LA):=xfb a none some
theorem xqs (a:List UInt8):Enc (fun (p:Int×Nat×LA)=>(((AV.tuple [AV.int .i64 p.1,.top],([⟨0,2,137,[AV.agg [AV.own 0 0 0 0,AV.osl 1 0 0 p.2.1]],false,false⟩,⟨0,1,5,p.2.2,false,true⟩]:List Box))):(AV×List Box))) (xbf a) (XFM Tryz.prog xdL Tryz.f115 (Tryz.f115.body.getD .skip) [AV.own (0:Id) 0 0 0,AV.str a] [{ ver:=0,sz:=2,ty:=(137:TypeId),xs:=[AV.agg [AV.nilptr,AV.nils]],frz:=false,pm:=true }]):=by
 refine eV (xfb a none (fun (p:Int×Nat×LA)=>some (((AV.tuple [AV.int .i64 p.1,.top],([⟨0,2,137,[AV.agg [AV.own 0 0 0 0,AV.osl 1 0 0 p.2.1]],false,false⟩,⟨0,1,5,p.2.2,false,true⟩]:List Box))):(AV×List Box)))) (by kernel_rfl) ?_;unfold xbf xfb;repeat' first|exact eN|exact eS rfl|apply eB
def xkl:LA→List Box→Option (Bool×AV×List Box):=omOf (sCons (sEq (pOwn 0 0 0 0)) (sCons (sEq pStr) sNil)) (pCons (pBox 0 2 (137:TypeId) false true (pCons (pAgg (pCons pNilptr (pCons pNils pNil))) pNil)) pNil) fun (_,(a,_)) (((_,(_,_)),_),_)=>((xbf a).isSome,((AV.tuple [AV.int .i64 ((xbf a).getD (0,0,[])).1,.top],([⟨0,2,137,[AV.agg [AV.own 0 0 0 0,AV.osl 1 0 0 ((xbf a).getD (0,0,[])).2.1]],false,false⟩,⟨0,1,5,((xbf a).getD (0,0,[])).2.2,false,true⟩]:List Box))))
theorem xql:OmOk Tryz.prog ITryz 115 (xkl):=xeQ fun c e h g f=>by
 obtain ⟨_,⟨i,_⟩⟩:=c
 obtain ⟨⟨⟨_,⟨_,_⟩⟩,_⟩,_⟩:=e
 obtain ⟨a,b⟩:=Prod.mk.inj f
 refine xdE (p:=xdL.pin) (xd4 mxTryz (inv0Ok Tryz.prog _) rfl xn6 rfl Tryz.func115 rfl (by kernel_rfl) xm3 ((xqs _ _ (xac (d:=(0,0,[])) a)).trans ?_))
 exact congrArg some b
def xKs:Env:=E0.withM 115 xkl
theorem xIy:OrcOk Tryz.prog ITryz xKs:=xK8.withM xql
def xdz:Env:=xKs.fn 19 2 (lsOf []) (lpsOf [])
theorem xny:OrcOk Tryz.prog (ITryz.at 2) xdz:=xIy.fn
theorem xmK:LoOk Tryz.prog (ITryz.at xdz.pin) xdz (Tryz.f115.body.getD .skip):=xaD (by kernel_rfl)
def xeY {T:Type} (a:List UInt8) (n:Nat) (b:LA) (δ:T) (κ:Int×Nat×LA→T):T:=br (n==b.length&&(decide ((n+(byteAVs a).length)*1≤140737488355328)&&decide (n+(byteAVs a).length≤4611686018427387904))) (κ ((↑a.length:Int),n+(byteAVs a).length,b++byteAVs a)) δ
def xba (a:List UInt8) (n:Nat) (b:LA):Option (Int×Nat×LA):=xeY a n b none some
theorem xp1 (a:List UInt8) (n:Nat) (xs:LA):Enc (fun (p:Int×Nat×LA)=>(((AV.tuple [AV.int .i64 p.1,.top],([⟨0,2,137,[AV.agg [AV.own 0 0 0 0,AV.osl 1 1 0 p.2.1]],false,false⟩,⟨1,1,5,p.2.2,false,true⟩]:List Box))):(AV×List Box))) (xba a n xs) (XFM Tryz.prog xdz Tryz.f115 (Tryz.f115.body.getD .skip) [AV.own (0:Id) 0 0 0,AV.str a] [{ ver:=0,sz:=2,ty:=(137:TypeId),xs:=[AV.agg [AV.own (0:Id) 0 0 0,AV.osl (1:Id) 0 0 n]],frz:=false,pm:=false },{ ver:=0,sz:=1,ty:=(5:TypeId),xs:=xs,frz:=false,pm:=true }]):=by
 refine eV (xeY a n xs none (fun (p:Int×Nat×LA)=>some (((AV.tuple [AV.int .i64 p.1,.top],([⟨0,2,137,[AV.agg [AV.own 0 0 0 0,AV.osl 1 1 0 p.2.1]],false,false⟩,⟨1,1,5,p.2.2,false,true⟩]:List Box))):(AV×List Box)))) (by kernel_rfl) ?_;unfold xba xeY;repeat' first|exact eN|exact eS rfl|apply eB
def xj5:LA→List Box→Option (Bool×AV×List Box):=omOf (sCons (sEq (pOwn 0 0 0 0)) (sCons (sEq pStr) sNil)) (pCons (pBox 0 2 (137:TypeId) false false (pCons (pAgg (pCons (pOwn 0 0 0 0) (pCons (pOsl 1 0 0) pNil))) pNil)) (pCons (pBox 0 1 (5:TypeId) false true pAny) pNil)) fun (_,(a,_)) (((_,(n,_)),_),(b,_))=>((xba a n b).isSome,((AV.tuple [AV.int .i64 ((xba a n b).getD (0,0,[])).1,.top],([⟨0,2,137,[AV.agg [AV.own 0 0 0 0,AV.osl 1 1 0 ((xba a n b).getD (0,0,[])).2.1]],false,false⟩,⟨1,1,5,((xba a n b).getD (0,0,[])).2.2,false,true⟩]:List Box))))
theorem xpx:OmOk Tryz.prog ITryz 115 (xj5):=xeQ fun c e h g f=>by
 obtain ⟨_,⟨i,_⟩⟩:=c
 obtain ⟨⟨⟨_,⟨n,_⟩⟩,_⟩,⟨j,_⟩⟩:=e
 obtain ⟨a,b⟩:=Prod.mk.inj f
 refine xdE (p:=xdz.pin) (xd4 mxTryz (inv0Ok Tryz.prog _) rfl xny rfl Tryz.func115 rfl (by kernel_rfl) xmK ((xp1 _ _ _ _ (xac (d:=(0,0,[])) a)).trans ?_))
 exact congrArg some b
def xKu:Env:=xKs.withM 115 xj5
theorem xHx:OrcOk Tryz.prog ITryz xKu:=xIy.withM xpx
def xdD:Env:=xKu.fn 19 2 (lsOf []) (lpsOf [])
theorem xnI:OrcOk Tryz.prog (ITryz.at 2) xdD:=xHx.fn
theorem xmN:LoOk Tryz.prog (ITryz.at xdD.pin) xdD (Tryz.f115.body.getD .skip):=xaD (by kernel_rfl)
def xgS {T:Type} (a:List UInt8) (n:Nat) (b:LA) (δ:T) (κ:Int×Nat×LA→T):T:=br (n==b.length&&(decide ((n+(byteAVs a).length)*1≤140737488355328)&&decide (n+(byteAVs a).length≤4611686018427387904))) (κ ((↑a.length:Int),n+(byteAVs a).length,b++byteAVs a)) δ
def xcx (a:List UInt8) (n:Nat) (b:LA):Option (Int×Nat×LA):=xgS a n b none some
theorem xpU (a:List UInt8) (n:Nat) (xs:LA):Enc (fun (p:Int×Nat×LA)=>(((AV.tuple [AV.int .i64 p.1,.top],([⟨0,2,137,[AV.agg [AV.own 0 0 0 0,AV.osl 1 2 0 p.2.1]],false,false⟩,⟨2,1,5,p.2.2,false,true⟩]:List Box))):(AV×List Box))) (xcx a n xs) (XFM Tryz.prog xdD Tryz.f115 (Tryz.f115.body.getD .skip) [AV.own (0:Id) 0 0 0,AV.str a] [{ ver:=0,sz:=2,ty:=(137:TypeId),xs:=[AV.agg [AV.own (0:Id) 0 0 0,AV.osl (1:Id) 1 0 n]],frz:=false,pm:=false },{ ver:=1,sz:=1,ty:=(5:TypeId),xs:=xs,frz:=false,pm:=true }]):=by
 refine eV (xgS a n xs none (fun (p:Int×Nat×LA)=>some (((AV.tuple [AV.int .i64 p.1,.top],([⟨0,2,137,[AV.agg [AV.own 0 0 0 0,AV.osl 1 2 0 p.2.1]],false,false⟩,⟨2,1,5,p.2.2,false,true⟩]:List Box))):(AV×List Box)))) (by kernel_rfl) ?_;unfold xcx xgS;repeat' first|exact eN|exact eS rfl|apply eB
def xj2:LA→List Box→Option (Bool×AV×List Box):=omOf (sCons (sEq (pOwn 0 0 0 0)) (sCons (sEq pStr) sNil)) (pCons (pBox 0 2 (137:TypeId) false false (pCons (pAgg (pCons (pOwn 0 0 0 0) (pCons (pOsl 1 1 0) pNil))) pNil)) (pCons (pBox 1 1 (5:TypeId) false true pAny) pNil)) fun (_,(a,_)) (((_,(n,_)),_),(b,_))=>((xcx a n b).isSome,((AV.tuple [AV.int .i64 ((xcx a n b).getD (0,0,[])).1,.top],([⟨0,2,137,[AV.agg [AV.own 0 0 0 0,AV.osl 1 2 0 ((xcx a n b).getD (0,0,[])).2.1]],false,false⟩,⟨2,1,5,((xcx a n b).getD (0,0,[])).2.2,false,true⟩]:List Box))))
theorem xpX:OmOk Tryz.prog ITryz 115 (xj2):=xeQ fun c e h g f=>by
 obtain ⟨_,⟨i,_⟩⟩:=c
 obtain ⟨⟨⟨_,⟨n,_⟩⟩,_⟩,⟨j,_⟩⟩:=e
 obtain ⟨a,b⟩:=Prod.mk.inj f
 refine xdE (p:=xdD.pin) (xd4 mxTryz (inv0Ok Tryz.prog _) rfl xnI rfl Tryz.func115 rfl (by kernel_rfl) xmN ((xpU _ _ _ _ (xac (d:=(0,0,[])) a)).trans ?_))
 exact congrArg some b
def xLk:Env:=xKu.withM 115 xj2
theorem xIm:OrcOk Tryz.prog ITryz xLk:=xHx.withM xpX
def xc7:Env:=xLk.fn 17 1 (lsOf []) (lpsOf [])
theorem xpe:OrcOk Tryz.prog (ITryz.at 1) xc7:=xIm.fn
theorem xnU:LoOk Tryz.prog (ITryz.at xc7.pin) xc7 (Tryz.f117.body.getD .skip):=xaD (by kernel_rfl)
def xiC (c:Int):Int:=((c))
def xkc (c:Int):Bool:=true
def xlz {T:Type} (c:Int) (δ:T) (κ:Int→T):T:=κ (c)
theorem xrO (c:Int):Pre (xkc c) (XFM Tryz.prog xc7 Tryz.f117 (Tryz.f117.body.getD .skip) [AV.own (0:Id) 0 0 0,AV.int .u8 c] [{ ver:=0,sz:=2,ty:=(137:TypeId),xs:=[AV.agg [AV.nilptr,AV.nils]],frz:=false,pm:=true }]) ((.top,([⟨0,2,137,[AV.agg [AV.own 0 0 0 0,AV.osl 1 0 0 1]],false,false⟩,⟨0,1,5,[AV.int .u8 (xiC c)],false,true⟩]:List Box))):=by
 have h:XFM Tryz.prog xc7 Tryz.f117 (Tryz.f117.body.getD .skip) [AV.own (0:Id) 0 0 0,AV.int .u8 c] [{ ver:=0,sz:=2,ty:=(137:TypeId),xs:=[AV.agg [AV.nilptr,AV.nils]],frz:=false,pm:=true }]=xlz c none (fun (p:Int)=>some (((.top,([⟨0,2,137,[AV.agg [AV.own 0 0 0 0,AV.osl 1 0 0 1]],false,false⟩,⟨0,1,5,[AV.int .u8 p],false,true⟩]:List Box))):(AV×List Box))):=by kernel_rfl
 rw [h];unfold xiC xkc xlz;repeat' (first|exact Pre.none|exact Pre.tt rfl|exact Pre.some rfl|refine Pre.l ?_|refine Pre.r ?_|refine Pre.br (f:=fun (p:Int)=>(((.top,([⟨0,2,137,[AV.agg [AV.own 0 0 0 0,AV.osl 1 0 0 1]],false,false⟩,⟨0,1,5,[AV.int .u8 p],false,true⟩]:List Box))):(AV×List Box))) ?_ ?_|refine Pre.brt (f:=fun (p:Int)=>(((.top,([⟨0,2,137,[AV.agg [AV.own 0 0 0 0,AV.osl 1 0 0 1]],false,false⟩,⟨0,1,5,[AV.int .u8 p],false,true⟩]:List Box))):(AV×List Box))) ?_ ?_)
def xlC:LA→List Box→Option (Bool×AV×List Box):=omOf (sCons (sEq (pOwn 0 0 0 0)) (sCons (sEq (pInt .u8)) sNil)) (pCons (pBox 0 2 (137:TypeId) false true (pCons (pAgg (pCons pNilptr (pCons pNils pNil))) pNil)) pNil) fun (_,(c,_)) (((_,(_,_)),_),_)=>(true,((.top,([⟨0,2,137,[AV.agg [AV.own 0 0 0 0,AV.osl 1 0 0 1]],false,false⟩,⟨0,1,5,[AV.int .u8 (xiC c)],false,true⟩]:List Box))))
theorem xr3:OmOk Tryz.prog ITryz 117 (xlC):=xeQ fun b d h f e=>by
 obtain ⟨_,⟨c,_⟩⟩:=b
 obtain ⟨⟨⟨_,⟨_,_⟩⟩,_⟩,_⟩:=d
 obtain ⟨g,a⟩:=Prod.mk.inj e
 refine xdE (p:=xc7.pin) (xd4 mxTryz (inv0Ok Tryz.prog _) rfl xpe rfl Tryz.func117 rfl (by kernel_rfl) xnU ((Pre.get (xrO _) rfl).trans ?_))
 exact congrArg some a
def xKj:Env:=xLk.withM 117 xlC
theorem xH4:OrcOk Tryz.prog ITryz xKj:=xIm.withM xr3
def xec:Env:=xKj.fn 17 2 (lsOf []) (lpsOf [])
theorem xo8:OrcOk Tryz.prog (ITryz.at 2) xec:=xH4.fn
theorem xng:LoOk Tryz.prog (ITryz.at xec.pin) xec (Tryz.f117.body.getD .skip):=xaD (by kernel_rfl)
def xhl {T:Type} (c:Int) (n:Nat) (a:LA) (δ:T) (κ:Nat×LA→T):T:=br (n==a.length&&(decide ((n+1)*1≤140737488355328)&&decide (n+1≤4611686018427387904))) (κ (n+1,a++[AV.int .u8 c])) δ
def xcz (c:Int) (n:Nat) (a:LA):Option (Nat×LA):=xhl c n a none some
theorem xrv (c:Int) (n:Nat) (xs:LA):Enc (fun (p:Nat×LA)=>(((.top,([⟨0,2,137,[AV.agg [AV.own 0 0 0 0,AV.osl 1 1 0 p.1]],false,false⟩,⟨1,1,5,p.2,false,true⟩]:List Box))):(AV×List Box))) (xcz c n xs) (XFM Tryz.prog xec Tryz.f117 (Tryz.f117.body.getD .skip) [AV.own (0:Id) 0 0 0,AV.int .u8 c] [{ ver:=0,sz:=2,ty:=(137:TypeId),xs:=[AV.agg [AV.own (0:Id) 0 0 0,AV.osl (1:Id) 0 0 n]],frz:=false,pm:=false },{ ver:=0,sz:=1,ty:=(5:TypeId),xs:=xs,frz:=false,pm:=true }]):=by
 refine eV (xhl c n xs none (fun (p:Nat×LA)=>some (((.top,([⟨0,2,137,[AV.agg [AV.own 0 0 0 0,AV.osl 1 1 0 p.1]],false,false⟩,⟨1,1,5,p.2,false,true⟩]:List Box))):(AV×List Box)))) (by kernel_rfl) ?_;unfold xcz xhl;repeat' first|exact eN|exact eS rfl|apply eB
def xkK:LA→List Box→Option (Bool×AV×List Box):=omOf (sCons (sEq (pOwn 0 0 0 0)) (sCons (sEq (pInt .u8)) sNil)) (pCons (pBox 0 2 (137:TypeId) false false (pCons (pAgg (pCons (pOwn 0 0 0 0) (pCons (pOsl 1 0 0) pNil))) pNil)) (pCons (pBox 0 1 (5:TypeId) false true pAny) pNil)) fun (_,(c,_)) (((_,(n,_)),_),(a,_))=>((xcz c n a).isSome,((.top,([⟨0,2,137,[AV.agg [AV.own 0 0 0 0,AV.osl 1 1 0 ((xcz c n a).getD (0,[])).1]],false,false⟩,⟨1,1,5,((xcz c n a).getD (0,[])).2,false,true⟩]:List Box))))
theorem xrA:OmOk Tryz.prog ITryz 117 (xkK):=xeQ fun e f i h g=>by
 obtain ⟨_,⟨c,_⟩⟩:=e
 obtain ⟨⟨⟨_,⟨n,_⟩⟩,_⟩,⟨j,_⟩⟩:=f
 obtain ⟨a,b⟩:=Prod.mk.inj g
 refine xdE (p:=xec.pin) (xd4 mxTryz (inv0Ok Tryz.prog _) rfl xo8 rfl Tryz.func117 rfl (by kernel_rfl) xng ((xrv _ _ _ _ (xac (d:=(0,[])) a)).trans ?_))
 exact congrArg some b
def xKY:Env:=xKj.withM 117 xkK
theorem xHD:OrcOk Tryz.prog ITryz xKY:=xH4.withM xrA
def xee:Env:=xKY.fn 17 2 (lsOf []) (lpsOf [])
theorem xo0:OrcOk Tryz.prog (ITryz.at 2) xee:=xHD.fn
theorem xnh:LoOk Tryz.prog (ITryz.at xee.pin) xee (Tryz.f117.body.getD .skip):=xaD (by kernel_rfl)
def xfj {T:Type} (c:Int) (n:Nat) (a:LA) (δ:T) (κ:Nat×LA→T):T:=br (n==a.length&&(decide ((n+1)*1≤140737488355328)&&decide (n+1≤4611686018427387904))) (κ (n+1,a++[AV.int .u8 c])) δ
def xbx (c:Int) (n:Nat) (a:LA):Option (Nat×LA):=xfj c n a none some
theorem xq6 (c:Int) (n:Nat) (xs:LA):Enc (fun (p:Nat×LA)=>(((.top,([⟨0,2,137,[AV.agg [AV.own 0 0 0 0,AV.osl 1 2 0 p.1]],false,false⟩,⟨2,1,5,p.2,false,true⟩]:List Box))):(AV×List Box))) (xbx c n xs) (XFM Tryz.prog xee Tryz.f117 (Tryz.f117.body.getD .skip) [AV.own (0:Id) 0 0 0,AV.int .u8 c] [{ ver:=0,sz:=2,ty:=(137:TypeId),xs:=[AV.agg [AV.own (0:Id) 0 0 0,AV.osl (1:Id) 1 0 n]],frz:=false,pm:=false },{ ver:=1,sz:=1,ty:=(5:TypeId),xs:=xs,frz:=false,pm:=true }]):=by
 refine eV (xfj c n xs none (fun (p:Nat×LA)=>some (((.top,([⟨0,2,137,[AV.agg [AV.own 0 0 0 0,AV.osl 1 2 0 p.1]],false,false⟩,⟨2,1,5,p.2,false,true⟩]:List Box))):(AV×List Box)))) (by kernel_rfl) ?_;unfold xbx xfj;repeat' first|exact eN|exact eS rfl|apply eB
def xkF:LA→List Box→Option (Bool×AV×List Box):=omOf (sCons (sEq (pOwn 0 0 0 0)) (sCons (sEq (pInt .u8)) sNil)) (pCons (pBox 0 2 (137:TypeId) false false (pCons (pAgg (pCons (pOwn 0 0 0 0) (pCons (pOsl 1 1 0) pNil))) pNil)) (pCons (pBox 1 1 (5:TypeId) false true pAny) pNil)) fun (_,(c,_)) (((_,(n,_)),_),(a,_))=>((xbx c n a).isSome,((.top,([⟨0,2,137,[AV.agg [AV.own 0 0 0 0,AV.osl 1 2 0 ((xbx c n a).getD (0,[])).1]],false,false⟩,⟨2,1,5,((xbx c n a).getD (0,[])).2,false,true⟩]:List Box))))
theorem xq9:OmOk Tryz.prog ITryz 117 (xkF):=xeQ fun e f i h g=>by
 obtain ⟨_,⟨c,_⟩⟩:=e
 obtain ⟨⟨⟨_,⟨n,_⟩⟩,_⟩,⟨j,_⟩⟩:=f
 obtain ⟨a,b⟩:=Prod.mk.inj g
 refine xdE (p:=xee.pin) (xd4 mxTryz (inv0Ok Tryz.prog _) rfl xo0 rfl Tryz.func117 rfl (by kernel_rfl) xnh ((xq6 _ _ _ _ (xac (d:=(0,[])) a)).trans ?_))
 exact congrArg some b
def xOJ:Env:=xKY.withM 117 xkF
theorem xNH:OrcOk Tryz.prog ITryz xOJ:=xHD.withM xq9
abbrev EK1:Env:=xOJ
theorem xL0:OrcOk Tryz.prog ITryz EK1:=xNH
end Go.Sim.M
end
noncomputable section
set_option maxRecDepth 100000
namespace Go.Sim.M
open Go.IntKind (i64 u64 u8)
open Go.RowKit Go.Proofs
def xi9:Env:=EK1.fn 18 0 (lsOf []) (lpsOf [])
theorem xA5:OrcOk Tryz.prog (ITryz.at 0) xi9:=xL0.fn
theorem xyY:LoOk Tryz.prog (ITryz.at xi9.pin) xi9 (Tryz.f52.body.getD .skip):=xaD (by kernel_rfl)
def xdP (a b:Int):Bool:=(br (decide (a≥0)) (br (decide (a<b)) ((decide (b≤1099511627776))) ((false))) ((false)))
def xut (a b:Int):Bool:=true
def xwO {T:Type} (a b:Int) (δ:T) (κ:Bool→T):T:=br (decide (a≥0)) (br (decide (a<b)) (κ (decide (b≤1099511627776))) (κ (false))) (κ (false))
theorem xFF (a b:Int):Pre (xut a b) (XF Tryz.prog xi9 Tryz.f52 (Tryz.f52.body.getD .skip) [AV.agg [AV.int .i64 a,AV.int .i64 b]]) (AV.bool (xdP a b)):=by
 have h:XF Tryz.prog xi9 Tryz.f52 (Tryz.f52.body.getD .skip) [AV.agg [AV.int .i64 a,AV.int .i64 b]]=xwO a b none (fun (p:Bool)=>some ((AV.bool p):AV)):=by kernel_rfl
 rw [h];unfold xdP xut xwO;repeat' (first|exact Pre.none|exact Pre.tt rfl|exact Pre.some rfl|refine Pre.l ?_|refine Pre.r ?_|refine Pre.br (f:=fun (p:Bool)=>((AV.bool p):AV)) ?_ ?_|refine Pre.brt (f:=fun (p:Bool)=>((AV.bool p):AV)) ?_ ?_)
def xwS:LA→Option (Bool×AV):=ocOf (sCons (sAgg (sCons (sEq (pInt .i64)) (sCons (sEq (pInt .i64)) sNil))) sNil) fun ((a,(b,_)),_)=>(true,(AV.bool (xdP a b)))
theorem xE9:OcOk Tryz.prog ITryz 52 (xwS):=xbg fun b g c=>by
 obtain ⟨⟨d,⟨e,_⟩⟩,_⟩:=b
 obtain ⟨f,a⟩:=Prod.mk.inj c
 refine xa7 (p:=xi9.pin) (xbd mxTryz (inv0Ok Tryz.prog _) rfl xA5 Tryz.func52 rfl (by kernel_rfl) xyY ((Pre.get (xFF _ _) rfl).trans ?_))
 exact congrArg some a
def xEe:Env:=EK1.with 52 xwS
theorem xy0:OrcOk Tryz.prog ITryz xEe:=xL0.with xE9
def xi0:Env:=xEe.fn 37 0 (lsOf []) (lpsOf [])
theorem xAT:OrcOk Tryz.prog (ITryz.at 0) xi0:=xy0.fn
theorem xwJ:LoOk Tryz.prog (ITryz.at xi0.pin) xi0 (loopAt Tryz.f91 1):=xaD (by kernel_rfl)
def xiE (b:Int) (a:LA):=((a.getD (0+b.toNat) .top).cells.getD 0 .top).toInt
def xn0 (d:Int) (c:Nat) (b a:LA):=((xba (Lib.itoa (xiE d b)) c a).getD (0,0,[])).snd
def xnz (d:Int) (c:Nat) (b a:LA):=xbx 32 (xn0 d c b a).fst (xn0 d c b a).snd
def xnX (d:Int) (c:Nat) (b a:LA):=(xnz d c b a).getD (0,[])
def xjm {T:Type} (k:LA) (l j:Int) (e:Nat) (i c:Int) (d:Nat) (f g:Int) (h:List UInt8) (a b:LA) (δ:T) (κl:(Int×Nat×Int×Int×List UInt8×LA×LA)→T) (κr:(Nat×Int×Int×List UInt8×LA)→T):T:=br (decide (c<i)) (br (decide (0≤c)&&decide (c<(↑e:Int))) (br (decide (0+c.toNat<a.length)&&hasSh1 (Sh.int .i64) ((a.getD (0+c.toNat) .top).cells.getD 0 .top)) (br (decide ((-9223372036854775808)≤xiE c a)&&decide (xiE c a≤9223372036854775807)) (br ((xba (Lib.itoa (xiE c a)) d b).isSome) (br ((xnz c d a b).isSome) (κl (i64.wrap (c+1),(xnX c d a b).fst,f,g,h,a,(xnX c d a b).snd)) δ) δ) δ) δ) δ) (κr (d,f,g,h,b))
def xbT (k:LA) (l e:Int) (c:Nat) (f:Int):(Int×Nat×Int×Int×List UInt8×LA×LA)→Option ((Int×Nat×Int×Int×List UInt8×LA×LA)⊕(Nat×Int×Int×List UInt8×LA)):=fun (g,d,h,i,j,b,a)=>xjm k l e c f g d h i j b a none (fun s=>some (.inl s)) (fun p=>some (.inr p))
def xhF (k:LA) (l e:Int) (c:Nat) (f:Int):(Int×Nat×Int×Int×List UInt8×LA×LA)→LA×List Box:=fun (g,d,h,i,j,b,a)=>([AV.own 0 0 0 0,AV.own 1 0 0 0,AV.list 3 k,AV.int .i64 l,AV.int .i64 e,AV.osl 2 0 0 c,AV.int .i64 f,AV.int .i64 g],[⟨0,2,137,[AV.agg [AV.own 0 0 0 0,AV.osl 3 0 0 d]],false,false⟩,⟨0,3,73,[AV.agg [AV.int .i64 h,AV.int .i64 i,AV.str j]],false,true⟩,⟨0,1,3,b,false,true⟩,⟨0,1,5,a,false,true⟩])
def xgF (c:LA) (d a:Int) (b:Nat) (e:Int):(Nat×Int×Int×List UInt8×LA)→LR:=fun p=>(.leaf (.exit 2) [AV.own 0 0 0 0,AV.own 1 0 0 0,AV.list 3 c,AV.int .i64 d,AV.int .i64 a] [⟨0,2,137,[AV.agg [AV.own 0 0 0 0,AV.osl 2 0 0 p.1]],false,false⟩,⟨0,3,73,[AV.agg [AV.int .i64 p.2.1,AV.int .i64 p.2.2.1,AV.str p.2.2.2.1]],false,true⟩,⟨0,1,5,p.2.2.2.2,false,true⟩])
abbrev xBw (a:LA) (H:List Box):=XR Tryz.prog xi0 [3,5,8,9,10,21,22,23] [3,5,8,9,10] [] (loopAt Tryz.f91 1) a H
theorem xBz (d:LA) (e b:Int) (a:Nat) (c:Int) (s:Int×Nat×Int×Int×List UInt8×LA×LA):Enc (encR (xhF d e b a c) (xgF d e b a c)) (xbT d e b a c s) (xBw (xhF d e b a c s).1 (xhF d e b a c s).2):=by
 obtain ⟨i,h,j,k,l,g,f⟩:=s
 refine eV (xjm d e b a c i h j k l g f none (fun s=>some (encR (xhF d e b a c) (xgF d e b a c) (.inl s))) (fun p=>some (encR (xhF d e b a c) (xgF d e b a c) (.inr p)))) (by kernel_rfl) ?_;unfold xbT xjm;repeat' first|exact eN|exact eS rfl|apply eB
def xnu:Lp:=lpOf [3,5,8,9,10,21,22,23] [3,5,8,9,10] [] (pCons (pOwn 0 0 0 0) (pCons (pOwn 1 0 0 0) (pCons (pList 3 pAny) (pCons (pInt .i64) (pCons (pInt .i64) (pCons (pOsl 2 0 0) (pCons (pInt .i64) (pCons (pInt .i64) pNil)))))))) (pCons (pBox 0 2 137 false false (pCons (pAgg (pCons (pOwn 0 0 0 0) (pCons (pOsl 3 0 0) pNil))) pNil)) (pCons (pBox 0 3 73 false true (pCons (pAgg (pCons (pInt .i64) (pCons (pInt .i64) (pCons pStr pNil)))) pNil)) (pCons (pBox 0 1 3 false true pAny) (pCons (pBox 0 1 5 false true pAny) pNil)))) fun (_,(_,(k,(l,(d,(b,(e,(g,_)))))))) (((_,(f,_)),_),(((h,(i,(j,_))),_),(c,(a,_))))=>((Iter (xbT k l d b e) (g,f,h,i,j,c,a)).isSome,xgF k l d b e ((Iter (xbT k l d b e) (g,f,h,i,j,c,a)).getD (0,0,0,[],[])))
theorem xsc:LoopOk Tryz.prog (ITryz.at xi0.pin) xi0.nt (loopAt Tryz.f91 1) xnu:=xbm fun n o r q=>by
 obtain ⟨_,⟨_,⟨f,⟨g,⟨c,⟨a,⟨d,⟨i,_⟩⟩⟩⟩⟩⟩⟩⟩:=n
 obtain ⟨⟨⟨_,⟨h,_⟩⟩,_⟩,⟨⟨⟨j,⟨k,⟨l,_⟩⟩⟩,_⟩,⟨e,⟨b,_⟩⟩⟩⟩:=o
 obtain ⟨m,rfl⟩:=Prod.mk.inj q
 exact xa6 mxTryz (inv0Ok Tryz.prog _) rfl xAT xwJ (xhF f g c a d) (xgF f g c a d) (fun p=>by simp only [xgF,LR.eval];first|(simp;done)|(repeat' split<;>simp)) (xBz f g c a d) (s:=(i,h,j,k,l,e,b)) (xac m)
def xiU:Env:=xEe.fn 37 0 (lsOf []) (lpsOf [(6,xnu)])
theorem xAk:OrcOk Tryz.prog (ITryz.at 0) xiU:=xy0.fn
theorem xvZ:LoOk Tryz.prog (ITryz.at xiU.pin) xiU (loopAt Tryz.f91 0):=xbe (ls:=[loopAt Tryz.f91 1]) (by kernel_rfl) (lkC xsc lkN)
def xnC (b:LA) (e a:Int) (d:Nat) (c:LA):=Iter (xbT b e a 3 3) (0,d,((b.getD a.toNat .top).cells.getD 0 .top).toInt,((b.getD a.toNat .top).cells.getD 1 .top).toInt,((b.getD a.toNat .top).cells.getD 2 .top).toStr,[AV.int .i64 ((b.getD a.toNat .top).cells.getD 0 .top).toInt,AV.int .i64 ((b.getD a.toNat .top).cells.getD 1 .top).toInt,AV.int .i64 (↑((b.getD a.toNat .top).cells.getD 2 .top).toStr.length:Int)],c)
def xnt (d:LA) (e c:Int) (b:Nat) (a:LA):=(xnC d e c b a).getD (0,0,0,[],[])
def xn2 (d:LA) (e c:Int) (b:Nat) (a:LA):=(xnt d e c b a).snd.snd.snd
def xnG (d:LA) (e c:Int) (b:Nat) (a:LA):=xba (xn2 d e c b a).fst (xnt d e c b a).fst (xn2 d e c b a).snd
def xnw (d:LA) (e c:Int) (b:Nat) (a:LA):=((xnG d e c b a).getD (0,0,[])).snd
def xjg {T:Type} (d:LA) (e b:Int) (c:Nat) (a:LA) (δ:T) (κl:(Int×Nat×LA)→T) (κr:(Nat×LA)→T):T:=br (decide (b<e)) (br (decide (0≤b)&&decide (b<d.length)) (br (decide (b.toNat<d.length)&&((d.getD b.toNat .top).cells.length==3&&hasShs [Sh.int .i64,Sh.int .i64,Sh.str] (d.getD b.toNat .top).cells 0)) (br ((xnC d e b c a).isSome) (br ((xnG d e b c a).isSome) (κl (i64.wrap (b+1),(xnw d e b c a).fst,(xnw d e b c a).snd)) δ) δ) δ) δ) (κr (c,a))
def xdu (d:LA) (e:Int):(Int×Nat×LA)→Option ((Int×Nat×LA)⊕(Nat×LA)):=fun (c,b,a)=>xjg d e c b a none (fun s=>some (.inl s)) (fun p=>some (.inr p))
def xhD (d:LA) (e:Int):(Int×Nat×LA)→LA×List Box:=fun (c,b,a)=>([AV.own 0 0 0 0,AV.list 3 d,AV.int .i64 e,AV.int .i64 c],[⟨0,2,137,[AV.agg [AV.own 0 0 0 0,AV.osl 1 0 0 b]],false,false⟩,⟨0,1,5,a,false,true⟩])
def xgN (a:LA) (b:Int):(Nat×LA)→LR:=fun p=>(.leaf (.exit 0) [AV.own 0 0 0 0] [⟨0,2,137,[AV.agg [AV.own 0 0 0 0,AV.osl 1 0 0 p.1]],false,false⟩,⟨0,1,5,p.2,false,true⟩])
abbrev xB0 (a:LA) (H:List Box):=XR Tryz.prog xiU [3,8,9,10] [3] [] (loopAt Tryz.f91 0) a H
theorem xBH (a:LA) (b:Int) (s:Int×Nat×LA):Enc (encR (xhD a b) (xgN a b)) (xdu a b s) (xB0 (xhD a b s).1 (xhD a b s).2):=by
 obtain ⟨e,d,c⟩:=s
 refine eV (xjg a b e d c none (fun s=>some (encR (xhD a b) (xgN a b) (.inl s))) (fun p=>some (encR (xhD a b) (xgN a b) (.inr p)))) (by kernel_rfl) ?_;unfold xdu xjg;repeat' first|exact eN|exact eS rfl|apply eB
def xs0:Lp:=lpOf [3,8,9,10] [3] [] (pCons (pOwn 0 0 0 0) (pCons (pList 3 pAny) (pCons (pInt .i64) (pCons (pInt .i64) pNil)))) (pCons (pBox 0 2 137 false false (pCons (pAgg (pCons (pOwn 0 0 0 0) (pCons (pOsl 1 0 0) pNil))) pNil)) (pCons (pBox 0 1 5 false true pAny) pNil)) fun (_,(d,(e,(c,_)))) (((_,(b,_)),_),(a,_))=>((Iter (xdu d e) (c,b,a)).isSome,xgN d e ((Iter (xdu d e) (c,b,a)).getD (0,[])))
theorem xzU:LoopOk Tryz.prog (ITryz.at xiU.pin) xiU.nt (loopAt Tryz.f91 0) xs0:=xbm fun g h j i=>by
 obtain ⟨_,⟨b,⟨c,⟨e,_⟩⟩⟩⟩:=g
 obtain ⟨⟨⟨_,⟨d,_⟩⟩,_⟩,⟨a,_⟩⟩:=h
 obtain ⟨f,rfl⟩:=Prod.mk.inj i
 exact xa6 mxTryz (inv0Ok Tryz.prog _) rfl xAk xvZ (xhD b c) (xgN b c) (fun p=>by simp only [xgN,LR.eval];first|(simp;done)|(repeat' split<;>simp)) (xBH b c) (s:=(e,d,a)) (xac f)
def xlc:Env:=xEe.fn 37 0 (lsOf []) (lpsOf [(6,xnu),(3,xs0)])
theorem xAL:OrcOk Tryz.prog (ITryz.at 0) xlc:=xy0.fn
theorem xyR:LoOk Tryz.prog (ITryz.at xlc.pin) xlc (Tryz.f91.body.getD .skip):=xbe (ls:=[loopAt Tryz.f91 0,loopAt Tryz.f91 1]) (by kernel_rfl) (lkC xzU (lkC xsc lkN))
def xfN (a:LA):=((a.getD 0 .top).cells.getD 0 .top).toInt
def xqX (a:LA):=xcz 32 ((xbf (Lib.itoa (xfN a))).getD (0,0,[])).snd.fst ((xbf (Lib.itoa (xfN a))).getD (0,0,[])).snd.snd
def xrl (a:LA):=(xqX a).getD (0,[])
def xqI (a:LA):=Iter (xbT a (↑a.length:Int) 0 3 3) (1,(xrl a).fst,xfN a,((a.getD 0 .top).cells.getD 1 .top).toInt,((a.getD 0 .top).cells.getD 2 .top).toStr,[AV.int .i64 (xfN a),AV.int .i64 ((a.getD 0 .top).cells.getD 1 .top).toInt,AV.int .i64 (↑((a.getD 0 .top).cells.getD 2 .top).toStr.length:Int)],(xrl a).snd)
def xrm (a:LA):=(xqI a).getD (0,0,0,[],[])
def xq4 (a:LA):=(xrm a).snd.snd.snd
def xq7 (a:LA):=xba (xq4 a).fst (xrm a).fst (xq4 a).snd
def xqR (a:LA):=((xq7 a).getD (0,0,[])).snd
def xrz (a:LA):=Iter (xdu a (↑a.length:Int)) (1,(xqR a).fst,(xqR a).snd)
def xry (a:LA):=(xrz a).getD (0,[])
def xk8 (a:LA):=(xry a).snd
def xot {T:Type} (a:LA) (δ:T) (κ:List UInt8→T):T:=br (decide (0<(↑a.length:Int))) (br (decide (0<(↑a.length:Int))) (br (decide (0<a.length)&&((a.getD 0 .top).cells.length==3&&hasShs [Sh.int .i64,Sh.int .i64,Sh.str] (a.getD 0 .top).cells 0)) (br (decide ((-9223372036854775808)≤xfN a)&&decide (xfN a≤9223372036854775807)) (br ((xbf (Lib.itoa (xfN a))).isSome) (br ((xqX a).isSome) (br ((xqI a).isSome) (br ((xq7 a).isSome) (br ((xrz a).isSome) (br (decide ((xry a).fst=(xk8 a).length)&&isBytes (xk8 a)&&decide ((xk8 a).length≠0)) (κ (strOf (xk8 a))) δ) δ) δ) δ) δ) δ) δ) δ) δ) (κ ([]))
def xhv (a:LA):Option (List UInt8):=xot a none some
theorem xFa (a:LA):Enc (fun (p:List UInt8)=>((AV.str p):AV)) (xhv a) (XF Tryz.prog xlc Tryz.f91 (Tryz.f91.body.getD .skip) [AV.list 3 a]):=by
 refine eV (xot a none (fun (p:List UInt8)=>some ((AV.str p):AV))) (by kernel_rfl) ?_;unfold xhv xot;repeat' first|exact eN|exact eS rfl|apply eB
def xw9:LA→Option (Bool×AV):=ocOf (sCons (sList 3 pAny) sNil) fun (a,_)=>((xhv a).isSome,(AV.str ((xhv a).getD [])))
theorem xFn:OcOk Tryz.prog ITryz 91 (xw9):=xbg fun c g e=>by
 obtain ⟨f,_⟩:=c
 obtain ⟨a,b⟩:=Prod.mk.inj e
 refine xa7 (p:=xlc.pin) (xbd mxTryz (inv0Ok Tryz.prog _) rfl xAL Tryz.func91 rfl (by kernel_rfl) xyR ((xFa _ _ (xac (d:=[]) a)).trans ?_))
 exact congrArg some b
def xOW:Env:=xEe.with 91 xw9
theorem xNI:OrcOk Tryz.prog ITryz xOW:=xy0.with xFn
abbrev EK2:Env:=xOW
theorem xNs:OrcOk Tryz.prog ITryz EK2:=xNI
end Go.Sim.M
end
noncomputable section
set_option maxRecDepth 100000
namespace Go.Sim.M
open Go.IntKind (i64 u64 u8)
open Go.RowKit Go.Proofs
def xmb:Env:=EK2.fn 6 0 (lsOf []) (lpsOf [])
theorem xEP:OrcOk Tryz.prog (ITryz.at 0) xmb:=xNs.fn
theorem xBG:LoOk Tryz.prog (ITryz.at xmb.pin) xmb (Tryz.f84.body.getD .skip):=xaD (by kernel_rfl)
def xjK (x:Int):Bool:=((x != x))
def xzi (x:Int):Bool:=true
def xB6 {T:Type} (x:Int) (δ:T) (κ:Bool→T):T:=κ (x != x)
theorem xJD (x:Int):Pre (xzi x) (XF Tryz.prog xmb Tryz.f84 (Tryz.f84.body.getD .skip) [AV.int .i64 x]) (AV.bool (xjK x)):=by
 have h:XF Tryz.prog xmb Tryz.f84 (Tryz.f84.body.getD .skip) [AV.int .i64 x]=xB6 x none (fun (p:Bool)=>some ((AV.bool p):AV)):=by kernel_rfl
 rw [h];unfold xjK xzi xB6;repeat' (first|exact Pre.none|exact Pre.tt rfl|exact Pre.some rfl|refine Pre.l ?_|refine Pre.r ?_|refine Pre.br (f:=fun (p:Bool)=>((AV.bool p):AV)) ?_ ?_|refine Pre.brt (f:=fun (p:Bool)=>((AV.bool p):AV)) ?_ ?_)
def xCc:LA→Option (Bool×AV):=ocOf (sCons (sEq (pInt .i64)) sNil) fun (x,_)=>(true,(AV.bool (xjK x)))
theorem xJr:OcOk Tryz.prog ITryz 84 (xCc):=xbg fun b e c=>by
 obtain ⟨x,_⟩:=b
 obtain ⟨d,a⟩:=Prod.mk.inj c
 refine xa7 (p:=xmb.pin) (xbd mxTryz (inv0Ok Tryz.prog _) rfl xEP Tryz.func84 rfl (by kernel_rfl) xBG ((Pre.get (xJD _) rfl).trans ?_))
 exact congrArg some a
def xKw:Env:=EK2.with 84 xCc
theorem xIl:OrcOk Tryz.prog ITryz xKw:=xNs.with xJr
def xjS:Env:=xKw.fn 20 0 (lsOf []) (lpsOf [])
theorem xBO:OrcOk Tryz.prog (ITryz.at 0) xjS:=xIl.fn
theorem xzS:LoOk Tryz.prog (ITryz.at xjS.pin) xjS (Tryz.f54.body.getD .skip):=xaD (by kernel_rfl)
def xiu (x y:Int):Int:=(br (xjK x) (br (xjK y) ((0)) (((-1)))) (br (xjK y) ((1)) (br (decide (x<y)) (((-1))) (br (decide (x>y)) ((1)) ((0))))))
def xvy (x y:Int):Bool:=true
def xzp {T:Type} (x y:Int) (δ:T) (κ:Int→T):T:=br (xjK x) (br (xjK y) (κ (0)) (κ ((-1)))) (br (xjK y) (κ (1)) (br (decide (x<y)) (κ ((-1))) (br (decide (x>y)) (κ (1)) (κ (0)))))
theorem xG2 (x y:Int):Pre (xvy x y) (XF Tryz.prog xjS Tryz.f54 (Tryz.f54.body.getD .skip) [AV.int .i64 x,AV.int .i64 y]) (AV.int .i64 (xiu x y)):=by
 have h:XF Tryz.prog xjS Tryz.f54 (Tryz.f54.body.getD .skip) [AV.int .i64 x,AV.int .i64 y]=xzp x y none (fun (p:Int)=>some ((AV.int .i64 p):AV)):=by kernel_rfl
 rw [h];unfold xiu xvy xzp;repeat' (first|exact Pre.none|exact Pre.tt rfl|exact Pre.some rfl|refine Pre.l ?_|refine Pre.r ?_|refine Pre.br (f:=fun (p:Int)=>((AV.int .i64 p):AV)) ?_ ?_|refine Pre.brt (f:=fun (p:Int)=>((AV.int .i64 p):AV)) ?_ ?_)
def xzc:LA→Option (Bool×AV):=ocOf (sCons (sEq (pInt .i64)) (sCons (sEq (pInt .i64)) sNil)) fun (x,(y,_))=>(true,(AV.int .i64 (xiu x y)))
theorem xGL:OcOk Tryz.prog ITryz 54 (xzc):=xbg fun b e c=>by
 obtain ⟨x,⟨y,_⟩⟩:=b
 obtain ⟨d,a⟩:=Prod.mk.inj c
 refine xa7 (p:=xjS.pin) (xbd mxTryz (inv0Ok Tryz.prog _) rfl xBO Tryz.func54 rfl (by kernel_rfl) xzS ((Pre.get (xG2 _ _) rfl).trans ?_))
 exact congrArg some a
def xLh:Env:=xKw.with 54 xzc
theorem xIL:OrcOk Tryz.prog ITryz xLh:=xIl.with xGL
def xnF:Env:=xLh.fn 18 0 (lsOf []) (lpsOf [])
theorem xIs:OrcOk Tryz.prog (ITryz.at 0) xnF:=xIL.fn
theorem xE3:LoOk Tryz.prog (ITryz.at xnF.pin) xnF (Tryz.f71.body.getD .skip):=xbe (ls:=[loopAt Tryz.f71 0]) (by kernel_rfl) (fun l a lp b=>by
 simp only [List.mem_cons,List.not_mem_nil,or_false] at a
 rcases a with rfl
 · rw [show xnF.lp (codeId (loopAt Tryz.f71 0))=none by kernel_rfl] at b
   simp at b)
def xuL (a b c:Int):Int:=(br (a != 0) ((a)) (br (b != 0) ((b)) (br (c != 0) ((c)) ((0)))))
def xEK (a b c:Int):Bool:=true
def xHu {T:Type} (a b c:Int) (δ:T) (κ:Int→T):T:=br (a != 0) (κ (a)) (br (b != 0) (κ (b)) (br (c != 0) (κ (c)) (κ (0))))
theorem xOl (a b c:Int):Pre (xEK a b c) (XF Tryz.prog xnF Tryz.f71 (Tryz.f71.body.getD .skip) [AV.list 1 [AV.int .i64 a,AV.int .i64 b,AV.int .i64 c]]) (AV.int .i64 (xuL a b c)):=by
 have h:XF Tryz.prog xnF Tryz.f71 (Tryz.f71.body.getD .skip) [AV.list 1 [AV.int .i64 a,AV.int .i64 b,AV.int .i64 c]]=xHu a b c none (fun (p:Int)=>some ((AV.int .i64 p):AV)):=by kernel_rfl
 rw [h];unfold xuL xEK xHu;repeat' (first|exact Pre.none|exact Pre.tt rfl|exact Pre.some rfl|refine Pre.l ?_|refine Pre.r ?_|refine Pre.br (f:=fun (p:Int)=>((AV.int .i64 p):AV)) ?_ ?_|refine Pre.brt (f:=fun (p:Int)=>((AV.int .i64 p):AV)) ?_ ?_)
def xIX:LA→Option (Bool×AV):=ocOf (sCons (sList 1 (pCons (pInt .i64) (pCons (pInt .i64) (pCons (pInt .i64) pNil)))) sNil) fun ((a,(b,(c,_))),_)=>(true,(AV.int .i64 (xuL a b c)))
theorem xN6:OcOk Tryz.prog ITryz 71 (xIX):=xbg fun e h f=>by
 obtain ⟨⟨a,⟨b,⟨c,_⟩⟩⟩,_⟩:=e
 obtain ⟨g,d⟩:=Prod.mk.inj f
 refine xa7 (p:=xnF.pin) (xbd mxTryz (inv0Ok Tryz.prog _) rfl xIs Tryz.func71 rfl (by kernel_rfl) xE3 ((Pre.get (xOl _ _ _) rfl).trans ?_))
 exact congrArg some d
def xKt:Env:=xLh.with 71 xIX
theorem xHJ:OrcOk Tryz.prog ITryz xKt:=xIL.with xN6
def xii:Env:=xKt.fn 22 0 (lsOf []) (lpsOf [])
theorem xzL:OrcOk Tryz.prog (ITryz.at 0) xii:=xHJ.fn
theorem xwu:LoOk Tryz.prog (ITryz.at xii.pin) xii (Tryz.f114.body.getD .skip):=xaD (by kernel_rfl)
def xcD (a b:Int) (c:List UInt8) (d e:Int) (f:List UInt8):Int:=((xuL (xiu a d) (xiu b e) (Lib.compareBytes c f)))
def xtX (a b:Int) (c:List UInt8) (d e:Int) (f:List UInt8):Bool:=true
def xvM {T:Type} (a b:Int) (c:List UInt8) (d e:Int) (f:List UInt8) (δ:T) (κ:Int→T):T:=κ (xuL (xiu a d) (xiu b e) (Lib.compareBytes c f))
theorem xDy (a b:Int) (c:List UInt8) (d e:Int) (g:List UInt8):Pre (xtX a b c d e g) (XF Tryz.prog xii Tryz.f114 (Tryz.f114.body.getD .skip) [AV.agg [AV.int .i64 a,AV.int .i64 b,AV.str c],AV.agg [AV.int .i64 d,AV.int .i64 e,AV.str g]]) (AV.int .i64 (xcD a b c d e g)):=by
 have h:XF Tryz.prog xii Tryz.f114 (Tryz.f114.body.getD .skip) [AV.agg [AV.int .i64 a,AV.int .i64 b,AV.str c],AV.agg [AV.int .i64 d,AV.int .i64 e,AV.str g]]=xvM a b c d e g none (fun (p:Int)=>some ((AV.int .i64 p):AV)):=by kernel_rfl
 rw [h];unfold xcD xtX xvM;repeat' (first|exact Pre.none|exact Pre.tt rfl|exact Pre.some rfl|refine Pre.l ?_|refine Pre.r ?_|refine Pre.br (f:=fun (p:Int)=>((AV.int .i64 p):AV)) ?_ ?_|refine Pre.brt (f:=fun (p:Int)=>((AV.int .i64 p):AV)) ?_ ?_)
def xvr:LA→Option (Bool×AV):=ocOf (sCons (sAgg (sCons (sEq (pInt .i64)) (sCons (sEq (pInt .i64)) (sCons (sEq pStr) sNil)))) (sCons (sAgg (sCons (sEq (pInt .i64)) (sCons (sEq (pInt .i64)) (sCons (sEq pStr) sNil)))) sNil)) fun ((a,(b,(c,_))),((d,(e,(f,_))),_))=>(true,(AV.int .i64 (xcD a b c d e f)))
theorem xER:OcOk Tryz.prog ITryz 114 (xvr):=xbg fun b k c=>by
 obtain ⟨⟨d,⟨e,⟨f,_⟩⟩⟩,⟨⟨g,⟨h,⟨i,_⟩⟩⟩,_⟩⟩:=b
 obtain ⟨j,a⟩:=Prod.mk.inj c
 refine xa7 (p:=xii.pin) (xbd mxTryz (inv0Ok Tryz.prog _) rfl xzL Tryz.func114 rfl (by kernel_rfl) xwu ((Pre.get (xDy _ _ _ _ _ _) rfl).trans ?_))
 exact congrArg some a
def xHo:Env:=xKt.with 114 xvr
theorem xDj:OrcOk Tryz.prog ITryz xHo:=xHJ.with xER
def xfF:Env:=xHo.fn 39 0 (lsOf []) (lpsOf [])
theorem xva:OrcOk Tryz.prog (ITryz.at 0) xfF:=xDj.fn
theorem xrZ:LoOk Tryz.prog (ITryz.at xfF.pin) xfF (loopAt Tryz.f113 0):=xaD (by kernel_rfl)
def xeL (c b:LA) (a:Int):=xcD ((b.getD a.toNat .top).cells.getD 0 .top).toInt ((b.getD a.toNat .top).cells.getD 1 .top).toInt ((b.getD a.toNat .top).cells.getD 2 .top).toStr ((c.getD a.toNat .top).cells.getD 0 .top).toInt ((c.getD a.toNat .top).cells.getD 1 .top).toInt ((c.getD a.toNat .top).cells.getD 2 .top).toStr
def xeg {T:Type} (e c b:LA) (d a:Int) (δ:T) (κl:(Int)→T) (κr:(Bool×(Int)×(Unit))→T):T:=br (decide (a<d)) (br (decide (0≤a)&&decide (a<b.length)) (br (decide (a.toNat<b.length)&&((b.getD a.toNat .top).cells.length==3&&hasShs [Sh.int .i64,Sh.int .i64,Sh.str] (b.getD a.toNat .top).cells 0)) (br (decide (a≥c.length)) (κr (true,(1),())) (br (decide (0≤a)&&decide (a<c.length)) (br (decide (a.toNat<c.length)&&((c.getD a.toNat .top).cells.length==3&&hasShs [Sh.int .i64,Sh.int .i64,Sh.str] (c.getD a.toNat .top).cells 0)) (br (xeL c b a != 0) (κr (true,(xeL c b a),())) (κl (i64.wrap (a+1)))) δ) δ)) δ) δ) (κr (false,0,()))
def xbj (d e a:LA) (b:Int):(Int)→Option ((Int)⊕(Bool×(Int)×(Unit))):=fun (c)=>xeg d e a b c none (fun s=>some (.inl s)) (fun p=>some (.inr p))
def xeV (d e a:LA) (b:Int):(Int)→LA×List Box:=fun (c)=>([AV.list 3 d,AV.list 3 e,AV.func 114 [],AV.list 3 a,AV.int .i64 b,AV.int .i64 c],[])
def xeF (a b c:LA) (d:Int):(Bool×(Int)×(Unit))→LR:=fun p=>(.node p.1 (.leaf .ret [AV.list 3 a,AV.list 3 b,AV.int .i64 p.2.1] []) (.leaf (.exit 0) [AV.list 3 a,AV.list 3 b,.top] []))
abbrev xvd (a:LA) (H:List Box):=XR Tryz.prog xfF [0,1,2,11,12,13] [0,1,6] [] (loopAt Tryz.f113 0) a H
theorem xvi (c d a:LA) (b e:Int):Enc (encR (xeV c d a b) (xeF c d a b)) (xbj c d a b e) (xvd (xeV c d a b e).1 (xeV c d a b e).2):=by
 refine eV (xeg c d a b e none (fun s=>some (encR (xeV c d a b) (xeF c d a b) (.inl s))) (fun p=>some (encR (xeV c d a b) (xeF c d a b) (.inr p)))) (by kernel_rfl) ?_;unfold xbj xeg;repeat' first|exact eN|exact eS rfl|apply eB
def xnJ:Lp:=lpOf [0,1,2,11,12,13] [0,1,6] [] (pCons (pList 3 pAny) (pCons (pList 3 pAny) (pCons (pFunc 114 pNil) (pCons (pList 3 pAny) (pCons (pInt .i64) (pCons (pInt .i64) pNil)))))) pNil fun (d,(e,(_,(a,(b,(c,_)))))) _=>((Iter (xbj d e a b) (c)).isSome,xeF d e a b ((Iter (xbj d e a b) (c)).getD (false,0,())))
theorem xt9:LoopOk Tryz.prog (ITryz.at xfF.pin) xfF.nt (loopAt Tryz.f113 0) xnJ:=xbm fun g i j h=>by
 obtain ⟨c,⟨d,⟨_,⟨a,⟨b,⟨e,_⟩⟩⟩⟩⟩⟩:=g
 obtain ⟨f,rfl⟩:=Prod.mk.inj h
 exact xa6 mxTryz (inv0Ok Tryz.prog _) rfl xva xrZ (xeV c d a b) (xeF c d a b) (fun p=>by simp only [xeF,LR.eval];first|(simp;done)|(repeat' split<;>simp)) (xvi c d a b) (s:=(e)) (xac f)
def xg1:Env:=xHo.fn 39 0 (lsOf []) (lpsOf [(2,xnJ)])
theorem xuS:OrcOk Tryz.prog (ITryz.at 0) xg1:=xDj.fn
theorem xsX:LoOk Tryz.prog (ITryz.at xg1.pin) xg1 (Tryz.f113.body.getD .skip):=xbe (ls:=[loopAt Tryz.f113 0]) (by kernel_rfl) (lkC xt9 lkN)
def xju {T:Type} (a b:LA) (δ:T) (κ:Int→T):T:=br ((Iter (xbj a b a (↑a.length:Int)) 0).isSome) (br (((Iter (xbj a b a (↑a.length:Int)) 0).getD (false,0,())).fst) (κ (((Iter (xbj a b a (↑a.length:Int)) 0).getD (false,0,())).snd.fst)) (br (decide ((↑a.length:Int)<(↑b.length:Int))) (κ ((-1))) (κ (0)))) δ
def xfK (a b:LA):Option (Int):=xju a b none some
theorem xyE (a b:LA):Enc (fun (p:Int)=>((AV.int .i64 p):AV)) (xfK a b) (XF Tryz.prog xg1 Tryz.f113 (Tryz.f113.body.getD .skip) [AV.list 3 a,AV.list 3 b,AV.func (114:FuncId) []]):=by
 refine eV (xju a b none (fun (p:Int)=>some ((AV.int .i64 p):AV))) (by kernel_rfl) ?_;unfold xfK xju;repeat' first|exact eN|exact eS rfl|apply eB
def xrt:LA→Option (Bool×AV):=ocOf (sCons (sList 3 pAny) (sCons (sList 3 pAny) (sCons (sEq (pFunc (114:FuncId) pNil)) sNil))) fun (a,(b,(_,_)))=>((xfK a b).isSome,(AV.int .i64 ((xfK a b).getD 0)))
theorem xyz:OcOk Tryz.prog ITryz 113 (xrt):=xbg fun f h g=>by
 obtain ⟨a,⟨b,⟨_,_⟩⟩⟩:=f
 obtain ⟨c,e⟩:=Prod.mk.inj g
 refine xa7 (p:=xg1.pin) (xbd mxTryz (inv0Ok Tryz.prog _) rfl xuS Tryz.func113 rfl (by kernel_rfl) xsX ((xyE _ _ _ (xac (d:=0) c)).trans ?_))
 exact congrArg some e
def xKX:Env:=xHo.with 113 xrt
theorem xIk:OrcOk Tryz.prog ITryz xKX:=xDj.with xyz
def xjV:Env:=xKX.fn 8 0 (lsOf []) (lpsOf [])
theorem xzI:OrcOk Tryz.prog (ITryz.at 0) xjV:=xIk.fn
theorem xw6:LoOk Tryz.prog (ITryz.at xjV.pin) xjV (Tryz.f88.body.getD .skip):=xaD (by kernel_rfl)
def xnc {T:Type} (a b:LA) (δ:T) (κ:Int→T):T:=br ((xfK a b).isSome) (κ ((xfK a b).getD 0)) δ
def xda (a b:LA):Option (Int):=xnc a b none some
theorem xEi (a b:LA):Enc (fun (p:Int)=>((AV.int .i64 p):AV)) (xda a b) (XF Tryz.prog xjV Tryz.f88 (Tryz.f88.body.getD .skip) [AV.list 3 a,AV.list 3 b]):=by
 refine eV (xnc a b none (fun (p:Int)=>some ((AV.int .i64 p):AV))) (by kernel_rfl) ?_;unfold xda xnc;repeat' first|exact eN|exact eS rfl|apply eB
def xvO:LA→Option (Bool×AV):=ocOf (sCons (sList 3 pAny) (sCons (sList 3 pAny) sNil)) fun (a,(b,_))=>((xda a b).isSome,(AV.int .i64 ((xda a b).getD 0)))
theorem xDK:OcOk Tryz.prog ITryz 88 (xvO):=xbg fun f h g=>by
 obtain ⟨a,⟨b,_⟩⟩:=f
 obtain ⟨c,e⟩:=Prod.mk.inj g
 refine xa7 (p:=xjV.pin) (xbd mxTryz (inv0Ok Tryz.prog _) rfl xzI Tryz.func88 rfl (by kernel_rfl) xw6 ((xEi _ _ _ (xac (d:=0) c)).trans ?_))
 exact congrArg some e
def xLn:Env:=xKX.with 88 xvO
theorem xH3:OrcOk Tryz.prog ITryz xLn:=xIk.with xDK
def xjj:Env:=xLn.fn 10 0 (lsOf []) (lpsOf [])
theorem xyW:OrcOk Tryz.prog (ITryz.at 0) xjj:=xH3.fn
theorem xwt:LoOk Tryz.prog (ITryz.at xjj.pin) xjj (Tryz.f93.body.getD .skip):=xaD (by kernel_rfl)
def xmw {T:Type} (a c b d:LA) (δ:T) (κ:Int→T):T:=br ((xda a b).isSome) (κ ((xda a b).getD 0)) δ
def xdI (c a d b:LA):Option (Int):=xmw c a d b none some
theorem xCD (c a d b:LA):Enc (fun (p:Int)=>((AV.int .i64 p):AV)) (xdI c a d b) (XF Tryz.prog xjj Tryz.f93 (Tryz.f93.body.getD .skip) [AV.agg [AV.list 3 c,AV.list 2 a],AV.agg [AV.list 3 d,AV.list 2 b]]):=by
 refine eV (xmw c a d b none (fun (p:Int)=>some ((AV.int .i64 p):AV))) (by kernel_rfl) ?_;unfold xdI xmw;repeat' first|exact eN|exact eS rfl|apply eB
def xuV:LA→Option (Bool×AV):=ocOf (sCons (sAgg (sCons (sList 3 pAny) (sCons (sList 2 pAny) sNil))) (sCons (sAgg (sCons (sList 3 pAny) (sCons (sList 2 pAny) sNil))) sNil)) fun ((c,(a,_)),((d,(b,_)),_))=>((xdI c a d b).isSome,(AV.int .i64 ((xdI c a d b).getD 0)))
theorem xDm:OcOk Tryz.prog ITryz 93 (xuV):=xbg fun c j e=>by
 obtain ⟨⟨h,⟨f,_⟩⟩,⟨⟨i,⟨g,_⟩⟩,_⟩⟩:=c
 obtain ⟨a,b⟩:=Prod.mk.inj e
 refine xa7 (p:=xjj.pin) (xbd mxTryz (inv0Ok Tryz.prog _) rfl xyW Tryz.func93 rfl (by kernel_rfl) xwt ((xCD _ _ _ _ _ (xac (d:=0) a)).trans ?_))
 exact congrArg some b
def xOQ:Env:=xLn.with 93 xuV
theorem xNX:OrcOk Tryz.prog ITryz xOQ:=xH3.with xDm
abbrev xOL:Env:=xOQ
theorem xN7:OrcOk Tryz.prog ITryz xOL:=xNX
abbrev EK3:Env:=xOL
theorem xET:OrcOk Tryz.prog ITryz EK3:=xN7
end Go.Sim.M
end
noncomputable section
set_option maxRecDepth 100000
namespace Go.Sim.M
open Go.IntKind (i64 u64 u8)
open Go.RowKit Go.Proofs
def xcq:Env:=EK3.fn 53 1 (lsOf [83]) (lpsOf [])
theorem xoE:OrcOk Tryz.prog (ITryz.at 1) xcq:=xET.fn
theorem xmC:LoOk Tryz.prog (ITryz.at xcq.pin) xcq (loopAt Tryz.f141 1):=xaD (by kernel_rfl)
def xgb (a:Nat) (j:Int):=decide (0≤i64.wrap (j - 1))&&decide (i64.wrap (j - 1)<(↑a:Int))
def xeA (j:Int):Nat:=0+(i64.wrap (j - 1)).toNat
def xf1 (a:Nat) (j:Int):=decide (0≤j)&&decide (j<(↑a:Int))
def xiZ (j:Int) (a:LA):=decide (0+j.toNat<a.length)
def xi6 (j:Int) (a:LA):=xiZ j a&&((a.getD (0+j.toNat) .top).cells.length==2&&hasShs [Sh.list 3,Sh.list 2] (a.getD (0+j.toNat) .top).cells 0)
def xb4 (j:Int) (a:LA):=(a.getD (xeA j) .top).cells
def xiX (j:Int) (a:LA):=decide (xeA j<a.length)&&((xb4 j a).length==2&&hasShs [Sh.list 3,Sh.list 2] (xb4 j a) 0)
def xiR (j:Int) (a:LA):=xdI ((a.getD (0+j.toNat) .top).cells.getD 0 .top).toList ((a.getD (0+j.toNat) .top).cells.getD 1 .top).toList ((xb4 j a).getD 0 .top).toList ((xb4 j a).getD 1 .top).toList
def xiO (j:Int) (a:LA):=a.set (0+j.toNat) (AV.agg [AV.list 3 ((xb4 j a).getD 0 .top).toList,AV.list 2 ((xb4 j a).getD 1 .top).toList])
def xgk {T:Type} (d:Nat) (a b i j:Int) (c:LA) (δ:T) (κl:(Int×LA)→T) (κr:(LA)→T):T:=br (decide (j>a)) (br (xf1 d j) (br (xi6 j c) (br (xgb d j) (br (xiX j c) (br ((xiR j c).isSome) (br (decide ((xiR j c).getD 0<0)) (br (xgb d j) (br (xiX j c) (br (xf1 d j) (br (xi6 j c) (br (xf1 d j) (br (xiZ j c) (br (xgb d j) (br (decide (xeA j<(xiO j c).length)) (κl (i64.wrap (j - 1),(xiO j c).set (xeA j) (AV.agg [AV.list 3 ((c.getD (0+j.toNat) .top).cells.getD 0 .top).toList,AV.list 2 ((c.getD (0+j.toNat) .top).cells.getD 1 .top).toList]))) δ) δ) δ) δ) δ) δ) δ) δ) (κr (c))) δ) δ) δ) δ) δ) (κr (c))
def xbz (d:Nat) (a b i:Int):(Int×LA)→Option ((Int×LA)⊕(LA)):=fun (j,c)=>xgk d a b i j c none (fun s=>some (.inl s)) (fun p=>some (.inr p))
def xcj (d:Nat) (a b i:Int):(Int×LA)→LA×List Box:=fun (j,c)=>([AV.osl 0 0 0 d,AV.int .i64 a,AV.int .i64 b,AV.func 93 [],AV.int .i64 i,AV.int .i64 j],[⟨0,2,83,c,false,true⟩])
def xbZ (c:Nat) (a b i:Int):(LA)→LR:=fun p=>(.leaf (.exit 2) [AV.osl 0 0 0 c,AV.int .i64 a,AV.int .i64 b,AV.func 93 [],AV.int .i64 i] [⟨0,2,83,p,false,true⟩])
abbrev xoT (a:LA) (H:List Box):=XR Tryz.prog xcq [0,1,2,3,8,9] [0,1,2,3,8] [] (loopAt Tryz.f141 1) a H
theorem xoQ (c:Nat) (a b i:Int) (s:Int×LA):Enc (encR (xcj c a b i) (xbZ c a b i)) (xbz c a b i s) (xoT (xcj c a b i s).1 (xcj c a b i s).2):=by
 obtain ⟨j,d⟩:=s
 refine eV (xgk c a b i j d none (fun s=>some (encR (xcj c a b i) (xbZ c a b i) (.inl s))) (fun p=>some (encR (xcj c a b i) (xbZ c a b i) (.inr p)))) (by kernel_rfl) ?_;unfold xbz xgk;repeat' first|exact eN|exact eS rfl|apply eB
def xfU:Lp:=lpOf [0,1,2,3,8,9] [0,1,2,3,8] [] (pCons (pOsl 0 0 0) (pCons (pInt .i64) (pCons (pInt .i64) (pCons (pFunc 93 pNil) (pCons (pInt .i64) (pCons (pInt .i64) pNil)))))) (pCons (pBox 0 2 83 false true pAny) pNil) fun (c,(a,(b,(_,(i,(j,_)))))) (d,_)=>((Iter (xbz c a b i) (j,d)).isSome,xbZ c a b i ((Iter (xbz c a b i) (j,d)).getD []))
theorem xiG:LoopOk Tryz.prog (ITryz.at xcq.pin) xcq.nt (loopAt Tryz.f141 1) xfU:=xbm fun f g k h=>by
 obtain ⟨c,⟨a,⟨b,⟨_,⟨i,⟨j,_⟩⟩⟩⟩⟩⟩:=f
 obtain ⟨d,_⟩:=g
 obtain ⟨e,rfl⟩:=Prod.mk.inj h
 exact xa6 mxTryz (inv0Ok Tryz.prog _) rfl xoE xmC (xcj c a b i) (xbZ c a b i) (fun p=>by simp only [xbZ,LR.eval];first|(simp;done)|(repeat' split<;>simp)) (xoQ c a b i) (s:=(j,d)) (xac e)
def xcy:Env:=EK3.fn 53 1 (lsOf [83]) (lpsOf [(4,xfU)])
theorem xoK:OrcOk Tryz.prog (ITryz.at 1) xcy:=xET.fn
theorem xmm:LoOk Tryz.prog (ITryz.at xcy.pin) xcy (loopAt Tryz.f141 0):=xbe (ls:=[loopAt Tryz.f141 1]) (by kernel_rfl) (lkC xiG lkN)
def xgj {T:Type} (d:Nat) (a b i:Int) (c:LA) (δ:T) (κl:(Int×LA)→T) (κr:(LA)→T):T:=br (decide (i<b)) (br ((Iter (xbz d a b i) (i,c)).isSome) (κl (i64.wrap (i+1),(Iter (xbz d a b i) (i,c)).getD [])) δ) (κr (c))
def xby (d:Nat) (a b:Int):(Int×LA)→Option ((Int×LA)⊕(LA)):=fun (i,c)=>xgj d a b i c none (fun s=>some (.inl s)) (fun p=>some (.inr p))
def xch (d:Nat) (a b:Int):(Int×LA)→LA×List Box:=fun (i,c)=>([AV.osl 0 0 0 d,AV.int .i64 a,AV.int .i64 b,AV.func 93 [],AV.int .i64 i],[⟨0,2,83,c,false,true⟩])
def xbY (c:Nat) (a b:Int):(LA)→LR:=fun p=>(.leaf (.exit 0) [] [⟨0,2,83,p,false,true⟩])
abbrev xoS (a:LA) (H:List Box):=XR Tryz.prog xcy [0,1,2,3,8] [] [] (loopAt Tryz.f141 0) a H
theorem xoY (c:Nat) (a b:Int) (s:Int×LA):Enc (encR (xch c a b) (xbY c a b)) (xby c a b s) (xoS (xch c a b s).1 (xch c a b s).2):=by
 obtain ⟨i,d⟩:=s
 refine eV (xgj c a b i d none (fun s=>some (encR (xch c a b) (xbY c a b) (.inl s))) (fun p=>some (encR (xch c a b) (xbY c a b) (.inr p)))) (by kernel_rfl) ?_;unfold xby xgj;repeat' first|exact eN|exact eS rfl|apply eB
def xiN:Lp:=lpOf [0,1,2,3,8] [] [] (pCons (pOsl 0 0 0) (pCons (pInt .i64) (pCons (pInt .i64) (pCons (pFunc 93 pNil) (pCons (pInt .i64) pNil))))) (pCons (pBox 0 2 83 false true pAny) pNil) fun (c,(a,(b,(_,(i,_))))) (d,_)=>((Iter (xby c a b) (i,d)).isSome,xbY c a b ((Iter (xby c a b) (i,d)).getD []))
theorem xnZ:LoopOk Tryz.prog (ITryz.at xcy.pin) xcy.nt (loopAt Tryz.f141 0) xiN:=xbm fun f g j h=>by
 obtain ⟨c,⟨a,⟨b,⟨_,⟨i,_⟩⟩⟩⟩⟩:=f
 obtain ⟨d,_⟩:=g
 obtain ⟨e,rfl⟩:=Prod.mk.inj h
 exact xa6 mxTryz (inv0Ok Tryz.prog _) rfl xoK xmm (xch c a b) (xbY c a b) (fun p=>by simp only [xbY,LR.eval];first|(simp;done)|(repeat' split<;>simp)) (xoY c a b) (s:=(i,d)) (xac e)
def xdO:Env:=EK3.fn 53 1 (lsOf [83]) (lpsOf [(4,xfU),(1,xiN)])
theorem xoC:OrcOk Tryz.prog (ITryz.at 1) xdO:=xET.fn
theorem xm4:LoOk Tryz.prog (ITryz.at xdO.pin) xdO (Tryz.f141.body.getD .skip):=xbe (ls:=[loopAt Tryz.f141 0,loopAt Tryz.f141 1]) (by kernel_rfl) (lkC xnZ (lkC xiG lkN))
def xe9 {T:Type} (n:Nat) (a b:Int) (c:LA) (δ:T) (κ:LA→T):T:=br ((Iter (xby n a b) (i64.wrap (a+1),c)).isSome) (κ ((Iter (xby n a b) (i64.wrap (a+1),c)).getD [])) δ
def xbr (n:Nat) (a b:Int) (c:LA):Option (LA):=xe9 n a b c none some
theorem xqH (n:Nat) (a b:Int) (xs:LA):Enc (fun (p:LA)=>(((AV.tuple [],([⟨0,2,83,p,false,true⟩]:List Box))):(AV×List Box))) (xbr n a b xs) (XFM Tryz.prog xdO Tryz.f141 (Tryz.f141.body.getD .skip) [AV.osl (0:Id) 0 0 n,AV.int .i64 a,AV.int .i64 b,AV.func (93:FuncId) []] [{ ver:=0,sz:=2,ty:=(83:TypeId),xs:=xs,frz:=false,pm:=true }]):=by
 refine eV (xe9 n a b xs none (fun (p:LA)=>some (((AV.tuple [],([⟨0,2,83,p,false,true⟩]:List Box))):(AV×List Box)))) (by kernel_rfl) ?_;unfold xbr xe9;repeat' first|exact eN|exact eS rfl|apply eB
def xko:LA→List Box→Option (Bool×AV×List Box):=omOf (sCons (sEq (pOsl 0 0 0)) (sCons (sEq (pInt .i64)) (sCons (sEq (pInt .i64)) (sCons (sEq (pFunc (93:FuncId) pNil)) sNil)))) (pCons (pBox 0 2 (83:TypeId) false true pAny) pNil) fun (n,(a,(b,(_,_)))) (c,_)=>((xbr n a b c).isSome,((AV.tuple [],([⟨0,2,83,((xbr n a b c).getD []),false,true⟩]:List Box))))
theorem xqv:OmOk Tryz.prog ITryz 141 (xko):=xeQ fun f g j i h=>by
 obtain ⟨n,⟨a,⟨b,⟨_,_⟩⟩⟩⟩:=f
 obtain ⟨k,_⟩:=g
 obtain ⟨c,e⟩:=Prod.mk.inj h
 refine xdE (p:=xdO.pin) (xd4 mxTryz (inv0Ok Tryz.prog _) rfl xoC rfl Tryz.func141 rfl (by kernel_rfl) xm4 ((xqH _ _ _ _ _ (xac (d:=[]) c)).trans ?_))
 exact congrArg some e
def xHq:Env:=EK3.withM 141 xko
theorem xDk:OrcOk Tryz.prog ITryz xHq:=xET.withM xqv
def xdJ:Env:=xHq.fn 38 1 (lsOf [83]) (lpsOf [])
theorem xqo:OrcOk Tryz.prog (ITryz.at 1) xdJ:=xDk.fn
theorem xnB:LoOk Tryz.prog (ITryz.at xdJ.pin) xdJ (loopAt Tryz.f182 0):=xaD (by kernel_rfl)
def xki (a i:Int) (b:LA):=decide (0+(i64.wrap (a+i)).toNat<b.length)
def xfa (a i:Int) (b:LA):=(b.getD (0+(i64.wrap (a+i)).toNat) .top).cells
def xkm (a:Nat) (b i:Int):=decide (0≤i64.wrap (b+i))&&decide (i64.wrap (b+i)<(↑a:Int))
def xkh (b:Nat) (a i:Int):=decide (0≤i64.wrap (a+i))&&decide (i64.wrap (a+i)<(↑b:Int))
def xfc (b i:Int):Nat:=0+(i64.wrap (b+i)).toNat
def xe8 (b i:Int) (a:LA):=(a.getD (xfc b i) .top).cells
def xkb (a b i:Int) (c:LA):=c.set (0+(i64.wrap (a+i)).toNat) (AV.agg [AV.list 3 ((xe8 b i c).getD 0 .top).toList,AV.list 2 ((xe8 b i c).getD 1 .top).toList])
def xhm {T:Type} (d:Nat) (a b n i:Int) (c:LA) (δ:T) (κl:(Int×LA)→T) (κr:(LA)→T):T:=br (decide (i<n)) (br (xkm d b i) (br (decide (xfc b i<c.length)&&((xe8 b i c).length==2&&hasShs [Sh.list 3,Sh.list 2] (xe8 b i c) 0)) (br (xkh d a i) (br (xki a i c&&((xfa a i c).length==2&&hasShs [Sh.list 3,Sh.list 2] (xfa a i c) 0)) (br (xkh d a i) (br (xki a i c) (br (xkm d b i) (br (decide (xfc b i<(xkb a b i c).length)) (κl (i64.wrap (i+1),(xkb a b i c).set (xfc b i) (AV.agg [AV.list 3 ((xfa a i c).getD 0 .top).toList,AV.list 2 ((xfa a i c).getD 1 .top).toList]))) δ) δ) δ) δ) δ) δ) δ) δ) (κr (c))
def xbS (d:Nat) (a b n:Int):(Int×LA)→Option ((Int×LA)⊕(LA)):=fun (i,c)=>xhm d a b n i c none (fun s=>some (.inl s)) (fun p=>some (.inr p))
def xc0 (d:Nat) (a b n:Int):(Int×LA)→LA×List Box:=fun (i,c)=>([AV.osl 0 0 0 d,AV.int .i64 a,AV.int .i64 b,AV.int .i64 n,AV.int .i64 i],[⟨0,2,83,c,false,true⟩])
def xcr (c:Nat) (a b n:Int):(LA)→LR:=fun p=>(.leaf (.exit 0) [] [⟨0,2,83,p,false,true⟩])
abbrev xq2 (a:LA) (H:List Box):=XR Tryz.prog xdJ [0,1,2,3,10] [] [] (loopAt Tryz.f182 0) a H
theorem xrr (c:Nat) (a b n:Int) (s:Int×LA):Enc (encR (xc0 c a b n) (xcr c a b n)) (xbS c a b n s) (xq2 (xc0 c a b n s).1 (xc0 c a b n s).2):=by
 obtain ⟨i,d⟩:=s
 refine eV (xhm c a b n i d none (fun s=>some (encR (xc0 c a b n) (xcr c a b n) (.inl s))) (fun p=>some (encR (xc0 c a b n) (xcr c a b n) (.inr p)))) (by kernel_rfl) ?_;unfold xbS xhm;repeat' first|exact eN|exact eS rfl|apply eB
def xkj:Lp:=lpOf [0,1,2,3,10] [] [] (pCons (pOsl 0 0 0) (pCons (pInt .i64) (pCons (pInt .i64) (pCons (pInt .i64) (pCons (pInt .i64) pNil))))) (pCons (pBox 0 2 83 false true pAny) pNil) fun (c,(a,(b,(n,(i,_))))) (d,_)=>((Iter (xbS c a b n) (i,d)).isSome,xcr c a b n ((Iter (xbS c a b n) (i,d)).getD []))
theorem xp4:LoopOk Tryz.prog (ITryz.at xdJ.pin) xdJ.nt (loopAt Tryz.f182 0) xkj:=xbm fun f g j h=>by
 obtain ⟨c,⟨a,⟨b,⟨n,⟨i,_⟩⟩⟩⟩⟩:=f
 obtain ⟨d,_⟩:=g
 obtain ⟨e,rfl⟩:=Prod.mk.inj h
 exact xa6 mxTryz (inv0Ok Tryz.prog _) rfl xqo xnB (xc0 c a b n) (xcr c a b n) (fun p=>by simp only [xcr,LR.eval];first|(simp;done)|(repeat' split<;>simp)) (xrr c a b n) (s:=(i,d)) (xac e)
def xeM:Env:=xHq.fn 38 1 (lsOf [83]) (lpsOf [(1,xkj)])
theorem xqu:OrcOk Tryz.prog (ITryz.at 1) xeM:=xDk.fn
theorem xo9:LoOk Tryz.prog (ITryz.at xeM.pin) xeM (Tryz.f182.body.getD .skip):=xbe (ls:=[loopAt Tryz.f182 0]) (by kernel_rfl) (lkC xp4 lkN)
def xgp {T:Type} (n:Nat) (a b k:Int) (c:LA) (δ:T) (κ:LA→T):T:=br ((Iter (xbS n a b k) (0,c)).isSome) (κ ((Iter (xbS n a b k) (0,c)).getD [])) δ
def xbp (n:Nat) (a b k:Int) (c:LA):Option (LA):=xgp n a b k c none some
theorem xtn (n:Nat) (a b k:Int) (xs:LA):Enc (fun (p:LA)=>(((AV.tuple [],([⟨0,2,83,p,false,true⟩]:List Box))):(AV×List Box))) (xbp n a b k xs) (XFM Tryz.prog xeM Tryz.f182 (Tryz.f182.body.getD .skip) [AV.osl (0:Id) 0 0 n,AV.int .i64 a,AV.int .i64 b,AV.int .i64 k,AV.func (93:FuncId) []] [{ ver:=0,sz:=2,ty:=(83:TypeId),xs:=xs,frz:=false,pm:=true }]):=by
 refine eV (xgp n a b k xs none (fun (p:LA)=>some (((AV.tuple [],([⟨0,2,83,p,false,true⟩]:List Box))):(AV×List Box)))) (by kernel_rfl) ?_;unfold xbp xgp;repeat' first|exact eN|exact eS rfl|apply eB
def xmj:LA→List Box→Option (Bool×AV×List Box):=omOf (sCons (sEq (pOsl 0 0 0)) (sCons (sEq (pInt .i64)) (sCons (sEq (pInt .i64)) (sCons (sEq (pInt .i64)) (sCons (sEq (pFunc (93:FuncId) pNil)) sNil))))) (pCons (pBox 0 2 (83:TypeId) false true pAny) pNil) fun (n,(a,(b,(k,(_,_))))) (c,_)=>((xbp n a b k c).isSome,((AV.tuple [],([⟨0,2,83,((xbp n a b k c).getD []),false,true⟩]:List Box))))
theorem xs8:OmOk Tryz.prog ITryz 182 (xmj):=xeQ fun f g j i h=>by
 obtain ⟨n,⟨a,⟨b,⟨k,⟨_,_⟩⟩⟩⟩⟩:=f
 obtain ⟨l,_⟩:=g
 obtain ⟨c,e⟩:=Prod.mk.inj h
 refine xdE (p:=xeM.pin) (xd4 mxTryz (inv0Ok Tryz.prog _) rfl xqu rfl Tryz.func182 rfl (by kernel_rfl) xo9 ((xtn _ _ _ _ _ _ (xac (d:=[]) c)).trans ?_))
 exact congrArg some e
def xHj:Env:=xHq.withM 182 xmj
theorem xDq:OrcOk Tryz.prog ITryz xHj:=xDk.withM xs8
def xew:Env:=xHj.fn 58 1 (lsOf [83]) (lpsOf [])
theorem xsw:OrcOk Tryz.prog (ITryz.at 1) xew:=xDq.fn
theorem xpr:LoOk Tryz.prog (ITryz.at xew.pin) xew (loopAt Tryz.f162 0):=xaD (by kernel_rfl)
def xiM {T:Type} (b:Nat) (m i j:Int) (a:LA) (δ:T) (κl:(Int×Int×LA)→T) (κr:(Int×LA)→T):T:=br (i != j) (br (decide (i>j)) (br ((xbp b (i64.wrap (m - i)) m j a).isSome) (κl (i64.wrap (i - j),j,(xbp b (i64.wrap (m - i)) m j a).getD [])) δ) (br ((xbp b (i64.wrap (m - i)) (i64.wrap (i64.wrap (m+j) - i)) i a).isSome) (κl (i,i64.wrap (j - i),(xbp b (i64.wrap (m - i)) (i64.wrap (i64.wrap (m+j) - i)) i a).getD [])) δ)) (κr (i,a))
def xc6 (b:Nat) (m:Int):(Int×Int×LA)→Option ((Int×Int×LA)⊕(Int×LA)):=fun (i,j,a)=>xiM b m i j a none (fun s=>some (.inl s)) (fun p=>some (.inr p))
def xdS (b:Nat) (m:Int):(Int×Int×LA)→LA×List Box:=fun (i,j,a)=>([AV.osl 0 0 0 b,AV.int .i64 m,AV.func 93 [],AV.int .i64 i,AV.int .i64 j],[⟨0,2,83,a,false,true⟩])
def xdn (a:Nat) (m:Int):(Int×LA)→LR:=fun p=>(.leaf (.exit 0) [AV.osl 0 0 0 a,AV.int .i64 m,AV.func 93 [],AV.int .i64 p.1] [⟨0,2,83,p.2,false,true⟩])
abbrev xtg (a:LA) (H:List Box):=XR Tryz.prog xew [0,2,4,10,11] [0,2,4,10] [] (loopAt Tryz.f162 0) a H
theorem xta (a:Nat) (m:Int) (s:Int×Int×LA):Enc (encR (xdS a m) (xdn a m)) (xc6 a m s) (xtg (xdS a m s).1 (xdS a m s).2):=by
 obtain ⟨i,j,b⟩:=s
 refine eV (xiM a m i j b none (fun s=>some (encR (xdS a m) (xdn a m) (.inl s))) (fun p=>some (encR (xdS a m) (xdn a m) (.inr p)))) (by kernel_rfl) ?_;unfold xc6 xiM;repeat' first|exact eN|exact eS rfl|apply eB
def xmc:Lp:=lpOf [0,2,4,10,11] [0,2,4,10] [] (pCons (pOsl 0 0 0) (pCons (pInt .i64) (pCons (pFunc 93 pNil) (pCons (pInt .i64) (pCons (pInt .i64) pNil))))) (pCons (pBox 0 2 83 false true pAny) pNil) fun (a,(m,(_,(i,(j,_))))) (b,_)=>((Iter (xc6 a m) (i,j,b)).isSome,xdn a m ((Iter (xc6 a m) (i,j,b)).getD (0,[])))
theorem xrL:LoopOk Tryz.prog (ITryz.at xew.pin) xew.nt (loopAt Tryz.f162 0) xmc:=xbm fun d e g f=>by
 obtain ⟨a,⟨m,⟨_,⟨i,⟨j,_⟩⟩⟩⟩⟩:=d
 obtain ⟨b,_⟩:=e
 obtain ⟨c,rfl⟩:=Prod.mk.inj f
 exact xa6 mxTryz (inv0Ok Tryz.prog _) rfl xsw xpr (xdS a m) (xdn a m) (fun p=>by simp only [xdn,LR.eval];first|(simp;done)|(repeat' split<;>simp)) (xta a m) (s:=(i,j,b)) (xac c)
def xfr:Env:=xHj.fn 58 1 (lsOf [83]) (lpsOf [(2,xmc)])
theorem xsC:OrcOk Tryz.prog (ITryz.at 1) xfr:=xDq.fn
theorem xqy:LoOk Tryz.prog (ITryz.at xfr.pin) xfr (Tryz.f162.body.getD .skip):=xbe (ls:=[loopAt Tryz.f162 0]) (by kernel_rfl) (lkC xrL lkN)
def xjy (n:Nat) (a m b:Int) (c:LA):=Iter (xc6 n m) (i64.wrap (m - a),i64.wrap (b - m),c)
def xjE (n:Nat) (a m b:Int) (c:LA):=(xjy n a m b c).getD (0,[])
def xjF (n:Nat) (a m b:Int) (c:LA):=(xjE n a m b c).fst
def xjq (n:Nat) (a m b:Int) (c:LA):=xbp n (i64.wrap (m - xjF n a m b c)) m (xjF n a m b c) (xjE n a m b c).snd
def xhe {T:Type} (n:Nat) (a m b:Int) (c:LA) (δ:T) (κ:LA→T):T:=br ((xjy n a m b c).isSome) (br ((xjq n a m b c).isSome) (κ ((xjq n a m b c).getD [])) δ) δ
def xbP (n:Nat) (a m b:Int) (c:LA):Option (LA):=xhe n a m b c none some
theorem xuC (n:Nat) (a m b:Int) (xs:LA):Enc (fun (p:LA)=>(((AV.tuple [],([⟨0,2,83,p,false,true⟩]:List Box))):(AV×List Box))) (xbP n a m b xs) (XFM Tryz.prog xfr Tryz.f162 (Tryz.f162.body.getD .skip) [AV.osl (0:Id) 0 0 n,AV.int .i64 a,AV.int .i64 m,AV.int .i64 b,AV.func (93:FuncId) []] [{ ver:=0,sz:=2,ty:=(83:TypeId),xs:=xs,frz:=false,pm:=true }]):=by
 refine eV (xhe n a m b xs none (fun (p:LA)=>some (((AV.tuple [],([⟨0,2,83,p,false,true⟩]:List Box))):(AV×List Box)))) (by kernel_rfl) ?_;unfold xbP xhe;repeat' first|exact eN|exact eS rfl|apply eB
def xnj:LA→List Box→Option (Bool×AV×List Box):=omOf (sCons (sEq (pOsl 0 0 0)) (sCons (sEq (pInt .i64)) (sCons (sEq (pInt .i64)) (sCons (sEq (pInt .i64)) (sCons (sEq (pFunc (93:FuncId) pNil)) sNil))))) (pCons (pBox 0 2 (83:TypeId) false true pAny) pNil) fun (n,(a,(m,(b,(_,_))))) (c,_)=>((xbP n a m b c).isSome,((AV.tuple [],([⟨0,2,83,((xbP n a m b c).getD []),false,true⟩]:List Box))))
theorem xuT:OmOk Tryz.prog ITryz 162 (xnj):=xeQ fun f g j i h=>by
 obtain ⟨n,⟨a,⟨m,⟨b,⟨_,_⟩⟩⟩⟩⟩:=f
 obtain ⟨k,_⟩:=g
 obtain ⟨c,e⟩:=Prod.mk.inj h
 refine xdE (p:=xfr.pin) (xd4 mxTryz (inv0Ok Tryz.prog _) rfl xsC rfl Tryz.func162 rfl (by kernel_rfl) xqy ((xuC _ _ _ _ _ _ (xac (d:=[]) c)).trans ?_))
 exact congrArg some e
def xvX:Env:=xHj.withM 162 xnj
theorem xpN:OrcOk Tryz.prog ITryz xvX:=xDq.withM xuT
def xd1:Env:=xvX.fn 220 1 (lsOf [83]) (lpsOf [])
theorem xqO:OrcOk Tryz.prog (ITryz.at 1) xd1:=xpN.fn
theorem xoH:LoOk Tryz.prog (ITryz.at xd1.pin) xd1 (loopAt Tryz.f142 0):=xaD (by kernel_rfl)
def xc1 (i j:Int):=i64.wrap ((u64.wrap (i64.wrap (i+j))).fdiv 2)
def xfv (i j:Int) (a:LA):=(a.getD (0+(xc1 i j).toNat) .top).cells
def xla (a i j:Int) (b:LA):=xdI ((xfv i j b).getD 0 .top).toList ((xfv i j b).getD 1 .top).toList ((b.getD (0+a.toNat) .top).cells.getD 0 .top).toList ((b.getD (0+a.toNat) .top).cells.getD 1 .top).toList
def xh1 {T:Type} (c:Nat) (a i j:Int) (b:LA) (δ:T) (κl:(Int×Int×LA)→T) (κr:(Int×LA)→T):T:=br (decide (i<j)) (br (decide (0≤xc1 i j)&&decide (xc1 i j<(↑c:Int))) (br (decide (0+(xc1 i j).toNat<b.length)&&((xfv i j b).length==2&&hasShs [Sh.list 3,Sh.list 2] (xfv i j b) 0)) (br (decide (0≤a)&&decide (a<(↑c:Int))) (br (decide (0+a.toNat<b.length)&&((b.getD (0+a.toNat) .top).cells.length==2&&hasShs [Sh.list 3,Sh.list 2] (b.getD (0+a.toNat) .top).cells 0)) (br ((xla a i j b).isSome) (br (decide ((xla a i j b).getD 0<0)) (κl (i64.wrap (xc1 i j+1),j,b)) (κl (i,xc1 i j,b))) δ) δ) δ) δ) δ) (κr (i,b))
def xbG (c:Nat) (a:Int):(Int×Int×LA)→Option ((Int×Int×LA)⊕(Int×LA)):=fun (i,j,b)=>xh1 c a i j b none (fun s=>some (.inl s)) (fun p=>some (.inr p))
def xdc (c:Nat) (a:Int):(Int×Int×LA)→LA×List Box:=fun (i,j,b)=>([AV.osl 0 0 0 c,AV.int .i64 a,AV.func 93 [],AV.int .i64 i,AV.int .i64 j],[⟨0,2,83,b,false,true⟩])
def xcK (b:Nat) (a:Int):(Int×LA)→LR:=fun p=>(.leaf (.exit 0) [AV.osl 0 0 0 b,AV.int .i64 a,AV.int .i64 p.1] [⟨0,2,83,p.2,false,true⟩])
abbrev xrG (a:LA) (H:List Box):=XR Tryz.prog xd1 [0,1,4,10,11] [0,1,10] [] (loopAt Tryz.f142 0) a H
theorem xrP (b:Nat) (a:Int) (s:Int×Int×LA):Enc (encR (xdc b a) (xcK b a)) (xbG b a s) (xrG (xdc b a s).1 (xdc b a s).2):=by
 obtain ⟨i,j,c⟩:=s
 refine eV (xh1 b a i j c none (fun s=>some (encR (xdc b a) (xcK b a) (.inl s))) (fun p=>some (encR (xdc b a) (xcK b a) (.inr p)))) (by kernel_rfl) ?_;unfold xbG xh1;repeat' first|exact eN|exact eS rfl|apply eB
def xcc:Lp:=lpOf [0,1,4,10,11] [0,1,10] [] (pCons (pOsl 0 0 0) (pCons (pInt .i64) (pCons (pFunc 93 pNil) (pCons (pInt .i64) (pCons (pInt .i64) pNil))))) (pCons (pBox 0 2 83 false true pAny) pNil) fun (b,(a,(_,(i,(j,_))))) (c,_)=>((Iter (xbG b a) (i,j,c)).isSome,xcK b a ((Iter (xbG b a) (i,j,c)).getD (0,[])))
theorem xqt:LoopOk Tryz.prog (ITryz.at xd1.pin) xd1.nt (loopAt Tryz.f142 0) xcc:=xbm fun e f h g=>by
 obtain ⟨b,⟨a,⟨_,⟨i,⟨j,_⟩⟩⟩⟩⟩:=e
 obtain ⟨c,_⟩:=f
 obtain ⟨d,rfl⟩:=Prod.mk.inj g
 exact xa6 mxTryz (inv0Ok Tryz.prog _) rfl xqO xoH (xdc b a) (xcK b a) (fun p=>by simp only [xcK,LR.eval];first|(simp;done)|(repeat' split<;>simp)) (xrP b a) (s:=(i,j,c)) (xac d)
def xdR:Env:=xvX.fn 220 1 (lsOf [83]) (lpsOf [(3,xcc)])
theorem xq8:OrcOk Tryz.prog (ITryz.at 1) xdR:=xpN.fn
theorem xoo:LoOk Tryz.prog (ITryz.at xdR.pin) xdR (loopAt Tryz.f142 1):=xaD (by kernel_rfl)
def xk4 (a:Nat) (k:Int):=decide (0≤i64.wrap (k+1))&&decide (i64.wrap (k+1)<(↑a:Int))
def xfp (k:Int):Nat:=0+(i64.wrap (k+1)).toNat
def xkM (k:Int) (a:LA):=decide (0+k.toNat<a.length)
def xfh (k:Int) (a:LA):=(a.getD (xfp k) .top).cells
def xkQ (k:Int) (a:LA):=a.set (0+k.toNat) (AV.agg [AV.list 3 ((xfh k a).getD 0 .top).toList,AV.list 2 ((xfh k a).getD 1 .top).toList])
def xhY {T:Type} (b:Nat) (i k:Int) (a:LA) (δ:T) (κl:(Int×LA)→T) (κr:(LA)→T):T:=br (decide (k<i64.wrap (i - 1))) (br (xk4 b k) (br (decide (xfp k<a.length)&&((xfh k a).length==2&&hasShs [Sh.list 3,Sh.list 2] (xfh k a) 0)) (br (decide (0≤k)&&decide (k<(↑b:Int))) (br (xkM k a&&((a.getD (0+k.toNat) .top).cells.length==2&&hasShs [Sh.list 3,Sh.list 2] (a.getD (0+k.toNat) .top).cells 0)) (br (decide (0≤k)&&decide (k<(↑b:Int))) (br (xkM k a) (br (xk4 b k) (br (decide (xfp k<(xkQ k a).length)) (κl (i64.wrap (k+1),(xkQ k a).set (xfp k) (AV.agg [AV.list 3 ((a.getD (0+k.toNat) .top).cells.getD 0 .top).toList,AV.list 2 ((a.getD (0+k.toNat) .top).cells.getD 1 .top).toList]))) δ) δ) δ) δ) δ) δ) δ) δ) (κr (a))
def xcu (b:Nat) (i:Int):(Int×LA)→Option ((Int×LA)⊕(LA)):=fun (k,a)=>xhY b i k a none (fun s=>some (.inl s)) (fun p=>some (.inr p))
def xdj (b:Nat) (i:Int):(Int×LA)→LA×List Box:=fun (k,a)=>([AV.osl 0 0 0 b,AV.int .i64 i,AV.int .i64 k],[⟨0,2,83,a,false,true⟩])
def xcN (a:Nat) (i:Int):(LA)→LR:=fun p=>(.leaf (.exit 2) [] [⟨0,2,83,p,false,true⟩])
abbrev xr8 (a:LA) (H:List Box):=XR Tryz.prog xdR [0,10,13] [] [] (loopAt Tryz.f142 1) a H
theorem xr1 (a:Nat) (i:Int) (s:Int×LA):Enc (encR (xdj a i) (xcN a i)) (xcu a i s) (xr8 (xdj a i s).1 (xdj a i s).2):=by
 obtain ⟨k,b⟩:=s
 refine eV (xhY a i k b none (fun s=>some (encR (xdj a i) (xcN a i) (.inl s))) (fun p=>some (encR (xdj a i) (xcN a i) (.inr p)))) (by kernel_rfl) ?_;unfold xcu xhY;repeat' first|exact eN|exact eS rfl|apply eB
def xc3:Lp:=lpOf [0,10,13] [] [] (pCons (pOsl 0 0 0) (pCons (pInt .i64) (pCons (pInt .i64) pNil))) (pCons (pBox 0 2 83 false true pAny) pNil) fun (a,(i,(k,_))) (b,_)=>((Iter (xcu a i) (k,b)).isSome,xcN a i ((Iter (xcu a i) (k,b)).getD []))
theorem xqk:LoopOk Tryz.prog (ITryz.at xdR.pin) xdR.nt (loopAt Tryz.f142 1) xc3:=xbm fun d e g f=>by
 obtain ⟨a,⟨i,⟨k,_⟩⟩⟩:=d
 obtain ⟨b,_⟩:=e
 obtain ⟨c,rfl⟩:=Prod.mk.inj f
 exact xa6 mxTryz (inv0Ok Tryz.prog _) rfl xq8 xoo (xdj a i) (xcN a i) (fun p=>by simp only [xcN,LR.eval];first|(simp;done)|(repeat' split<;>simp)) (xr1 a i) (s:=(k,b)) (xac c)
def xdV:Env:=xvX.fn 220 1 (lsOf [83]) (lpsOf [(3,xcc),(9,xc3)])
theorem xqL:OrcOk Tryz.prog (ITryz.at 1) xdV:=xpN.fn
theorem xoG:LoOk Tryz.prog (ITryz.at xdV.pin) xdV (loopAt Tryz.f142 2):=xaD (by kernel_rfl)
def xc2 (i j:Int):=i64.wrap ((u64.wrap (i64.wrap (i+j))).fdiv 2)
def xfi (i j:Int) (a:LA):=(a.getD (0+(xc2 i j).toNat) .top).cells
def xkW (m i j:Int) (a:LA):=xdI ((a.getD (0+m.toNat) .top).cells.getD 0 .top).toList ((a.getD (0+m.toNat) .top).cells.getD 1 .top).toList ((xfi i j a).getD 0 .top).toList ((xfi i j a).getD 1 .top).toList
def xhT {T:Type} (b:Nat) (m i j:Int) (a:LA) (δ:T) (κl:(Int×Int×LA)→T) (κr:(Int×LA)→T):T:=br (decide (i<j)) (br (decide (0≤m)&&decide (m<(↑b:Int))) (br (decide (0+m.toNat<a.length)&&((a.getD (0+m.toNat) .top).cells.length==2&&hasShs [Sh.list 3,Sh.list 2] (a.getD (0+m.toNat) .top).cells 0)) (br (decide (0≤xc2 i j)&&decide (xc2 i j<(↑b:Int))) (br (decide (0+(xc2 i j).toNat<a.length)&&((xfi i j a).length==2&&hasShs [Sh.list 3,Sh.list 2] (xfi i j a) 0)) (br ((xkW m i j a).isSome) (br (!decide ((xkW m i j a).getD 0<0)) (κl (i64.wrap (xc2 i j+1),j,a)) (κl (i,xc2 i j,a))) δ) δ) δ) δ) δ) (κr (i,a))
def xbD (b:Nat) (m:Int):(Int×Int×LA)→Option ((Int×Int×LA)⊕(Int×LA)):=fun (i,j,a)=>xhT b m i j a none (fun s=>some (.inl s)) (fun p=>some (.inr p))
def xdh (b:Nat) (m:Int):(Int×Int×LA)→LA×List Box:=fun (i,j,a)=>([AV.osl 0 0 0 b,AV.int .i64 m,AV.func 93 [],AV.int .i64 i,AV.int .i64 j],[⟨0,2,83,a,false,true⟩])
def xcG (a:Nat) (m:Int):(Int×LA)→LR:=fun p=>(.leaf (.exit 4) [AV.osl 0 0 0 a,AV.int .i64 m,AV.int .i64 p.1] [⟨0,2,83,p.2,false,true⟩])
abbrev xrN (a:LA) (H:List Box):=XR Tryz.prog xdV [0,2,4,14,15] [0,2,14] [] (loopAt Tryz.f142 2) a H
theorem xrW (a:Nat) (m:Int) (s:Int×Int×LA):Enc (encR (xdh a m) (xcG a m)) (xbD a m s) (xrN (xdh a m s).1 (xdh a m s).2):=by
 obtain ⟨i,j,b⟩:=s
 refine eV (xhT a m i j b none (fun s=>some (encR (xdh a m) (xcG a m) (.inl s))) (fun p=>some (encR (xdh a m) (xcG a m) (.inr p)))) (by kernel_rfl) ?_;unfold xbD xhT;repeat' first|exact eN|exact eS rfl|apply eB
def xep:Lp:=lpOf [0,2,4,14,15] [0,2,14] [] (pCons (pOsl 0 0 0) (pCons (pInt .i64) (pCons (pFunc 93 pNil) (pCons (pInt .i64) (pCons (pInt .i64) pNil))))) (pCons (pBox 0 2 83 false true pAny) pNil) fun (a,(m,(_,(i,(j,_))))) (b,_)=>((Iter (xbD a m) (i,j,b)).isSome,xcG a m ((Iter (xbD a m) (i,j,b)).getD (0,[])))
theorem xqz:LoopOk Tryz.prog (ITryz.at xdV.pin) xdV.nt (loopAt Tryz.f142 2) xep:=xbm fun d e g f=>by
 obtain ⟨a,⟨m,⟨_,⟨i,⟨j,_⟩⟩⟩⟩⟩:=d
 obtain ⟨b,_⟩:=e
 obtain ⟨c,rfl⟩:=Prod.mk.inj f
 exact xa6 mxTryz (inv0Ok Tryz.prog _) rfl xqL xoG (xdh a m) (xcG a m) (fun p=>by simp only [xcG,LR.eval];first|(simp;done)|(repeat' split<;>simp)) (xrW a m) (s:=(i,j,b)) (xac c)
def xdZ:Env:=xvX.fn 220 1 (lsOf [83]) (lpsOf [(3,xcc),(9,xc3),(15,xep)])
theorem xrw:OrcOk Tryz.prog (ITryz.at 1) xdZ:=xpN.fn
theorem xn5:LoOk Tryz.prog (ITryz.at xdZ.pin) xdZ (loopAt Tryz.f142 3):=xaD (by kernel_rfl)
def xlh (a:Nat) (k:Int):=decide (0≤i64.wrap (k - 1))&&decide (i64.wrap (k - 1)<(↑a:Int))
def xfs (k:Int):Nat:=0+(i64.wrap (k - 1)).toNat
def xkY (k:Int) (a:LA):=decide (0+k.toNat<a.length)
def xfu (k:Int) (a:LA):=(a.getD (xfs k) .top).cells
def xlg (k:Int) (a:LA):=a.set (0+k.toNat) (AV.agg [AV.list 3 ((xfu k a).getD 0 .top).toList,AV.list 2 ((xfu k a).getD 1 .top).toList])
def xhR {T:Type} (b:Nat) (i k:Int) (a:LA) (δ:T) (κl:(Int×LA)→T) (κr:(LA)→T):T:=br (decide (k>i)) (br (xlh b k) (br (decide (xfs k<a.length)&&((xfu k a).length==2&&hasShs [Sh.list 3,Sh.list 2] (xfu k a) 0)) (br (decide (0≤k)&&decide (k<(↑b:Int))) (br (xkY k a&&((a.getD (0+k.toNat) .top).cells.length==2&&hasShs [Sh.list 3,Sh.list 2] (a.getD (0+k.toNat) .top).cells 0)) (br (decide (0≤k)&&decide (k<(↑b:Int))) (br (xkY k a) (br (xlh b k) (br (decide (xfs k<(xlg k a).length)) (κl (i64.wrap (k - 1),(xlg k a).set (xfs k) (AV.agg [AV.list 3 ((a.getD (0+k.toNat) .top).cells.getD 0 .top).toList,AV.list 2 ((a.getD (0+k.toNat) .top).cells.getD 1 .top).toList]))) δ) δ) δ) δ) δ) δ) δ) δ) (κr (a))
def xcs (b:Nat) (i:Int):(Int×LA)→Option ((Int×LA)⊕(LA)):=fun (k,a)=>xhR b i k a none (fun s=>some (.inl s)) (fun p=>some (.inr p))
def xdf (b:Nat) (i:Int):(Int×LA)→LA×List Box:=fun (k,a)=>([AV.osl 0 0 0 b,AV.int .i64 i,AV.int .i64 k],[⟨0,2,83,a,false,true⟩])
def xcO (a:Nat) (i:Int):(LA)→LR:=fun p=>(.leaf (.exit 6) [] [⟨0,2,83,p,false,true⟩])
abbrev xr6 (a:LA) (H:List Box):=XR Tryz.prog xdZ [0,14,17] [] [] (loopAt Tryz.f142 3) a H
theorem xr5 (a:Nat) (i:Int) (s:Int×LA):Enc (encR (xdf a i) (xcO a i)) (xcs a i s) (xr6 (xdf a i s).1 (xdf a i s).2):=by
 obtain ⟨k,b⟩:=s
 refine eV (xhR a i k b none (fun s=>some (encR (xdf a i) (xcO a i) (.inl s))) (fun p=>some (encR (xdf a i) (xcO a i) (.inr p)))) (by kernel_rfl) ?_;unfold xcs xhR;repeat' first|exact eN|exact eS rfl|apply eB
def xft:Lp:=lpOf [0,14,17] [] [] (pCons (pOsl 0 0 0) (pCons (pInt .i64) (pCons (pInt .i64) pNil))) (pCons (pBox 0 2 83 false true pAny) pNil) fun (a,(i,(k,_))) (b,_)=>((Iter (xcs a i) (k,b)).isSome,xcO a i ((Iter (xcs a i) (k,b)).getD []))
theorem xqq:LoopOk Tryz.prog (ITryz.at xdZ.pin) xdZ.nt (loopAt Tryz.f142 3) xft:=xbm fun d e g f=>by
 obtain ⟨a,⟨i,⟨k,_⟩⟩⟩:=d
 obtain ⟨b,_⟩:=e
 obtain ⟨c,rfl⟩:=Prod.mk.inj f
 exact xa6 mxTryz (inv0Ok Tryz.prog _) rfl xrw xn5 (xdf a i) (xcO a i) (fun p=>by simp only [xcO,LR.eval];first|(simp;done)|(repeat' split<;>simp)) (xr5 a i) (s:=(k,b)) (xac c)
def xdU:Env:=xvX.fn 220 1 (lsOf [83]) (lpsOf [(3,xcc),(9,xc3),(15,xep),(21,xft)])
theorem xrc:OrcOk Tryz.prog (ITryz.at 1) xdU:=xpN.fn
theorem xok:LoOk Tryz.prog (ITryz.at xdU.pin) xdU (loopAt Tryz.f142 4):=xaD (by kernel_rfl)
def xbl (a r:Int):=i64.wrap ((u64.wrap (i64.wrap (a+r))).fdiv 2)
def xfz (c b r:Int) (a:LA):=(a.getD (0+(i64.wrap (c - xbl b r)).toNat) .top).cells
def xfm (b r:Int) (a:LA):=(a.getD (0+(xbl b r).toNat) .top).cells
def xld (c b r:Int) (a:LA):=xdI ((xfz c b r a).getD 0 .top).toList ((xfz c b r a).getD 1 .top).toList ((xfm b r a).getD 0 .top).toList ((xfm b r a).getD 1 .top).toList
def xhV {T:Type} (e:Nat) (a m b g n f c r:Int) (d:LA) (δ:T) (κl:(Int×Int×LA)→T) (κr:(Int×LA)→T):T:=br (decide (c<r)) (br (decide (0≤i64.wrap (f - xbl c r))&&decide (i64.wrap (f - xbl c r)<(↑e:Int))) (br (decide (0+(i64.wrap (f - xbl c r)).toNat<d.length)&&((xfz f c r d).length==2&&hasShs [Sh.list 3,Sh.list 2] (xfz f c r d) 0)) (br (decide (0≤xbl c r)&&decide (xbl c r<(↑e:Int))) (br (decide (0+(xbl c r).toNat<d.length)&&((xfm c r d).length==2&&hasShs [Sh.list 3,Sh.list 2] (xfm c r d) 0)) (br ((xld f c r d).isSome) (br (!decide ((xld f c r d).getD 0<0)) (κl (i64.wrap (xbl c r+1),r,d)) (κl (c,xbl c r,d))) δ) δ) δ) δ) δ) (κr (c,d))
def xbW (d:Nat) (a m b f n g:Int):(Int×Int×LA)→Option ((Int×Int×LA)⊕(Int×LA)):=fun (e,r,c)=>xhV d a m b f n g e r c none (fun s=>some (.inl s)) (fun p=>some (.inr p))
def xdk (d:Nat) (a m b f n g:Int):(Int×Int×LA)→LA×List Box:=fun (e,r,c)=>([AV.osl 0 0 0 d,AV.int .i64 a,AV.int .i64 m,AV.int .i64 b,AV.func 93 [],AV.int .i64 f,AV.int .i64 n,AV.int .i64 e,AV.int .i64 r,AV.int .i64 g],[⟨0,2,83,c,false,true⟩])
def xcF (c:Nat) (a m b d n e:Int):(Int×LA)→LR:=fun p=>(.leaf (.exit 8) [AV.osl 0 0 0 c,AV.int .i64 a,AV.int .i64 m,AV.int .i64 b,AV.func 93 [],AV.int .i64 d,AV.int .i64 n,AV.int .i64 p.1] [⟨0,2,83,p.2,false,true⟩])
abbrev xrJ (a:LA) (H:List Box):=XR Tryz.prog xdU [0,1,2,3,4,18,19,20,21,22] [0,1,2,3,4,18,19,20] [] (loopAt Tryz.f142 4) a H
theorem xrY (c:Nat) (a m b d n e:Int) (s:Int×Int×LA):Enc (encR (xdk c a m b d n e) (xcF c a m b d n e)) (xbW c a m b d n e s) (xrJ (xdk c a m b d n e s).1 (xdk c a m b d n e s).2):=by
 obtain ⟨g,r,f⟩:=s
 refine eV (xhV c a m b d n e g r f none (fun s=>some (encR (xdk c a m b d n e) (xcF c a m b d n e) (.inl s))) (fun p=>some (encR (xdk c a m b d n e) (xcF c a m b d n e) (.inr p)))) (by kernel_rfl) ?_;unfold xbW xhV;repeat' first|exact eN|exact eS rfl|apply eB
def xhp:Lp:=lpOf [0,1,2,3,4,18,19,20,21,22] [0,1,2,3,4,18,19,20] [] (pCons (pOsl 0 0 0) (pCons (pInt .i64) (pCons (pInt .i64) (pCons (pInt .i64) (pCons (pFunc 93 pNil) (pCons (pInt .i64) (pCons (pInt .i64) (pCons (pInt .i64) (pCons (pInt .i64) (pCons (pInt .i64) pNil)))))))))) (pCons (pBox 0 2 83 false true pAny) pNil) fun (c,(a,(m,(b,(_,(f,(n,(e,(r,(g,_)))))))))) (d,_)=>((Iter (xbW c a m b f n g) (e,r,d)).isSome,xcF c a m b f n g ((Iter (xbW c a m b f n g) (e,r,d)).getD (0,[])))
theorem xqn:LoopOk Tryz.prog (ITryz.at xdU.pin) xdU.nt (loopAt Tryz.f142 4) xhp:=xbm fun i j l k=>by
 obtain ⟨c,⟨a,⟨m,⟨b,⟨_,⟨e,⟨n,⟨f,⟨r,⟨g,_⟩⟩⟩⟩⟩⟩⟩⟩⟩⟩:=i
 obtain ⟨d,_⟩:=j
 obtain ⟨h,rfl⟩:=Prod.mk.inj k
 exact xa6 mxTryz (inv0Ok Tryz.prog _) rfl xrc xok (xdk c a m b e n g) (xcF c a m b e n g) (fun p=>by simp only [xcF,LR.eval];first|(simp;done)|(repeat' split<;>simp)) (xrY c a m b e n g) (s:=(f,r,d)) (xac h)
def xhS (R:Nat→Int→Int→Int→LA→Option (LA)):LA→List Box→Option (Bool×AV×List Box):=omOf (sCons (sEq (pOsl 0 0 0)) (sCons (sEq (pInt .i64)) (sCons (sEq (pInt .i64)) (sCons (sEq (pInt .i64)) (sCons (sEq (pFunc (93:FuncId) pNil)) sNil))))) (pCons (pBox 0 2 (83:TypeId) false true pAny) pNil) fun (n,(a,(m,(b,(_,_))))) (c,_)=>((R n a m b c).isSome,(AV.tuple [],([⟨0,2,83,((R n a m b c).getD []),false,true⟩]:List Box)))
def xbv (R:Nat→Int→Int→Int→LA→Option (LA)):Env:=(xvX.withM 142 (xhS R)).fn 220 1 (lsOf [83]) (lpsOf [(3,xcc),(9,xc3),(15,xep),(21,xft),(33,xhp)])
def xhk (R:Nat→Int→Int→Int→LA→Option (LA)):Prop:=OmOk Tryz.prog ITryz 142 (xhS R)
theorem xrn (R:Nat→Int→Int→Int→LA→Option (LA)) (a:xhk R):OrcOk Tryz.prog (ITryz.at 1) (xbv R):=(xpN.withM a).fn
theorem xpu (R:Nat→Int→Int→Int→LA→Option (LA)):LoOk Tryz.prog (ITryz.at (xbv R).pin) (xbv R) (Tryz.f142.body.getD .skip):=xbe (ls:=[loopAt Tryz.f142 0,loopAt Tryz.f142 1,loopAt Tryz.f142 2,loopAt Tryz.f142 3,loopAt Tryz.f142 4]) (by kernel_rfl) (fun l b lp a=>by
 simp only [List.mem_cons,List.not_mem_nil,or_false] at b
 rcases b with rfl|rfl|rfl|rfl|rfl
 · rw [show (xbv R).lp (codeId (loopAt Tryz.f142 0))=some xcc by kernel_rfl] at a
   simp only [Option.some.injEq] at a;subst a;exact xqt
 · rw [show (xbv R).lp (codeId (loopAt Tryz.f142 1))=some xc3 by kernel_rfl] at a
   simp only [Option.some.injEq] at a;subst a;exact xqk
 · rw [show (xbv R).lp (codeId (loopAt Tryz.f142 2))=some xep by kernel_rfl] at a
   simp only [Option.some.injEq] at a;subst a;exact xqz
 · rw [show (xbv R).lp (codeId (loopAt Tryz.f142 3))=some xft by kernel_rfl] at a
   simp only [Option.some.injEq] at a;subst a;exact xqq
 · rw [show (xbv R).lp (codeId (loopAt Tryz.f142 4))=some xhp by kernel_rfl] at a
   simp only [Option.some.injEq] at a;subst a;exact xqn)
def xab (a b:Int):=i64.wrap ((u64.wrap (i64.wrap (a+b))).fdiv 2)
def xaW (n:Nat) (a m:Int) (b:LA):=Iter (xcs n ((Iter (xbD n m) (a,m,b)).getD (0,[])).fst) (m,((Iter (xbD n m) (a,m,b)).getD (0,[])).snd)
def xaT (n:Nat) (a m b:Int) (c:LA):=Iter (xcu n ((Iter (xbG n a) (m,b,c)).getD (0,[])).fst) (a,((Iter (xbG n a) (m,b,c)).getD (0,[])).snd)
def xaX (n:Nat) (a m b:Int) (c:LA):=Iter (xbW n a m b (xab a b) (i64.wrap (xab a b+m)) (i64.wrap (i64.wrap (xab a b+m) - 1))) (i64.wrap (i64.wrap (xab a b+m) - b),xab a b,c)
def xaS (n:Nat) (a m b:Int) (c:LA):=Iter (xbW n a m b (xab a b) (i64.wrap (xab a b+m)) (i64.wrap (i64.wrap (xab a b+m) - 1))) (a,m,c)
def xax (n:Nat) (a m b:Int) (c:LA):=(xaX n a m b c).getD (0,[])
def xa0 (n:Nat) (a m b:Int) (c:LA):=(xaS n a m b c).getD (0,[])
def xal (n:Nat) (a m b:Int) (c:LA):=(xax n a m b c).fst
def xan (n:Nat) (a m b:Int) (c:LA):=(xa0 n a m b c).fst
def xad (n:Nat) (a m b:Int) (c:LA):=(xax n a m b c).snd
def xag (n:Nat) (a m b:Int) (c:LA):=(xa0 n a m b c).snd
def xak (n:Nat) (a m b:Int) (c:LA):=i64.wrap (i64.wrap (xab a b+m) - xal n a m b c)
def xai (n:Nat) (a m b:Int) (c:LA):=i64.wrap (i64.wrap (xab a b+m) - xan n a m b c)
def xaE (n:Nat) (a m b:Int) (c:LA):=decide (xal n a m b c<xab a b)
def xaF (n:Nat) (a m b:Int) (c:LA):=decide (a<xal n a m b c)
def xaL (n:Nat) (a m b:Int) (c:LA):=decide (xan n a m b c<xab a b)
def xaK (n:Nat) (a m b:Int) (c:LA):=decide (a<xan n a m b c)
def xaw (n:Nat) (a m b:Int) (c:LA):=decide (xab a b<xak n a m b c)
def xaB (n:Nat) (a m b:Int) (c:LA):=decide (xak n a m b c<b)
def xaA (n:Nat) (a m b:Int) (c:LA):=decide (xab a b<xai n a m b c)
def xay (n:Nat) (a m b:Int) (c:LA):=decide (xai n a m b c<b)
def xaq (n:Nat) (a m b:Int) (c:LA):=(xbP n (xal n a m b c) m (xak n a m b c) (xad n a m b c)).getD []
def xas (n:Nat) (a m b:Int) (c:LA):=(xbP n (xan n a m b c) m (xai n a m b c) (xag n a m b c)).getD []
def xa3 (R:Nat→Int→Int→Int→LA→Option (LA)) (n:Nat) (a m b:Int) (c:LA):Option (LA):=R n (xab a b) (xak n a m b c) b ((R n a (xal n a m b c) (xab a b) (xaq n a m b c)).getD [])
def xaP (R:Nat→Int→Int→Int→LA→Option (LA)) (n:Nat) (a m b:Int) (c:LA):Option (LA):=R n (xab a b) (xai n a m b c) b ((R n a (xan n a m b c) (xab a b) (xas n a m b c)).getD [])
def xa5 {T:Type} (R:Nat→Int→Int→Int→LA→Option (LA)) (n:Nat) (a m b:Int) (c:LA) (δ:T) (κ:LA→T):T:=br (i64.wrap (m - a)==1) (br ((Iter (xbG n a) (m,b,c)).isSome) (br ((xaT n a m b c).isSome) (κ ((xaT n a m b c).getD [])) δ) δ) (br (i64.wrap (b - m)==1) (br ((Iter (xbD n m) (a,m,c)).isSome) (br ((xaW n a m c).isSome) (κ ((xaW n a m c).getD [])) δ) δ) (br (decide (m>xab a b)) (br ((xaX n a m b c).isSome) (br (decide (xal n a m b c<m)) (br (decide (m<xak n a m b c)) (br ((xbP n (xal n a m b c) m (xak n a m b c) (xad n a m b c)).isSome) (br (xaF n a m b c) (br (xaE n a m b c) (br ((R n a (xal n a m b c) (xab a b) (xaq n a m b c)).isSome) (br (xaw n a m b c) (br (xaB n a m b c) (br ((xa3 R n a m b c).isSome) (κ ((xa3 R n a m b c).getD [])) δ) (κ ((R n a (xal n a m b c) (xab a b) (xaq n a m b c)).getD []))) (κ ((R n a (xal n a m b c) (xab a b) (xaq n a m b c)).getD []))) δ) (br (xaw n a m b c) (br (xaB n a m b c) (br ((R n (xab a b) (xak n a m b c) b (xaq n a m b c)).isSome) (κ ((R n (xab a b) (xak n a m b c) b (xaq n a m b c)).getD [])) δ) (κ (xaq n a m b c))) (κ (xaq n a m b c)))) (br (xaw n a m b c) (br (xaB n a m b c) (br ((R n (xab a b) (xak n a m b c) b (xaq n a m b c)).isSome) (κ ((R n (xab a b) (xak n a m b c) b (xaq n a m b c)).getD [])) δ) (κ (xaq n a m b c))) (κ (xaq n a m b c)))) δ) (br (xaF n a m b c) (br (xaE n a m b c) (br ((R n a (xal n a m b c) (xab a b) (xad n a m b c)).isSome) (br (xaw n a m b c) (br (xaB n a m b c) (br ((R n (xab a b) (xak n a m b c) b ((R n a (xal n a m b c) (xab a b) (xad n a m b c)).getD [])).isSome) (κ ((R n (xab a b) (xak n a m b c) b ((R n a (xal n a m b c) (xab a b) (xad n a m b c)).getD [])).getD [])) δ) (κ ((R n a (xal n a m b c) (xab a b) (xad n a m b c)).getD []))) (κ ((R n a (xal n a m b c) (xab a b) (xad n a m b c)).getD []))) δ) (br (xaw n a m b c) (br (xaB n a m b c) (br ((R n (xab a b) (xak n a m b c) b (xad n a m b c)).isSome) (κ ((R n (xab a b) (xak n a m b c) b (xad n a m b c)).getD [])) δ) (κ (xad n a m b c))) (κ (xad n a m b c)))) (br (xaw n a m b c) (br (xaB n a m b c) (br ((R n (xab a b) (xak n a m b c) b (xad n a m b c)).isSome) (κ ((R n (xab a b) (xak n a m b c) b (xad n a m b c)).getD [])) δ) (κ (xad n a m b c))) (κ (xad n a m b c))))) (br (xaF n a m b c) (br (xaE n a m b c) (br ((R n a (xal n a m b c) (xab a b) (xad n a m b c)).isSome) (br (xaw n a m b c) (br (xaB n a m b c) (br ((R n (xab a b) (xak n a m b c) b ((R n a (xal n a m b c) (xab a b) (xad n a m b c)).getD [])).isSome) (κ ((R n (xab a b) (xak n a m b c) b ((R n a (xal n a m b c) (xab a b) (xad n a m b c)).getD [])).getD [])) δ) (κ ((R n a (xal n a m b c) (xab a b) (xad n a m b c)).getD []))) (κ ((R n a (xal n a m b c) (xab a b) (xad n a m b c)).getD []))) δ) (br (xaw n a m b c) (br (xaB n a m b c) (br ((R n (xab a b) (xak n a m b c) b (xad n a m b c)).isSome) (κ ((R n (xab a b) (xak n a m b c) b (xad n a m b c)).getD [])) δ) (κ (xad n a m b c))) (κ (xad n a m b c)))) (br (xaw n a m b c) (br (xaB n a m b c) (br ((R n (xab a b) (xak n a m b c) b (xad n a m b c)).isSome) (κ ((R n (xab a b) (xak n a m b c) b (xad n a m b c)).getD [])) δ) (κ (xad n a m b c))) (κ (xad n a m b c))))) δ) (br ((xaS n a m b c).isSome) (br (decide (xan n a m b c<m)) (br (decide (m<xai n a m b c)) (br ((xbP n (xan n a m b c) m (xai n a m b c) (xag n a m b c)).isSome) (br (xaK n a m b c) (br (xaL n a m b c) (br ((R n a (xan n a m b c) (xab a b) (xas n a m b c)).isSome) (br (xaA n a m b c) (br (xay n a m b c) (br ((xaP R n a m b c).isSome) (κ ((xaP R n a m b c).getD [])) δ) (κ ((R n a (xan n a m b c) (xab a b) (xas n a m b c)).getD []))) (κ ((R n a (xan n a m b c) (xab a b) (xas n a m b c)).getD []))) δ) (br (xaA n a m b c) (br (xay n a m b c) (br ((R n (xab a b) (xai n a m b c) b (xas n a m b c)).isSome) (κ ((R n (xab a b) (xai n a m b c) b (xas n a m b c)).getD [])) δ) (κ (xas n a m b c))) (κ (xas n a m b c)))) (br (xaA n a m b c) (br (xay n a m b c) (br ((R n (xab a b) (xai n a m b c) b (xas n a m b c)).isSome) (κ ((R n (xab a b) (xai n a m b c) b (xas n a m b c)).getD [])) δ) (κ (xas n a m b c))) (κ (xas n a m b c)))) δ) (br (xaK n a m b c) (br (xaL n a m b c) (br ((R n a (xan n a m b c) (xab a b) (xag n a m b c)).isSome) (br (xaA n a m b c) (br (xay n a m b c) (br ((R n (xab a b) (xai n a m b c) b ((R n a (xan n a m b c) (xab a b) (xag n a m b c)).getD [])).isSome) (κ ((R n (xab a b) (xai n a m b c) b ((R n a (xan n a m b c) (xab a b) (xag n a m b c)).getD [])).getD [])) δ) (κ ((R n a (xan n a m b c) (xab a b) (xag n a m b c)).getD []))) (κ ((R n a (xan n a m b c) (xab a b) (xag n a m b c)).getD []))) δ) (br (xaA n a m b c) (br (xay n a m b c) (br ((R n (xab a b) (xai n a m b c) b (xag n a m b c)).isSome) (κ ((R n (xab a b) (xai n a m b c) b (xag n a m b c)).getD [])) δ) (κ (xag n a m b c))) (κ (xag n a m b c)))) (br (xaA n a m b c) (br (xay n a m b c) (br ((R n (xab a b) (xai n a m b c) b (xag n a m b c)).isSome) (κ ((R n (xab a b) (xai n a m b c) b (xag n a m b c)).getD [])) δ) (κ (xag n a m b c))) (κ (xag n a m b c))))) (br (xaK n a m b c) (br (xaL n a m b c) (br ((R n a (xan n a m b c) (xab a b) (xag n a m b c)).isSome) (br (xaA n a m b c) (br (xay n a m b c) (br ((R n (xab a b) (xai n a m b c) b ((R n a (xan n a m b c) (xab a b) (xag n a m b c)).getD [])).isSome) (κ ((R n (xab a b) (xai n a m b c) b ((R n a (xan n a m b c) (xab a b) (xag n a m b c)).getD [])).getD [])) δ) (κ ((R n a (xan n a m b c) (xab a b) (xag n a m b c)).getD []))) (κ ((R n a (xan n a m b c) (xab a b) (xag n a m b c)).getD []))) δ) (br (xaA n a m b c) (br (xay n a m b c) (br ((R n (xab a b) (xai n a m b c) b (xag n a m b c)).isSome) (κ ((R n (xab a b) (xai n a m b c) b (xag n a m b c)).getD [])) δ) (κ (xag n a m b c))) (κ (xag n a m b c)))) (br (xaA n a m b c) (br (xay n a m b c) (br ((R n (xab a b) (xai n a m b c) b (xag n a m b c)).isSome) (κ ((R n (xab a b) (xai n a m b c) b (xag n a m b c)).getD [])) δ) (κ (xag n a m b c))) (κ (xag n a m b c))))) δ)))
def xaN (R:Nat→Int→Int→Int→LA→Option (LA)) (n:Nat) (a m b:Int) (c:LA):Option (LA):=xa5 R n a m b c none some
theorem xtM (R:Nat→Int→Int→Int→LA→Option (LA)) (n:Nat) (a m b:Int) (xs:LA):Enc (fun (p:LA)=>(((AV.tuple [],([⟨0,2,83,p,false,true⟩]:List Box))):(AV×List Box))) (xaN R n a m b xs) (XFM Tryz.prog (xbv R) Tryz.f142 (Tryz.f142.body.getD .skip) [AV.osl (0:Id) 0 0 n,AV.int .i64 a,AV.int .i64 m,AV.int .i64 b,AV.func (93:FuncId) []] [{ ver:=0,sz:=2,ty:=(83:TypeId),xs:=xs,frz:=false,pm:=true }]):=by
 refine eV (xa5 R n a m b xs none (fun (p:LA)=>some (((AV.tuple [],([⟨0,2,83,p,false,true⟩]:List Box))):(AV×List Box)))) (by kernel_rfl) ?_;unfold xaN xa5;repeat' first|exact eN|exact eS rfl|apply eB
def xtL (R:Nat→Int→Int→Int→LA→Option (LA)):LA→List Box→Option (Bool×AV×List Box):=omOf (sCons (sEq (pOsl 0 0 0)) (sCons (sEq (pInt .i64)) (sCons (sEq (pInt .i64)) (sCons (sEq (pInt .i64)) (sCons (sEq (pFunc (93:FuncId) pNil)) sNil))))) (pCons (pBox 0 2 (83:TypeId) false true pAny) pNil) fun (n,(a,(m,(b,(_,_))))) (c,_)=>((xaN R n a m b c).isSome,((AV.tuple [],([⟨0,2,83,((xaN R n a m b c).getD []),false,true⟩]:List Box))))
theorem xtC (R:Nat→Int→Int→Int→LA→Option (LA)) (f:xhk R):OmOk Tryz.prog ITryz 142 (xtL R):=xeQ fun g h k j i=>by
 obtain ⟨n,⟨a,⟨m,⟨b,⟨_,_⟩⟩⟩⟩⟩:=g
 obtain ⟨l,_⟩:=h
 obtain ⟨c,e⟩:=Prod.mk.inj i
 refine xdE (p:=(xbv R).pin) (xd4 mxTryz (inv0Ok Tryz.prog _) rfl (xrn R f) rfl Tryz.func142 rfl (by kernel_rfl) (xpu R) ((xtM R _ _ _ _ _ _ (xac (d:=[]) c)).trans ?_))
 exact congrArg some e
def xbi:Nat→Nat→Int→Int→Int→LA→Option (LA)
 | 0=>fun _ _ _ _ _=>none
 | fu_+1=>fun n a m b c=>xaN (xbi fu_) n a m b c
theorem xly:∀ n,xhk (xbi n)
 | 0=>xeQ fun _ _ _ _ h=>absurd (Prod.mk.inj h).1 Bool.false_ne_true
 | fu_+1=>fun a H r b h=>xtC (xbi fu_) (xly fu_) a H r b h
def xBq:Env:=xvX.withM 142 (xhS (xbi 1000))
theorem xu2:OrcOk Tryz.prog ITryz xBq:=xpN.withM (xly _)
def xey:Env:=xBq.fn 63 1 (lsOf [83]) (lpsOf [])
theorem xsm:OrcOk Tryz.prog (ITryz.at 1) xey:=xu2.fn
theorem xpf:LoOk Tryz.prog (ITryz.at xey.pin) xey (loopAt Tryz.f119 0):=xaD (by kernel_rfl)
def xiz {T:Type} (d:Nat) (n e a b:Int) (c:LA) (δ:T) (κl:(Int×Int×LA)→T) (κr:(Int×LA)→T):T:=br (decide (b≤n)) (br ((xbr d a b c).isSome) (κl (b,i64.wrap (b+e),(xbr d a b c).getD [])) δ) (κr (a,c))
def xbL (e:Nat) (n c:Int):(Int×Int×LA)→Option ((Int×Int×LA)⊕(Int×LA)):=fun (a,b,d)=>xiz e n c a b d none (fun s=>some (.inl s)) (fun p=>some (.inr p))
def xd3 (e:Nat) (n c:Int):(Int×Int×LA)→LA×List Box:=fun (a,b,d)=>([AV.osl 0 0 0 e,AV.int .i64 n,AV.func 93 [],AV.int .i64 c,AV.int .i64 a,AV.int .i64 b],[⟨0,2,83,d,false,true⟩])
def xdm (b:Nat) (n a:Int):(Int×LA)→LR:=fun p=>(.leaf (.exit 0) [AV.osl 0 0 0 b,AV.int .i64 n,AV.func 93 [],AV.int .i64 a,AV.int .i64 p.1] [⟨0,2,83,p.2,false,true⟩])
abbrev xs5 (a:LA) (H:List Box):=XR Tryz.prog xey [0,1,2,6,7,8] [0,1,2,6,7] [] (loopAt Tryz.f119 0) a H
theorem xs6 (d:Nat) (n c:Int) (s:Int×Int×LA):Enc (encR (xd3 d n c) (xdm d n c)) (xbL d n c s) (xs5 (xd3 d n c s).1 (xd3 d n c s).2):=by
 obtain ⟨a,b,e⟩:=s
 refine eV (xiz d n c a b e none (fun s=>some (encR (xd3 d n c) (xdm d n c) (.inl s))) (fun p=>some (encR (xd3 d n c) (xdm d n c) (.inr p)))) (by kernel_rfl) ?_;unfold xbL xiz;repeat' first|exact eN|exact eS rfl|apply eB
def xfZ:Lp:=lpOf [0,1,2,6,7,8] [0,1,2,6,7] [] (pCons (pOsl 0 0 0) (pCons (pInt .i64) (pCons (pFunc 93 pNil) (pCons (pInt .i64) (pCons (pInt .i64) (pCons (pInt .i64) pNil)))))) (pCons (pBox 0 2 83 false true pAny) pNil) fun (d,(n,(_,(c,(a,(b,_)))))) (e,_)=>((Iter (xbL d n c) (a,b,e)).isSome,xdm d n c ((Iter (xbL d n c) (a,b,e)).getD (0,[])))
theorem xrK:LoopOk Tryz.prog (ITryz.at xey.pin) xey.nt (loopAt Tryz.f119 0) xfZ:=xbm fun g h j i=>by
 obtain ⟨d,⟨n,⟨_,⟨c,⟨a,⟨b,_⟩⟩⟩⟩⟩⟩:=g
 obtain ⟨e,_⟩:=h
 obtain ⟨f,rfl⟩:=Prod.mk.inj i
 exact xa6 mxTryz (inv0Ok Tryz.prog _) rfl xsm xpf (xd3 d n c) (xdm d n c) (fun p=>by simp only [xdm,LR.eval];first|(simp;done)|(repeat' split<;>simp)) (xs6 d n c) (s:=(a,b,e)) (xac f)
def xez:Env:=xBq.fn 63 1 (lsOf [83]) (lpsOf [(2,xfZ)])
theorem xsu:OrcOk Tryz.prog (ITryz.at 1) xez:=xu2.fn
theorem xpk:LoOk Tryz.prog (ITryz.at xez.pin) xez (loopAt Tryz.f119 2):=xaD (by kernel_rfl)
def xiA {T:Type} (e:Nat) (n c a b:Int) (d:LA) (δ:T) (κl:(Int×Int×LA)→T) (κr:(Int×LA)→T):T:=br (decide (b≤n)) (br ((xbi 1000 e a (i64.wrap (a+c)) b d).isSome) (κl (b,i64.wrap (b+i64.wrap (2*c)),(xbi 1000 e a (i64.wrap (a+c)) b d).getD [])) δ) (κr (a,d))
def xce (e:Nat) (n c:Int):(Int×Int×LA)→Option ((Int×Int×LA)⊕(Int×LA)):=fun (a,b,d)=>xiA e n c a b d none (fun s=>some (.inl s)) (fun p=>some (.inr p))
def xdx (e:Nat) (n c:Int):(Int×Int×LA)→LA×List Box:=fun (a,b,d)=>([AV.osl 0 0 0 e,AV.int .i64 n,AV.func 93 [],AV.int .i64 c,AV.int .i64 a,AV.int .i64 b],[⟨0,2,83,d,false,true⟩])
def xdt (b:Nat) (n a:Int):(Int×LA)→LR:=fun p=>(.leaf (.exit 4) [AV.osl 0 0 0 b,AV.int .i64 n,AV.func 93 [],AV.int .i64 a,AV.int .i64 p.1] [⟨0,2,83,p.2,false,true⟩])
abbrev xtc (a:LA) (H:List Box):=XR Tryz.prog xez [0,1,2,6,7,8] [0,1,2,6,7] [] (loopAt Tryz.f119 2) a H
theorem xtz (d:Nat) (n c:Int) (s:Int×Int×LA):Enc (encR (xdx d n c) (xdt d n c)) (xce d n c s) (xtc (xdx d n c s).1 (xdx d n c s).2):=by
 obtain ⟨a,b,e⟩:=s
 refine eV (xiA d n c a b e none (fun s=>some (encR (xdx d n c) (xdt d n c) (.inl s))) (fun p=>some (encR (xdx d n c) (xdt d n c) (.inr p)))) (by kernel_rfl) ?_;unfold xce xiA;repeat' first|exact eN|exact eS rfl|apply eB
def xig:Lp:=lpOf [0,1,2,6,7,8] [0,1,2,6,7] [] (pCons (pOsl 0 0 0) (pCons (pInt .i64) (pCons (pFunc 93 pNil) (pCons (pInt .i64) (pCons (pInt .i64) (pCons (pInt .i64) pNil)))))) (pCons (pBox 0 2 83 false true pAny) pNil) fun (d,(n,(_,(c,(a,(b,_)))))) (e,_)=>((Iter (xce d n c) (a,b,e)).isSome,xdt d n c ((Iter (xce d n c) (a,b,e)).getD (0,[])))
theorem xlB:LoopOk Tryz.prog (ITryz.at xez.pin) xez.nt (loopAt Tryz.f119 2) xig:=xbm fun g h j i=>by
 obtain ⟨d,⟨n,⟨_,⟨c,⟨a,⟨b,_⟩⟩⟩⟩⟩⟩:=g
 obtain ⟨e,_⟩:=h
 obtain ⟨f,rfl⟩:=Prod.mk.inj i
 exact xa6 mxTryz (inv0Ok Tryz.prog _) rfl xsu xpk (xdx d n c) (xdt d n c) (fun p=>by simp only [xdt,LR.eval];first|(simp;done)|(repeat' split<;>simp)) (xtz d n c) (s:=(a,b,e)) (xac f)
def xev:Env:=xBq.fn 63 1 (lsOf [83]) (lpsOf [(2,xfZ),(9,xig)])
theorem xsG:OrcOk Tryz.prog (ITryz.at 1) xev:=xu2.fn
theorem xpj:LoOk Tryz.prog (ITryz.at xev.pin) xev (loopAt Tryz.f119 1):=xbe (ls:=[loopAt Tryz.f119 2]) (by kernel_rfl) (lkC xlB lkN)
def xf7 (c:Nat) (n a:Int) (b:LA):=Iter (xce c n a) (0,i64.wrap (2*a),b)
def xga (c:Nat) (n a:Int) (b:LA):=(xf7 c n a b).getD (0,[])
def xf0 (c:Nat) (n a:Int) (b:LA):=(xga c n a b).snd
def xgc (c:Nat) (n a:Int) (b:LA):=(xga c n a b).fst
def xfX (c:Nat) (n a:Int) (b:LA):=i64.wrap (xgc c n a b+a)
def xf8 (b:Nat) (n a:Int) (c:LA):=xbi 1000 b (xgc b n a c) (xfX b n a c) n (xf0 b n a c)
def xd6 {T:Type} (c:Nat) (n a:Int) (b:LA) (δ:T) (κl:(Int×LA)→T) (κr:(LA)→T):T:=br (decide (a<n)) (br ((xf7 c n a b).isSome) (br (decide (xfX c n a b<n)) (br ((xf8 c n a b).isSome) (κl (i64.wrap (a*2),(xf8 c n a b).getD [])) δ) (κl (i64.wrap (a*2),xf0 c n a b))) δ) (κr (b))
def xbk (c:Nat) (n:Int):(Int×LA)→Option ((Int×LA)⊕(LA)):=fun (a,b)=>xd6 c n a b none (fun s=>some (.inl s)) (fun p=>some (.inr p))
def xd5 (c:Nat) (n:Int):(Int×LA)→LA×List Box:=fun (a,b)=>([AV.osl 0 0 0 c,AV.int .i64 n,AV.func 93 [],AV.int .i64 a],[⟨0,2,83,b,false,true⟩])
def xds (a:Nat) (n:Int):(LA)→LR:=fun p=>(.leaf (.exit 2) [] [⟨0,2,83,p,false,true⟩])
abbrev xtf (a:LA) (H:List Box):=XR Tryz.prog xev [0,1,2,6] [] [] (loopAt Tryz.f119 1) a H
theorem xtt (a:Nat) (n:Int) (s:Int×LA):Enc (encR (xd5 a n) (xds a n)) (xbk a n s) (xtf (xd5 a n s).1 (xd5 a n s).2):=by
 obtain ⟨b,c⟩:=s
 refine eV (xd6 a n b c none (fun s=>some (encR (xd5 a n) (xds a n) (.inl s))) (fun p=>some (encR (xd5 a n) (xds a n) (.inr p)))) (by kernel_rfl) ?_;unfold xbk xd6;repeat' first|exact eN|exact eS rfl|apply eB
def xl1:Lp:=lpOf [0,1,2,6] [] [] (pCons (pOsl 0 0 0) (pCons (pInt .i64) (pCons (pFunc 93 pNil) (pCons (pInt .i64) pNil)))) (pCons (pBox 0 2 83 false true pAny) pNil) fun (b,(n,(_,(a,_)))) (c,_)=>((Iter (xbk b n) (a,c)).isSome,xds b n ((Iter (xbk b n) (a,c)).getD []))
theorem xr9:LoopOk Tryz.prog (ITryz.at xev.pin) xev.nt (loopAt Tryz.f119 1) xl1:=xbm fun e f h g=>by
 obtain ⟨a,⟨n,⟨_,⟨b,_⟩⟩⟩⟩:=e
 obtain ⟨c,_⟩:=f
 obtain ⟨d,rfl⟩:=Prod.mk.inj g
 exact xa6 mxTryz (inv0Ok Tryz.prog _) rfl xsG xpj (xd5 a n) (xds a n) (fun p=>by simp only [xds,LR.eval];first|(simp;done)|(repeat' split<;>simp)) (xtt a n) (s:=(b,c)) (xac d)
def xfy:Env:=xBq.fn 63 1 (lsOf [83]) (lpsOf [(2,xfZ),(9,xig),(7,xl1)])
theorem xsq:OrcOk Tryz.prog (ITryz.at 1) xfy:=xu2.fn
theorem xqE:LoOk Tryz.prog (ITryz.at xfy.pin) xfy (Tryz.f119.body.getD .skip):=xbe (ls:=[loopAt Tryz.f119 0,loopAt Tryz.f119 1,loopAt Tryz.f119 2]) (by kernel_rfl) (lkC xrK (lkC xr9 (lkC xlB lkN)))
def xjs (n:Nat) (k:Int) (a:LA):=(Iter (xbL n k 20) (0,20,a)).getD (0,[])
def xjr (n:Nat) (k:Int) (a:LA):=xbr n (xjs n k a).fst k (xjs n k a).snd
def xjw (n:Nat) (k:Int) (a:LA):=Iter (xbk n k) (20,(xjr n k a).getD [])
def xhc {T:Type} (n:Nat) (k:Int) (a:LA) (δ:T) (κ:LA→T):T:=br ((Iter (xbL n k 20) (0,20,a)).isSome) (br ((xjr n k a).isSome) (br ((xjw n k a).isSome) (κ ((xjw n k a).getD [])) δ) δ) δ
def xdG (n:Nat) (k:Int) (a:LA):Option (LA):=xhc n k a none some
theorem xuv (n:Nat) (k:Int) (xs:LA):Enc (fun (p:LA)=>(((AV.tuple [],([⟨0,2,83,p,false,true⟩]:List Box))):(AV×List Box))) (xdG n k xs) (XFM Tryz.prog xfy Tryz.f119 (Tryz.f119.body.getD .skip) [AV.osl (0:Id) 0 0 n,AV.int .i64 k,AV.func (93:FuncId) []] [{ ver:=0,sz:=2,ty:=(83:TypeId),xs:=xs,frz:=false,pm:=true }]):=by
 refine eV (xhc n k xs none (fun (p:LA)=>some (((AV.tuple [],([⟨0,2,83,p,false,true⟩]:List Box))):(AV×List Box)))) (by kernel_rfl) ?_;unfold xdG xhc;repeat' first|exact eN|exact eS rfl|apply eB
def xn4:LA→List Box→Option (Bool×AV×List Box):=omOf (sCons (sEq (pOsl 0 0 0)) (sCons (sEq (pInt .i64)) (sCons (sEq (pFunc (93:FuncId) pNil)) sNil))) (pCons (pBox 0 2 (83:TypeId) false true pAny) pNil) fun (n,(k,(_,_))) (a,_)=>((xdG n k a).isSome,((AV.tuple [],([⟨0,2,83,((xdG n k a).getD []),false,true⟩]:List Box))))
theorem xun:OmOk Tryz.prog ITryz 119 (xn4):=xeQ fun c e h g f=>by
 obtain ⟨n,⟨k,⟨_,_⟩⟩⟩:=c
 obtain ⟨i,_⟩:=e
 obtain ⟨a,b⟩:=Prod.mk.inj f
 refine xdE (p:=xfy.pin) (xd4 mxTryz (inv0Ok Tryz.prog _) rfl xsq rfl Tryz.func119 rfl (by kernel_rfl) xqE ((xuv _ _ _ _ (xac (d:=[]) a)).trans ?_))
 exact congrArg some b
def xKU:Env:=xBq.withM 119 xn4
theorem xHw:OrcOk Tryz.prog ITryz xKU:=xu2.withM xun
def xe5:Env:=xKU.fn 9 1 (lsOf [83]) (lpsOf [])
theorem xr2:OrcOk Tryz.prog (ITryz.at 1) xe5:=xHw.fn
theorem xqj:LoOk Tryz.prog (ITryz.at xe5.pin) xe5 (Tryz.f92.body.getD .skip):=xaD (by kernel_rfl)
def xha {T:Type} (n:Nat) (a:LA) (δ:T) (κ:LA→T):T:=br ((xdG n (↑n:Int) a).isSome) (κ ((xdG n (↑n:Int) a).getD [])) δ
def xeh (n:Nat) (a:LA):Option (LA):=xha n a none some
theorem xt3 (n:Nat) (xs:LA):Enc (fun (p:LA)=>(((AV.tuple [],([⟨0,2,83,p,false,true⟩]:List Box))):(AV×List Box))) (xeh n xs) (XFM Tryz.prog xe5 Tryz.f92 (Tryz.f92.body.getD .skip) [AV.osl (0:Id) 0 0 n,AV.func (93:FuncId) []] [{ ver:=0,sz:=2,ty:=(83:TypeId),xs:=xs,frz:=false,pm:=true }]):=by
 refine eV (xha n xs none (fun (p:LA)=>some (((AV.tuple [],([⟨0,2,83,p,false,true⟩]:List Box))):(AV×List Box)))) (by kernel_rfl) ?_;unfold xeh xha;repeat' first|exact eN|exact eS rfl|apply eB
def xne:LA→List Box→Option (Bool×AV×List Box):=omOf (sCons (sEq (pOsl 0 0 0)) (sCons (sEq (pFunc (93:FuncId) pNil)) sNil)) (pCons (pBox 0 2 (83:TypeId) false true pAny) pNil) fun (n,(_,_)) (a,_)=>((xeh n a).isSome,((AV.tuple [],([⟨0,2,83,((xeh n a).getD []),false,true⟩]:List Box))))
theorem xuk:OmOk Tryz.prog ITryz 92 (xne):=xeQ fun c e h g f=>by
 obtain ⟨n,⟨_,_⟩⟩:=c
 obtain ⟨i,_⟩:=e
 obtain ⟨a,b⟩:=Prod.mk.inj f
 refine xdE (p:=xe5.pin) (xd4 mxTryz (inv0Ok Tryz.prog _) rfl xr2 rfl Tryz.func92 rfl (by kernel_rfl) xqj ((xt3 _ _ _ (xac (d:=[]) a)).trans ?_))
 exact congrArg some b
def xHl:Env:=xKU.withM 92 xne
theorem xCO:OrcOk Tryz.prog ITryz xHl:=xHw.withM xuk
def xic:Env:=xHl.fn 60 0 (lsOf []) (lpsOf [])
theorem xzQ:OrcOk Tryz.prog (ITryz.at 0) xic:=xCO.fn
theorem xvg:LoOk Tryz.prog (ITryz.at xic.pin) xic (loopAt Tryz.f67 0):=xaD (by kernel_rfl)
def xhf (b:LA) (c:Int) (a:LA):=a++[AV.agg [AV.list 3 ((b.getD c.toNat .top).cells.getD 0 .top).toList,AV.list 2 []]]
def xeq (a:Nat):Nat:=0+(↑a:Int).toNat
def xe2 (a:LA) (b:Int):=(xhv ((a.getD b.toNat .top).cells.getD 0 .top).toList).getD []
def xj6 (d:LA) (f:Int) (b:Nat) (e:Int) (c a:LA):=decide (xeq b<(xhf d e a).length)
def xka (d:LA) (e:Int) (a:Nat) (f:Int) (b c:LA):=decide ((↑a:Int)<(↑(a+1):Int))
def xcE (c:LA) (b:Nat) (d:Int) (a:LA):=((xhf c d a).getD (xeq b) .top).cells
def xjt (a:LA) (b:Int):=decide ((xe2 a b).length≤4611686018427387904)
def xhg (b:LA) (c:Int) (a:LA):=(mapGet (AV.int .i64 0) a (xe2 b c)).toInt
def xj8 (c:LA) (b:Nat) (d:Int) (a:LA):=decide (0≤xhg c d a)&&decide (xhg c d a<(↑b:Int))
def xbN (c:LA) (b:Nat) (d:Int) (a:LA):=((xcE c b d a).getD 1 .top).toList.length
def xbq (b:LA) (c:Int) (a:LA):Nat:=0+(xhg b c a).toNat
def xjz (a:LA) (d:Nat) (b:Int) (c:LA):=((xcE a d b c).getD 1 .top).toList++[AV.agg [AV.int .i64 ((a.getD b.toNat .top).cells.getD 1 .top).toInt,AV.int .i64 ((a.getD b.toNat .top).cells.getD 2 .top).toInt]]
def xh3 (c:LA) (b:Nat) (d:Int) (a:LA):=(xhf c d a).set (xeq b) (AV.agg (List.take 1 (xcE c b d a)++[AV.int .i64 (↑(xbN c b d a):Int)]++List.drop 2 (xcE c b d a)))
def xj9 (c:LA) (d:Int) (a b:LA):=decide (xbq c d a<b.length)
def xbO (c:LA) (d:Int) (a b:LA):=((b.getD (xbq c d a) .top).cells.getD 1 .top).toList.length
def xjD (b:LA) (c:Int) (a d:LA):=((d.getD (xbq b c a) .top).cells.getD 1 .top).toList++[AV.agg [AV.int .i64 ((b.getD c.toNat .top).cells.getD 1 .top).toInt,AV.int .i64 ((b.getD c.toNat .top).cells.getD 2 .top).toInt]]
def xgD (c:LA) (a:Nat) (d:Int) (b:LA):=((xh3 c a d b).getD (xeq a) .top).cells
def xh2 (c:LA) (d:Int) (a b:LA):=b.set (xbq c d a) (AV.agg (List.take 1 (b.getD (xbq c d a) .top).cells++[AV.int .i64 (↑(xbO c d a b):Int)]++List.drop 2 (b.getD (xbq c d a) .top).cells))
def xgu (c:LA) (d:Int) (a b:LA):=((xh2 c d a b).getD (xbq c d a) .top).cells
def xfP {T:Type} (d:LA) (f:Int) (e:Nat) (c:Int) (b a:LA) (δ:T) (κl:(Nat×Int×LA×LA)→T) (κr:(Nat×LA)→T):T:=br (decide (c<f)) (br (decide (0≤c)&&decide (c<d.length)) (br (decide (c.toNat<d.length)&&((d.getD c.toNat .top).cells.length==3&&hasShs [Sh.list 3,Sh.int .i64,Sh.int .i64] (d.getD c.toNat .top).cells 0)) (br (!xdP ((d.getD c.toNat .top).cells.getD 1 .top).toInt ((d.getD c.toNat .top).cells.getD 2 .top).toInt) (κl (e,i64.wrap (c+1),b,a)) (br ((xhv ((d.getD c.toNat .top).cells.getD 0 .top).toList).isSome) (br (xjt d c&&hasSh1 (Sh.int .i64) (mapGet (AV.int .i64 0) b (xe2 d c))) (br (!mapHas b (xe2 d c)) (br (decide (b.length<4611686018427387904)&&xjt d c) (br (e==a.length&&(decide ((e+1)*48≤140737488355328)&&decide (e+1≤4611686018427387904))) (br (xka d f e c b a) (br (xj6 d f e c b a&&(isRow 2 ((xcE d e c a).getD 1 .top)&&(xcE d e c a).length==2)) (br (xj6 d f e c b a&&(isRow 2 ((xcE d e c a).getD 1 .top)&&((xcE d e c a).length==2&&(2*xbN d e c a==2*xbN d e c a&&(xbN d e c a==xbN d e c a&&(xbN d e c a==xbN d e c a&&(decide ((xbN d e c a+1)*16≤140737488355328)&&decide (xbN d e c a+1≤4611686018427387904)))))))) (br (xka d f e c b a) (br (decide (xeq e<(xh3 d e c a).length)&&((xgD d e c a).length==2&&(xbN d e c a+1==(xjz d e c a).length&&deadLt ((xgD d e c a).getD 1 .top) (xbN d e c a+1)))) (κl (e+1,i64.wrap (c+1),mapPut b (xe2 d c) (AV.int .i64 (↑e:Int)),(xh3 d e c a).set (xeq e) (AV.agg (List.take 1 (xgD d e c a)++[AV.list 2 (xjz d e c a)]++List.drop 2 (xgD d e c a))))) δ) δ) δ) δ) δ) δ) δ) (br (xj8 d e c b) (br (xj9 d c b a&&(isRow 2 ((a.getD (xbq d c b) .top).cells.getD 1 .top)&&(a.getD (xbq d c b) .top).cells.length==2)) (br (xj9 d c b a&&(isRow 2 ((a.getD (xbq d c b) .top).cells.getD 1 .top)&&((a.getD (xbq d c b) .top).cells.length==2&&(2*xbO d c b a==2*xbO d c b a&&(xbO d c b a==xbO d c b a&&(xbO d c b a==xbO d c b a&&(decide ((xbO d c b a+1)*16≤140737488355328)&&decide (xbO d c b a+1≤4611686018427387904)))))))) (br (xj8 d e c b) (br (decide (xbq d c b<(xh2 d c b a).length)&&((xgu d c b a).length==2&&(xbO d c b a+1==(xjD d c b a).length&&deadLt ((xgu d c b a).getD 1 .top) (xbO d c b a+1)))) (κl (e,i64.wrap (c+1),b,(xh2 d c b a).set (xbq d c b) (AV.agg (List.take 1 (xgu d c b a)++[AV.list 2 (xjD d c b a)]++List.drop 2 (xgu d c b a))))) δ) δ) δ) δ) δ)) δ) δ)) δ) δ) (κr (e,a))
def xb1 (d:LA) (e:Int):(Nat×Int×LA×LA)→Option ((Nat×Int×LA×LA)⊕(Nat×LA)):=fun (c,f,a,b)=>xfP d e c f a b none (fun s=>some (.inl s)) (fun p=>some (.inr p))
def xgX (d:LA) (e:Int):(Nat×Int×LA×LA)→LA×List Box:=fun (c,f,a,b)=>([AV.own 0 0 0 0,AV.osl 1 0 0 c,AV.list 3 d,AV.int .i64 e,AV.int .i64 f],[⟨0,2,1208925819615080213381120,a,false,true⟩,⟨0,2,133280301139,b,false,true⟩])
def xf3 (a:LA) (b:Int):(Nat×LA)→LR:=fun p=>(.leaf (.exit 0) [AV.osl 0 0 0 p.1] [⟨0,2,133280301139,p.2,false,true⟩])
abbrev xAj (a:LA) (H:List Box):=XR Tryz.prog xic [3,4,11,12,13] [4] [(4,2,133280301139)] (loopAt Tryz.f67 0) a H
theorem xAJ (a:LA) (b:Int) (s:Nat×Int×LA×LA):Enc (encR (xgX a b) (xf3 a b)) (xb1 a b s) (xAj (xgX a b s).1 (xgX a b s).2):=by
 obtain ⟨e,f,c,d⟩:=s
 refine eV (xfP a b e f c d none (fun s=>some (encR (xgX a b) (xf3 a b) (.inl s))) (fun p=>some (encR (xgX a b) (xf3 a b) (.inr p)))) (by kernel_rfl) ?_;unfold xb1 xfP;repeat' first|exact eN|exact eS rfl|apply eB
def xsb:Lp:=lpOf [3,4,11,12,13] [4] [(4,2,133280301139)] (pCons (pOwn 0 0 0 0) (pCons (pOsl 1 0 0) (pCons (pList 3 pAny) (pCons (pInt .i64) (pCons (pInt .i64) pNil))))) (pCons (pBox 0 2 1208925819615080213381120 false true pAny) (pCons (pBox 0 2 133280301139 false true pAny) pNil)) fun (_,(c,(d,(e,(f,_))))) (a,(b,_))=>((Iter (xb1 d e) (c,f,a,b)).isSome,xf3 d e ((Iter (xb1 d e) (c,f,a,b)).getD (0,[])))
theorem xyL:LoopOk Tryz.prog (ITryz.at xic.pin) xic.nt (loopAt Tryz.f67 0) xsb:=xbm fun h i k j=>by
 obtain ⟨_,⟨e,⟨b,⟨c,⟨f,_⟩⟩⟩⟩⟩:=h
 obtain ⟨a,⟨d,_⟩⟩:=i
 obtain ⟨g,rfl⟩:=Prod.mk.inj j
 exact xa6 mxTryz (inv0Ok Tryz.prog _) rfl xzQ xvg (xgX b c) (xf3 b c) (fun p=>by simp only [xf3,LR.eval];first|(simp;done)|(repeat' split<;>simp)) (xAJ b c) (s:=(e,f,a,d)) (xac g)
def xj0:Env:=xHl.fn 60 0 (lsOf []) (lpsOf [(4,xsb)])
theorem xzG:OrcOk Tryz.prog (ITryz.at 0) xj0:=xCO.fn
theorem xwV:LoOk Tryz.prog (ITryz.at xj0.pin) xj0 (Tryz.f67.body.getD .skip):=xbe (ls:=[loopAt Tryz.f67 0]) (by kernel_rfl) (lkC xyL lkN)
def xp7 (l:LA):=Iter (xb1 l (↑l.length:Int)) (0,0,[],[])
def xpZ (l:LA):=(xp7 l).getD (0,[])
def xml (l:LA):=(xpZ l).fst
def xp5 (l:LA):=(xpZ l).snd
def xpS (l:LA):=xeh (xml l) (xp5 l)
def xpW (l:LA):=(xpS l).getD []
def xnb {T:Type} (l:LA) (δ:T) (κ:LA→T):T:=br ((xp7 l).isSome) (br (rowsAll 2 1 (xp5 l)) (br ((xpS l).isSome) (br (decide (0+xml l≤(xpW l).length)&&true) (κ (List.take (xml l) (List.drop 0 (xpW l)))) δ) δ) δ) δ
def xeH (l:LA):Option (LA):=xnb l none some
theorem xEm (l:LA):Enc (fun (p:LA)=>((AV.list 2 p):AV)) (xeH l) (XF Tryz.prog xj0 Tryz.f67 (Tryz.f67.body.getD .skip) [AV.list 3 l]):=by
 refine eV (xnb l none (fun (p:LA)=>some ((AV.list 2 p):AV))) (by kernel_rfl) ?_;unfold xeH xnb;repeat' first|exact eN|exact eS rfl|apply eB
def xvV:LA→Option (Bool×AV):=ocOf (sCons (sList 3 pAny) sNil) fun (l,_)=>((xeH l).isSome,(AV.list 2 ((xeH l).getD [])))
theorem xDD:OcOk Tryz.prog ITryz 67 (xvV):=xbg fun c f e=>by
 obtain ⟨l,_⟩:=c
 obtain ⟨a,b⟩:=Prod.mk.inj e
 refine xa7 (p:=xj0.pin) (xbd mxTryz (inv0Ok Tryz.prog _) rfl xzG Tryz.func67 rfl (by kernel_rfl) xwV ((xEm _ _ (xac (d:=[]) a)).trans ?_))
 exact congrArg some b
def xOR:Env:=xHl.with 67 xvV
theorem xNE:OrcOk Tryz.prog ITryz xOR:=xCO.with xDD
abbrev EKG:Env:=xOR
theorem xQn:OrcOk Tryz.prog ITryz EKG:=xNE
end Go.Sim.M
end
