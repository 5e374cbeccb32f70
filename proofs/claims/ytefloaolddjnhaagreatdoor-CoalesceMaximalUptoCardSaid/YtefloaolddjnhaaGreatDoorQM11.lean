/- Part 11 of the proof: Clone, Pat, E0, PatN, K1, K2, K3, KG. -/
import Derived.Test.YtefloaolddjnhaaGreatDoorQM10
import Derived.Deep.LoopGhost
import Derived.Lib.SliceRun
set_option linter.unusedVariables false
set_option linter.unusedSimpArgs false
set_option linter.unnecessarySimpa false
set_option linter.unusedSectionVars false
noncomputable section
namespace Go.Proofs
open Go.RowKit Go.Lib Go.Shelf
set_option maxHeartbeats 2000000 in
set_option maxRecDepth 100000 in
theorem Tryz.clone_nil (n c:Nat) (w:World) :
  Calls Tryz.prog 111 #[.slice none n c] w fun e w'=>e=.returned (.slice none 0 0)∧w'=w:=by
 have q22:∀ (w:World) (a:Option Addr) (n c n' c':Nat),(binOp .eql 40 (.slice a n c) (.slice none n' c')).run Tryz.prog w=.ok (.bool a.isNone) w:=fun w a n c n' c'=>Lib.run_eql_slice_nil w 40 73 a n c n' c' (by kernel_rfl)
 go_enter Tryz.func111,Tryz.ntmps111
 go_wp2
 go_ret
 exact ⟨rfl,rfl⟩
set_option maxHeartbeats 2000000 in
set_option maxRecDepth 100000 in
theorem Tryz.clone_some (i0:TypeInfo) (z:Value) (hi:Tryz.prog.info? 73=some i0) (hz0:i0.zero=some z) (hz1:i0.size=3) (hz2:i0.bytes=32) (hzs:z.cells.size=3)
  (a:Addr) (n c:Nat) (news:List Value) (w:World) (hl:news.length=n*3) (hn:n≤maxLen) (hbig:n*32≤140737488355328)
  (hc:∀ j u,news[j]?=some u→w.cell? (a.add j)=some u) (h1:∀ u∈news,u.oneCell'=true) :
  Calls Tryz.prog 111 #[.slice (some a) n c] w fun e w'=>∃ v',e=.returned v'∧w'.ownsRow w.heap.size 73 3 v' n news∧Below w.heap.size w w':=by
 have t22:Tryz.prog.underlying 40=some (.slice 73):=by kernel_rfl
 have q22:∀ (w:World) (a:Option Addr) (n c n' c':Nat),(binOp .eql 40 (.slice a n c) (.slice none n' c')).run Tryz.prog w=.ok (.bool a.isNone) w:=fun w a n c n' c'=>Lib.run_eql_slice_nil w 40 73 a n c n' c' t22
 have u22:∀ w,Sem.run Tryz.prog (underlying 40) w=.ok (TypeDesc.slice 73) w:=run_underlying t22
 have A:Aside (∀ j u,news[j]?=some u→w.cell? (a.add j)=some u):=hc
 clear hc
 go_enter Tryz.func111,Tryz.ntmps111
 go_wp2_with (at_builtin;refine wpList_append_own _ rfl _ _ 40 rfl w.heap.size 73 i0 z 3 32 t22 hi hz0 hz1 hz2 hzs (by decide) _ _ _ rfl (World.ownsRow_made w #[] 0 (Nat.le_refl _) (Nat.zero_le _) (by simp)) a n c news rfl ?qc1 ?qc2 ?qc3 ?qc4 ?qc5 ?qc6 ?_)
 case qc1=>exact hl
 case qc2 =>
  intro j u hj
  exact Lib.cell?_alloc_some _ (A.out j u hj)
 case qc3=>exact h1
 case qc4=>rw [Nat.zero_add];exact hn
 case qc5=>rw [Nat.zero_add];exact hbig
 case qc6=>simp
 intro v' w1 hown hgrow hnil
 go_wp2
 go_ret
 refine ⟨v',rfl,by simpa using hown,?_⟩
 exact ((Below.refl _ w).alloc (Nat.le_refl _) _).grown hgrow (by simp) (by intro k hk;simp [Value.ownBlock] at hk;omega)
end Go.Proofs
namespace Go.Sim
open Go.RowKit Go.Proofs
def xl6:List AV→Option (Bool×AV)
 | [.list 3 xs]=>some (decide (xs.length≤4398046511104),.list 3 xs)
 | _=>none
theorem xqB {w w':World} {A:Nat→Prop} {e:TypeId} {sz:Nat} {v:Value} {xs:List AV} {news:List Value} (hl:∀ b,A b→b<w.heap.size) (hown:w'.ownsRow w.heap.size e sz v xs.length news) (hok:∀ x,x∈xs→x.okElem sz=true)
  (hr:∀ i j,i<xs.length→j<sz→Rel w' A noBox (news.getD (i*sz+j) undef) ((xs.getD i .top).cells.getD j .top)):Rel w' A noBox v (.list sz xs):=by
 obtain ⟨hlen,h⟩:=hown
 rcases h with ⟨rfl,h0⟩|⟨g,cap,cur,rfl,hg,hh,hle,hcm,hcs,htk⟩
 · have:xs=[]:=List.eq_nil_of_length_eq_zero h0
   subst this
   exact .list0 _ _ _
 · by_cases hne:xs=[]
   · subst hne;exact .list0 _ _ _
   · have hgl:g<w'.heap.size:=by
      rcases Nat.lt_or_ge g w'.heap.size with h|h
      · exact h
      · rw [Array.getElem?_eq_none h] at hh;simp at hh
     have hcell:∀ i j,i<xs.length→j<sz→w'.cell? ⟨g,0+i*sz+j,none⟩=some (news.getD (i*sz+j) undef):=fun i j hi hj=>by
      have hk:i*sz+j<xs.length*sz:=xdW hi hj
      have hk2:i*sz+j<cur.size:=by
       rw [hcs];exact Nat.lt_of_lt_of_le hk (Nat.mul_le_mul_right _ hle)
      have e1:news.getD (i*sz+j) undef=cur[i*sz+j]:=by
       rw [←htk];simp [List.getD_eq_getElem?_getD,List.getElem?_take,hk,hk2]
      rw [e1,Nat.zero_add]
      simp [World.cell?,hh,hk2]
     exact .list g 0 cap sz xs (fun i j=>news.getD (i*sz+j) undef) (fun hA=>by have:=hl g hA;omega) hgl hne hle hok hcell hr
theorem xuD:OcOk Tryz.prog ITryz 111 xl6:=fun xs r h=>by
 unfold xl6 at h;split at h
 · rename_i xs
   simp only [Option.some.injEq,Prod.mk.injEq,decide_eq_true_eq] at h;obtain ⟨hle,rfl⟩:=h
   refine ⟨xdA Tryz.func111 rfl (by kernel_rfl),fun w A vs hI hA hrc=>?_⟩
   obtain ⟨v,rfl,h1⟩:=rc1 hrc
   have hti:∃ ti,tinfo Tryz.prog 73=some ti∧ti.sz=3∧ti.bytes=32∧ti.zero.okElem 3=true:=by
    have h:(match tinfo Tryz.prog 73 with|some ti=>(ti.sz==3)&&((ti.bytes==32)&&ti.zero.okElem 3)|none=>false)=true:=by kernel_rfl
    split at h
    · rename_i ti hti
      simp only [Bool.and_eq_true,beq_iff_eq] at h
      exact ⟨ti,hti,h.1,h.2.1,h.2.2⟩
    · simp at h
   obtain ⟨ti,hti,s1,s2,s3⟩:=hti
   obtain ⟨i,z,g1,g2,g3,g4,g5,g6,_⟩:=xb4 hti
   have hzs:z.cells.size=3:=by
    have hrz:Rel w A noBox z ti.zero:=by rw [g6];exact xdZ w A noBox z
    rw [(hrz.cells (xbr s3)).1,xa3 s3]
   have hnil:∀ n c,v=.slice none n c→xs=[]→Calls Tryz.prog 111 [v].toArray w fun e w'=>∃ v,e=.returned v∧Below w.heap.size w w'∧Rel w' A noBox v (.list 3 xs):=by
    rintro n c rfl rfl
    refine (Tryz.clone_nil n c w).mono ?_
    rintro e w' ⟨rfl,rfl⟩
    exact ⟨_,rfl,Below.refl _ _,.list0 _ _ _⟩
   have hsome:∀ b off c (val:Nat→Nat→Value),v=.slice (some ⟨b,off,none⟩) xs.length c→(∀ x,x∈xs→x.okElem 3=true)→(∀ i j,i<xs.length→j<3→w.cell? ⟨b,off+i*3+j,none⟩=some (val i j))→(∀ i j,i<xs.length→j<3→Rel w A noBox (val i j) ((xs.getD i .top).cells.getD j .top)) →
     Calls Tryz.prog 111 [v].toArray w fun e w'=>∃ v,e=.returned v∧Below w.heap.size w w'∧Rel w' A noBox v (.list 3 xs):=by
    rintro b off c val rfl hok hc hr
    have hs:∀ i j,i<xs.length→j<3→∃ u,w.cell? ⟨b,off+(i*3+j),none⟩=some u∧Rel w A noBox u ((xs.getD i .top).cells.getD j .top):=fun i j hi hj=>⟨val i j,by rw [←Nat.add_assoc];exact hc i j hi hj,hr i j hi hj⟩
    refine (Tryz.clone_some i z g1 g3 (by rw [←g4,s1]) (by rw [←g5,s2]) hzs ⟨b,off,none⟩ xs.length c (srcCells w b off (xs.length*3)) w (xgl _ _ _ _) (by unfold maxLen;omega) (by omega)
     (fun j u hj=>xpy (by decide) hs j u hj) (xyN (by decide) hs hok)).mono ?_
    rintro e w' ⟨v',rfl,hown,hbel⟩
    exact ⟨v',rfl,hbel,xqB hA hown hok fun i j hi hj=>(xy3 hs hi hj).grow hbel⟩
   have h1':=h1
   generalize hx:AV.list 3 xs=x at h1
   cases h1 with
   | list0 a cap sz =>
    simp only [AV.list.injEq] at hx
    obtain ⟨rfl,rfl⟩:=hx
    cases a with
    | none=>exact hnil 0 cap rfl rfl
    | some a =>
     refine (Tryz.clone_some i z g1 g3 (by rw [←g4,s1]) (by rw [←g5,s2]) hzs a 0 cap [] w rfl (Nat.zero_le _) (by omega) (by simp) (by simp)).mono ?_
     rintro e w' ⟨v',rfl,hown,hbel⟩
     exact ⟨v',rfl,hbel,xqB hA (xs:=[]) hown (by simp) (by simp)⟩
   | list b off cap sz ys val ha hb hne hcap hsz hc hr =>
    simp only [AV.list.injEq] at hx
    obtain ⟨rfl,rfl⟩:=hx
    exact hsome b off cap val rfl hsz hc hr
   | _=>simp at hx
 · simp at h
end Go.Sim
end
noncomputable section
namespace Go.Sim
open Go.RowKit
variable {α β γ : Type}
structure Pat (α β:Type) where
 enc:β→α
 dec:α→Option β
 ok:∀ a b,dec a=some b→a=enc b
def pAny:Pat α α:=⟨fun b=>b,some,fun a b h=>by simpa using h⟩
def pInt (k:IntKind):Pat AV Int:=⟨.int k,fun v=>match v with
 | .int k' n=>match decide (k'=k) with
  | true=>some n
  | false=>none
 | _=>none,fun v n h=>by
 split at h
 · split at h
   · rename_i hk;simp only [Option.some.injEq] at h;rw [of_decide_eq_true hk,h]
   · simp at h
 · simp at h⟩
def pStr:Pat AV (List UInt8):=⟨.str,fun v=>match v with
 | .str s=>some s
 | _=>none,fun v n h=>by
 split at h
 · simp only [Option.some.injEq] at h;rw [h]
 · simp at h⟩
def pBool:Pat AV Bool:=⟨.bool,fun v=>match v with
 | .bool s=>some s
 | _=>none,fun v n h=>by
 split at h
 · simp only [Option.some.injEq] at h;rw [h]
 · simp at h⟩
def pList (sz:Nat) (q:Pat (List AV) β):Pat AV β:=⟨fun b=>.list sz (q.enc b),fun v=>match v with
 | .list z xs=>match Nat.beq z sz with
  | true=>q.dec xs
  | false=>none
 | _=>none,fun v n h=>by
 split at h
 · split at h
   · rename_i hz;rw [Nat.eq_of_beq_eq_true hz,q.ok _ _ h]
   · simp at h
 · simp at h⟩
def pOsl (id ver off:Nat):Pat AV Nat:=⟨.osl id ver off,fun v=>match v with
 | .osl (.b i) e o n=>match Nat.beq i id&&(Nat.beq e ver&&Nat.beq o off) with
  | true=>some n
  | false=>none
 | _=>none,fun v n h=>by
 split at h
 · split at h
   · rename_i hz
     simp only [Bool.and_eq_true] at hz
     simp only [Option.some.injEq] at h
     rw [Nat.eq_of_beq_eq_true hz.1,Nat.eq_of_beq_eq_true hz.2.1,Nat.eq_of_beq_eq_true hz.2.2,h]
   · simp at h
 · simp at h⟩
def pOslV (id off:Nat):Pat AV (Nat×Nat):=⟨fun p=>.osl id p.1 off p.2,fun v=>match v with
 | .osl (.b i) e o n=>match Nat.beq i id&&Nat.beq o off with
  | true=>some (e,n)
  | false=>none
 | _=>none,fun v n h=>by
 split at h
 · split at h
   · rename_i hz
     simp only [Bool.and_eq_true] at hz
     simp only [Option.some.injEq] at h
     rw [Nat.eq_of_beq_eq_true hz.1,Nat.eq_of_beq_eq_true hz.2,←h]
   · simp at h
 · simp at h⟩
def pOwnV (id j:Nat):Pat AV (Nat×Nat):=⟨fun p=>.own id p.1 p.2 j,fun v=>match v with
 | .own (.b a) b c d=>match Nat.beq a id&&Nat.beq d j with
  | true=>some (b,c)
  | false=>none
 | _=>none,fun v n h=>by
 split at h
 · split at h
   · rename_i hz
     simp only [Bool.and_eq_true] at hz
     simp only [Option.some.injEq] at h
     rw [Nat.eq_of_beq_eq_true hz.1,Nat.eq_of_beq_eq_true hz.2,←h]
   · simp at h
 · simp at h⟩
def pOwn (id ver i j:Nat):Pat AV Unit:=⟨fun _=>.own id ver i j,fun v=>match v with
 | .own (.b a) b c d=>match Nat.beq a id&&(Nat.beq b ver&&(Nat.beq c i&&Nat.beq d j)) with
  | true=>some ()
  | false=>none
 | _=>none,fun v n h=>by
 split at h
 · split at h
   · rename_i hz
     simp only [Bool.and_eq_true] at hz
     rw [Nat.eq_of_beq_eq_true hz.1,Nat.eq_of_beq_eq_true hz.2.1,Nat.eq_of_beq_eq_true hz.2.2.1,Nat.eq_of_beq_eq_true hz.2.2.2]
   · simp at h
 · simp at h⟩
def pAgg (q:Pat (List AV) β):Pat AV β:=⟨fun b=>.agg (q.enc b),fun v=>match v with
 | .agg cs=>q.dec cs
 | _=>none,fun v n h=>by
 split at h
 · rw [q.ok _ _ h]
 · simp at h⟩
def pFunc (f:Nat) (q:Pat (List AV) β):Pat AV β:=⟨fun b=>.func f (q.enc b),fun v=>match v with
 | .func g cs=>match Nat.beq g f with
  | true=>q.dec cs
  | false=>none
 | _=>none,fun v n h=>by
 split at h
 · split at h
   · rename_i hz;rw [Nat.eq_of_beq_eq_true hz,q.ok _ _ h]
   · simp at h
 · simp at h⟩
def pNils:Pat AV Unit:=⟨fun _=>.nils,fun v=>match v with
 | .nils=>some ()
 | _=>none,fun v n h=>by
 split at h
 · rfl
 · simp at h⟩
def pNilptr:Pat AV Unit:=⟨fun _=>.nilptr,fun v=>match v with
 | .nilptr=>some ()
 | _=>none,fun v n h=>by
 split at h
 · rfl
 · simp at h⟩
def pNil:Pat (List α) Unit:=⟨fun _=>[],fun v=>match v with
 | []=>some ()
 | _=>none,fun v n h=>by
 split at h
 · rfl
 · simp at h⟩
def pCons (p:Pat α β) (q:Pat (List α) γ):Pat (List α) (β×γ):=⟨fun b=>p.enc b.1::q.enc b.2,fun v=>match v with
 | x::t=>match p.dec x with
  | some b=>match q.dec t with
   | some c=>some (b,c)
   | none=>none
  | none=>none
 | _=>none,fun v n h=>by
 split at h
 · split at h
   · rename_i hp
     split at h
     · rename_i hq
       simp only [Option.some.injEq] at h
       subst h
       rw [p.ok _ _ hp,q.ok _ _ hq]
     · simp at h
   · simp at h
 · simp at h⟩
def pBox (ver sz ty:Nat) (frz pm:Bool) (q:Pat (List AV) β):Pat Box β:=⟨fun b=>⟨ver,sz,ty,q.enc b,frz,pm⟩,fun v=>match v with
 | ⟨a,b,c,xs,f,p⟩=>match Nat.beq a ver&&(Nat.beq b sz&&(Nat.beq c ty&&((f==frz)&&(p==pm)))) with
  | true=>q.dec xs
  | false=>none,fun v n h=>by
 obtain ⟨a,b,c,xs,f,p⟩:=v
 dsimp only at h;split at h
 · rename_i hz
   simp only [Bool.and_eq_true,beq_iff_eq] at hz
   rw [Nat.eq_of_beq_eq_true hz.1,Nat.eq_of_beq_eq_true hz.2.1,Nat.eq_of_beq_eq_true hz.2.2.1,hz.2.2.2.1,hz.2.2.2.2,q.ok _ _ h]
 · simp at h⟩
def pBoxV (sz ty:Nat) (frz pm:Bool) (q:Pat (List AV) β):Pat Box (Nat×β):=⟨fun b=>⟨b.1,sz,ty,q.enc b.2,frz,pm⟩,fun v=>match v with
 | ⟨a,b,c,xs,f,p⟩=>match Nat.beq b sz&&(Nat.beq c ty&&((f==frz)&&(p==pm))) with
  | true=>match q.dec xs with
   | some y=>some (a,y)
   | none=>none
  | false=>none,fun v n h=>by
 obtain ⟨a,b,c,xs,f,p⟩:=v
 dsimp only at h;split at h
 · rename_i hz
   simp only [Bool.and_eq_true,beq_iff_eq] at hz
   split at h
   · rename_i y hy
     simp only [Option.some.injEq] at h
     rw [Nat.eq_of_beq_eq_true hz.1,Nat.eq_of_beq_eq_true hz.2.1,hz.2.2.1,hz.2.2.2,←h,q.ok _ _ hy]
   · simp at h
 · simp at h⟩
def Sub (a b:AV):Prop:=∀ (w:World) (A:Nat→Prop) (M:Id→Option MB) (v:Value),Rel w A M v a→Rel w A M v b
def SubL (aS bs:List AV):Prop:=aS.length=bs.length∧∀ i,i<aS.length→Sub (aS.getD i .top) (bs.getD i .top)
theorem Sub.refl (a:AV):Sub a a:=fun _ _ _ _ h=>h
theorem Sub.of_eq {a b:AV} (h:a=b):Sub a b:=h▸Sub.refl a
theorem xCR (sz:Nat):Sub .nils (.list sz []):=fun w A M v h=>by
 cases h;exact .list0 _ _ _
theorem xET {aS bs:List AV} (h:SubL aS bs):Sub (.agg aS) (.agg bs):=fun w A M v hr=>by
 obtain ⟨vs,rfl,h1,h2⟩:=hr.agg_inv
 exact .agg vs bs (h1.trans h.1) fun i hi=>h.2 i (h.1.symm▸hi) w A M _ (h2 i (h.1.symm▸hi))
theorem xAP {w:World} {A:Nat→Prop} {M:Id→Option MB} {vs:List Value} {aS bs:List AV} (h:SubL aS bs) (hr:RC w A M vs aS):RC w A M vs bs :=
 ⟨hr.1.trans h.1,fun i hi=>h.2 i (h.1.symm▸hi) w A M _ (hr.2 i (h.1.symm▸hi))⟩
structure SPat (β:Type) where
 enc:β→AV
 dec:AV→Option β
 ok:∀ a b,dec a=some b→Sub a (enc b)
structure SPatL (β:Type) where
 enc:β→List AV
 dec:List AV→Option β
 ok:∀ a b,dec a=some b→SubL a (enc b)
def sEq (p:Pat AV β):SPat β:=⟨p.enc,p.dec,fun a b h=>Sub.of_eq (p.ok a b h)⟩
def sList (sz:Nat) (q:Pat (List AV) β):SPat β:=⟨fun b=>.list sz (q.enc b),fun v=>match v with
 | .nils=>q.dec []
 | .list z xs=>match Nat.beq z sz with
  | true=>q.dec xs
  | false=>none
 | _=>none,fun v n h=>by
 split at h
 · rw [←q.ok _ _ h];exact xCR sz
 · split at h
   · rename_i hz;rw [Nat.eq_of_beq_eq_true hz,q.ok _ _ h];exact Sub.refl _
   · simp at h
 · simp at h⟩
def sAgg (q:SPatL β):SPat β:=⟨fun b=>.agg (q.enc b),fun v=>match v with
 | .agg cs=>q.dec cs
 | _=>none,fun v n h=>by
 split at h
 · exact xET (q.ok _ _ h)
 · simp at h⟩
def sNil:SPatL Unit:=⟨fun _=>[],fun v=>match v with
 | []=>some ()
 | _=>none,fun v n h=>by
 split at h
 · exact ⟨rfl,fun i hi=>by simp at hi⟩
 · simp at h⟩
def sCons (p:SPat β) (q:SPatL γ):SPatL (β×γ):=⟨fun b=>p.enc b.1::q.enc b.2,fun v=>match v with
 | x::t=>match p.dec x with
  | some b=>match q.dec t with
   | some c=>some (b,c)
   | none=>none
  | none=>none
 | _=>none,fun v n h=>by
 split at h
 · split at h
   · rename_i hp
     split at h
     · rename_i hq
       simp only [Option.some.injEq] at h
       subst h
       obtain ⟨h1,h2⟩:=q.ok _ _ hq
       refine ⟨by simp [h1],fun i hi=>?_⟩
       cases i with
       | zero=>exact p.ok _ _ hp
       | succ i=>exact h2 i (by simpa using hi)
     · simp at h
   · simp at h
 · simp at h⟩
def ocOf (pv:SPatL β) (g:β→Bool×AV):List AV→Option (Bool×AV):=fun xs=>match pv.dec xs with
 | some b=>some (g b)
 | none=>none
def omOf (pv:SPatL β) (pb:Pat (List Box) γ) (g:β→γ→Bool×AV×List Box):List AV→List Box→Option (Bool×AV×List Box):=fun xs H=>match pv.dec xs with
 | some b=>match pb.dec H with
  | some c=>some (g b c)
  | none=>none
 | none=>none
def lpOf (live liveO:List Nat) (conv:List (Nat×Nat×TypeId)) (pv:Pat (List AV) β) (pb:Pat (List Box) γ) (g:β→γ→Bool×LR):Lp:=⟨live,liveO,conv,fun xs H=>match pv.dec xs with
 | some b=>match pb.dec H with
  | some c=>some (g b c)
  | none=>none
 | none=>none⟩
section
variable {P : Program} {Inv : IV}
theorem xcd {n:FuncId} {pv:SPatL β} {g:β→Bool×AV} (h:∀ b r,g b=(true,r)→Good P Inv n (pv.enc b) r):OcOk P Inv n (ocOf pv g):=fun xs r e=>by
 unfold ocOf at e;split at e
 · rename_i b hb
   simp only [Option.some.injEq] at e
   obtain ⟨h1,h2⟩:=h b r e
   exact ⟨h1,fun w A vs hi ha hr=>h2 w A vs hi ha (xAP (pv.ok _ _ hb) hr)⟩
 · simp at e
theorem xfj {n:FuncId} {pv:SPatL β} {pb:Pat (List Box) γ} {g:β→γ→Bool×AV×List Box} (h:∀ b c r H',g b c=(true,r,H')→GoodM P Inv n (pv.enc b) (pb.enc c) r H'):OmOk P Inv n (omOf pv pb g):=fun xs H r H' e=>by
 unfold omOf at e;split at e
 · rename_i b hb
   split at e
   · rename_i c hc
     simp only [Option.some.injEq] at e
     rw [pb.ok _ _ hc]
     obtain ⟨h1,h2⟩:=h b c r H' e
     exact ⟨h1,fun w0 w A M vs hi hb' hR hr=>h2 w0 w A M vs hi hb' hR (xAP (pv.ok _ _ hb) hr)⟩
   · simp at e
 · simp at e
theorem xcw {nt:Nat} {l:Code} {live liveO:List Nat} {conv:List (Nat×Nat×TypeId)} {pv:Pat (List AV) β} {pb:Pat (List Box) γ} {g:β→γ→Bool×LR}
  (h:∀ b c r,g b c=(true,r)→DoesL P Inv l (fun e1 s1=>e1=r.eval.1∧s1=⟨mkTs nt (liveO.zip r.eval.2.1),r.eval.2.2⟩) ⟨mkTs nt (live.zip (pv.enc b)),pb.enc c⟩):LoopOk P Inv nt l (lpOf live liveO conv pv pb g):=fun vals H r e=>by
 unfold lpOf at e;dsimp only at e;split at e
 · rename_i b hb
   split at e
   · rename_i c hc
     simp only [Option.some.injEq] at e
     rw [pv.ok _ _ hb,pb.ok _ _ hc]
     exact h b c r e
   · simp at e
 · simp at e
end
theorem xaj {x:Option α} {d:α} (h:x.isSome=true):x=some (x.getD d):=by
 cases x with
 | none=>simp at h
 | some y=>rfl
end Go.Sim
end
noncomputable section
namespace Go.Sim.M
open Go.RowKit Go.Proofs
def E0:Env:=((((Env.none.with 138 xjS).with 116 xl0).with 111 xl6).withM 139 xoK).withM 118 xkp
theorem xzq:OrcOk Tryz.prog ITryz E0:=((((xzv.with xrv).with xus).with xuD).withM xyv).withM xsh
end Go.Sim.M
end
noncomputable section
namespace Go.Sim
open Go.RowKit
def EncS {α:Type} (f:α→AV) (a:Option α) (b:Option AV):Prop:=∀ r,a=some r→∃ x,b=some x∧Sub x (f r)
theorem EncS.none {α:Type} {f:α→AV} {b:Option AV}:EncS f .none b:=fun r h=>by simp at h
theorem EncS.some {α:Type} {f:α→AV} {a:α} {b:AV} (h:Sub b (f a)):EncS f (Option.some a) (Option.some b):=fun r e=>by simp only [Option.some.injEq] at e;subst e;exact ⟨b,rfl,h⟩
theorem EncS.br {α:Type} {f:α→AV} {t:Bool} {a a':Option α} {b b':Option AV} (h1:EncS f a b) (h2:EncS f a' b'):EncS f (Sim.br t a a') (Sim.br t b b'):=by cases t<;>assumption
theorem Good.sub {P:Program} {Inv:IV} {f:FuncId} {args:List AV} {r r':AV} (h:Good P Inv f args r) (hs:Sub r r'):Good P Inv f args r' :=
 ⟨h.1,fun w A vs hI hA hrc=>(h.2 w A vs hI hA hrc).mono fun e w' ⟨v,he,hb,hr⟩=>⟨v,he,hb,hs w' A noBox v hr⟩⟩
theorem GoodM.bump1 {P:Program} {Inv:IV} {f:FuncId} {args:List AV} {H:List Box} {v v' k sz:Nat} {ty:TypeId} {xs:List AV} {frz pm:Bool} (hpl:isC ty=false) (hv:v<v')
  (h:GoodM P Inv f args H (.osl (.b 0) v 0 k) [⟨v,sz,ty,xs,frz,pm⟩]):GoodM P Inv f args H (.osl (.b 0) v' 0 k) [⟨v',sz,ty,xs,frz,pm⟩]:=by
 refine ⟨h.1,fun w0 w A M vs hI hB hR hrc=>(h.2 w0 w A M vs hI hB hR hrc).mono ?_⟩
 rintro e w' ⟨u,A',M',rfl,h1,h2,h3,h4,h5⟩
 obtain ⟨m,g1,g2,g3,g4⟩:=Rel.osl_inv h5
 obtain ⟨bx,q1,q2⟩:=h4.box _ m g1
 have:bx=⟨v,sz,ty,xs,frz,pm⟩:=by
  have:=q1
  rw [xev] at this
  simpa using this.symm
 subst this
 have hver:v=m.ver:=q2.ver
 have hext:MExt M' (MSet M' (.b 0) ⟨m.b,v',m.sz,m.cap,m.ty⟩):=xnT g1 (.inr (by simp only;omega))
 have hsame:∀ id m1,MSet M' (.b 0) ⟨m.b,v',m.sz,m.cap,m.ty⟩ id=some m1→∃ m0,M' id=some m0∧m1.b=m0.b∧m1.cap=m0.cap:=fun id m1 hm1=>by
  by_cases hi:id=.b 0
  · subst hi;simp [MSet] at hm1;subst hm1;exact ⟨m,g1,rfl,rfl⟩
  · exact ⟨m1,by simpa [MSet,hi] using hm1,rfl,rfl⟩
 have hR':HR w' A' (MSet M' (.b 0) ⟨m.b,v',m.sz,m.cap,m.ty⟩) w0.heap.size [⟨v',sz,ty,xs,frz,pm⟩]:=by
  refine ⟨fun id m1 hm1=>?_,fun id id' m1 m2 k1 k2 c1 c2 he=>?_,h4.lt⟩
  · by_cases hi:id=.b 0
    · subst hi
      have:m1=⟨m.b,v',m.sz,m.cap,m.ty⟩:=by simp [MSet] at hm1;exact hm1.symm
      subst this
      have q3:=q2.mono (w':=w') (fun _=>rfl) (fun _ _ _=>rfl) (Nat.le_refl _) (fun _ _ h=>h) q2.guard hext
      exact ⟨⟨v',sz,ty,xs,frz,pm⟩,rfl,rfl,q3.sz,q3.ty,q3.capm,q3.fits,q3.ok,q3.low,q3.lt,q3.cells,q3.guard⟩
    · have hm2:M' id=some m1:=by simpa [MSet,hi] using hm1
      obtain ⟨bx,k1,k2⟩:=h4.box id m1 hm2
      have k3:getB [⟨v',sz,ty,xs,frz,pm⟩] id=some bx:=by
       rw [←k1]
       exact xfe (H:=[⟨v,sz,ty,xs,frz,pm⟩]) (n:=0) (bx:=⟨v,sz,ty,xs,frz,pm⟩) (bx':=⟨v',sz,ty,xs,frz,pm⟩) rfl hpl hpl hi
      exact ⟨bx,k3,k2.mono (fun _=>rfl) (fun _ _ _=>rfl) (Nat.le_refl _) (fun _ _ h=>h) k2.guard hext⟩
  · obtain ⟨n1,a1,a2,a3⟩:=hsame id m1 k1
    obtain ⟨n2,b1,b2,b3⟩:=hsame id' m2 k2
    exact h4.inj id id' n1 n2 a1 b1 (by omega) (by omega) (by rw [←a2,←b2,he])
 refine ⟨u,A',MSet M' (.b 0) ⟨m.b,v',m.sz,m.cap,m.ty⟩,rfl,h1,h2,h3.step ⟨Nat.le_refl _,fun _ _ _=>rfl,fun _ _ h=>h,fun _ _ h _=>h,hext,⟨fun _ _ _=>rfl,fun id m1 hm1 h0=>?_⟩⟩,hR',?_⟩
 · obtain ⟨n1,a1,a2,a3⟩:=hsame id m1 hm1
   exact .inl ⟨id,n1,a1,by omega,a2⟩
 · exact .osl u (.b 0) v' 0 k ⟨m.b,v',m.sz,m.cap,m.ty⟩ (by simp [MSet]) (Nat.le_refl _) g3 fun _=>g4 hver
end Go.Sim
end
noncomputable section
set_option maxRecDepth 100000
namespace Go.Sim.M
open Go.IntKind (i64 u64 u8)
open Go.RowKit Go.Proofs
def xcj:Env:=E0.fn 19 1 (lsOf []) (lpsOf [])
theorem xjn:OrcOk Tryz.prog (ITryz.at 1) xcj:=xzq.fn
theorem xim:LoOk Tryz.prog (ITryz.at xcj.pin) xcj (Tryz.f115.body.getD .skip):=xaH (by kernel_rfl)
def xdd {T:Type} (a:List UInt8) (δ:T) (κ:Int×Nat×LA→T):T:=br (decide ((byteAVs a).length*1≤140737488355328)&&decide ((byteAVs a).length≤4611686018427387904)) (κ ((↑a.length:Int),(byteAVs a).length,byteAVs a)) δ
def xaJ (a:List UInt8):Option (Int×Nat×LA):=xdd a none some
theorem xkT (a:List UInt8):Enc (fun (p:Int×Nat×LA)=>(((AV.tuple [AV.int .i64 p.1,.top],([⟨0,2,137,[AV.agg [AV.own 0 0 0 0,AV.osl 1 0 0 p.2.1]],false,false⟩,⟨0,1,5,p.2.2,false,true⟩]:List Box))):(AV×List Box))) (xaJ a) (XFM Tryz.prog xcj Tryz.f115 (Tryz.f115.body.getD .skip) [AV.own (0:Id) 0 0 0,AV.str a] [{ ver:=0,sz:=2,ty:=(137:TypeId),xs:=[AV.agg [AV.nilptr,AV.nils]],frz:=false,pm:=true }]):=by
 refine eV (xdd a none (fun (p:Int×Nat×LA)=>some (((AV.tuple [AV.int .i64 p.1,.top],([⟨0,2,137,[AV.agg [AV.own 0 0 0 0,AV.osl 1 0 0 p.2.1]],false,false⟩,⟨0,1,5,p.2.2,false,true⟩]:List Box))):(AV×List Box)))) (by kernel_rfl) ?_;unfold xaJ xdd;repeat' first|exact eN|exact eS rfl|apply eB
def xgB:LA→List Box→Option (Bool×AV×List Box):=omOf (sCons (sEq (pOwn 0 0 0 0)) (sCons (sEq pStr) sNil)) (pCons (pBox 0 2 (137:TypeId) false true (pCons (pAgg (pCons pNilptr (pCons pNils pNil))) pNil)) pNil) fun (_,(a,_)) (((_,(_,_)),_),_)=>((xaJ a).isSome,((AV.tuple [AV.int .i64 ((xaJ a).getD (0,0,[])).1,.top],([⟨0,2,137,[AV.agg [AV.own 0 0 0 0,AV.osl 1 0 0 ((xaJ a).getD (0,0,[])).2.1]],false,false⟩,⟨0,1,5,((xaJ a).getD (0,0,[])).2.2,false,true⟩]:List Box))))
theorem xkP:OmOk Tryz.prog ITryz 115 (xgB):=xfj fun c e h g f=>by
 obtain ⟨_,⟨i,_⟩⟩:=c
 obtain ⟨⟨⟨_,⟨_,_⟩⟩,_⟩,_⟩:=e
 obtain ⟨a,b⟩:=Prod.mk.inj f
 refine xdB (p:=xcj.pin) (xd3 mxTryz (inv0Ok Tryz.prog _) rfl xjn rfl Tryz.func115 rfl (by kernel_rfl) xim ((xkT _ _ (xaj (d:=(0,0,[])) a)).trans ?_))
 exact congrArg some b
def xz3:Env:=E0.withM 115 xgB
theorem xwa:OrcOk Tryz.prog ITryz xz3:=xzq.withM xkP
def xb8:Env:=xz3.fn 19 2 (lsOf []) (lpsOf [])
theorem xja:OrcOk Tryz.prog (ITryz.at 2) xb8:=xwa.fn
theorem xib:LoOk Tryz.prog (ITryz.at xb8.pin) xb8 (Tryz.f115.body.getD .skip):=xaH (by kernel_rfl)
def xc3 {T:Type} (a:List UInt8) (n:Nat) (b:LA) (δ:T) (κ:Int×Nat×LA→T):T:=br (n==b.length&&(decide ((n+(byteAVs a).length)*1≤140737488355328)&&decide (n+(byteAVs a).length≤4611686018427387904))) (κ ((↑a.length:Int),n+(byteAVs a).length,b++byteAVs a)) δ
def xaG (a:List UInt8) (n:Nat) (b:LA):Option (Int×Nat×LA):=xc3 a n b none some
theorem xko (a:List UInt8) (n:Nat) (xs:LA):Enc (fun (p:Int×Nat×LA)=>(((AV.tuple [AV.int .i64 p.1,.top],([⟨0,2,137,[AV.agg [AV.own 0 0 0 0,AV.osl 1 1 0 p.2.1]],false,false⟩,⟨1,1,5,p.2.2,false,true⟩]:List Box))):(AV×List Box))) (xaG a n xs) (XFM Tryz.prog xb8 Tryz.f115 (Tryz.f115.body.getD .skip) [AV.own (0:Id) 0 0 0,AV.str a] [{ ver:=0,sz:=2,ty:=(137:TypeId),xs:=[AV.agg [AV.own (0:Id) 0 0 0,AV.osl (1:Id) 0 0 n]],frz:=false,pm:=false },{ ver:=0,sz:=1,ty:=(5:TypeId),xs:=xs,frz:=false,pm:=true }]):=by
 refine eV (xc3 a n xs none (fun (p:Int×Nat×LA)=>some (((AV.tuple [AV.int .i64 p.1,.top],([⟨0,2,137,[AV.agg [AV.own 0 0 0 0,AV.osl 1 1 0 p.2.1]],false,false⟩,⟨1,1,5,p.2.2,false,true⟩]:List Box))):(AV×List Box)))) (by kernel_rfl) ?_;unfold xaG xc3;repeat' first|exact eN|exact eS rfl|apply eB
def xgr:LA→List Box→Option (Bool×AV×List Box):=omOf (sCons (sEq (pOwn 0 0 0 0)) (sCons (sEq pStr) sNil)) (pCons (pBox 0 2 (137:TypeId) false false (pCons (pAgg (pCons (pOwn 0 0 0 0) (pCons (pOsl 1 0 0) pNil))) pNil)) (pCons (pBox 0 1 (5:TypeId) false true pAny) pNil)) fun (_,(a,_)) (((_,(n,_)),_),(b,_))=>((xaG a n b).isSome,((AV.tuple [AV.int .i64 ((xaG a n b).getD (0,0,[])).1,.top],([⟨0,2,137,[AV.agg [AV.own 0 0 0 0,AV.osl 1 1 0 ((xaG a n b).getD (0,0,[])).2.1]],false,false⟩,⟨1,1,5,((xaG a n b).getD (0,0,[])).2.2,false,true⟩]:List Box))))
theorem xky:OmOk Tryz.prog ITryz 115 (xgr):=xfj fun c e h g f=>by
 obtain ⟨_,⟨i,_⟩⟩:=c
 obtain ⟨⟨⟨_,⟨n,_⟩⟩,_⟩,⟨j,_⟩⟩:=e
 obtain ⟨a,b⟩:=Prod.mk.inj f
 refine xdB (p:=xb8.pin) (xd3 mxTryz (inv0Ok Tryz.prog _) rfl xja rfl Tryz.func115 rfl (by kernel_rfl) xib ((xko _ _ _ _ (xaj (d:=(0,0,[])) a)).trans ?_))
 exact congrArg some b
def xAa:Env:=xz3.withM 115 xgr
theorem xwA:OrcOk Tryz.prog ITryz xAa:=xwa.withM xky
def xcb:Env:=xAa.fn 19 2 (lsOf []) (lpsOf [])
theorem xje:OrcOk Tryz.prog (ITryz.at 2) xcb:=xwA.fn
theorem xia:LoOk Tryz.prog (ITryz.at xcb.pin) xcb (Tryz.f115.body.getD .skip):=xaH (by kernel_rfl)
def xel {T:Type} (a:List UInt8) (n:Nat) (b:LA) (δ:T) (κ:Int×Nat×LA→T):T:=br (n==b.length&&(decide ((n+(byteAVs a).length)*1≤140737488355328)&&decide (n+(byteAVs a).length≤4611686018427387904))) (κ ((↑a.length:Int),n+(byteAVs a).length,b++byteAVs a)) δ
def xbP (a:List UInt8) (n:Nat) (b:LA):Option (Int×Nat×LA):=xel a n b none some
theorem xkw (a:List UInt8) (n:Nat) (xs:LA):Enc (fun (p:Int×Nat×LA)=>(((AV.tuple [AV.int .i64 p.1,.top],([⟨0,2,137,[AV.agg [AV.own 0 0 0 0,AV.osl 1 2 0 p.2.1]],false,false⟩,⟨2,1,5,p.2.2,false,true⟩]:List Box))):(AV×List Box))) (xbP a n xs) (XFM Tryz.prog xcb Tryz.f115 (Tryz.f115.body.getD .skip) [AV.own (0:Id) 0 0 0,AV.str a] [{ ver:=0,sz:=2,ty:=(137:TypeId),xs:=[AV.agg [AV.own (0:Id) 0 0 0,AV.osl (1:Id) 1 0 n]],frz:=false,pm:=false },{ ver:=1,sz:=1,ty:=(5:TypeId),xs:=xs,frz:=false,pm:=true }]):=by
 refine eV (xel a n xs none (fun (p:Int×Nat×LA)=>some (((AV.tuple [AV.int .i64 p.1,.top],([⟨0,2,137,[AV.agg [AV.own 0 0 0 0,AV.osl 1 2 0 p.2.1]],false,false⟩,⟨2,1,5,p.2.2,false,true⟩]:List Box))):(AV×List Box)))) (by kernel_rfl) ?_;unfold xbP xel;repeat' first|exact eN|exact eS rfl|apply eB
def xgu:LA→List Box→Option (Bool×AV×List Box):=omOf (sCons (sEq (pOwn 0 0 0 0)) (sCons (sEq pStr) sNil)) (pCons (pBox 0 2 (137:TypeId) false false (pCons (pAgg (pCons (pOwn 0 0 0 0) (pCons (pOsl 1 1 0) pNil))) pNil)) (pCons (pBox 1 1 (5:TypeId) false true pAny) pNil)) fun (_,(a,_)) (((_,(n,_)),_),(b,_))=>((xbP a n b).isSome,((AV.tuple [AV.int .i64 ((xbP a n b).getD (0,0,[])).1,.top],([⟨0,2,137,[AV.agg [AV.own 0 0 0 0,AV.osl 1 2 0 ((xbP a n b).getD (0,0,[])).2.1]],false,false⟩,⟨2,1,5,((xbP a n b).getD (0,0,[])).2.2,false,true⟩]:List Box))))
theorem xkr:OmOk Tryz.prog ITryz 115 (xgu):=xfj fun c e h g f=>by
 obtain ⟨_,⟨i,_⟩⟩:=c
 obtain ⟨⟨⟨_,⟨n,_⟩⟩,_⟩,⟨j,_⟩⟩:=e
 obtain ⟨a,b⟩:=Prod.mk.inj f
 refine xdB (p:=xcb.pin) (xd3 mxTryz (inv0Ok Tryz.prog _) rfl xje rfl Tryz.func115 rfl (by kernel_rfl) xia ((xkw _ _ _ _ (xaj (d:=(0,0,[])) a)).trans ?_))
 exact congrArg some b
def xzC:Env:=xAa.withM 115 xgu
theorem xvX:OrcOk Tryz.prog ITryz xzC:=xwA.withM xkr
def xbM:Env:=xzC.fn 17 1 (lsOf []) (lpsOf [])
theorem xj9:OrcOk Tryz.prog (ITryz.at 1) xbM:=xvX.fn
theorem xi0:LoOk Tryz.prog (ITryz.at xbM.pin) xbM (Tryz.f117.body.getD .skip):=xaH (by kernel_rfl)
def xfs (c:Int):Int:=((c))
def xgE (c:Int):Bool:=true
def xhw {T:Type} (c:Int) (δ:T) (κ:Int→T):T:=κ (c)
theorem xlO (c:Int):Pre (xgE c) (XFM Tryz.prog xbM Tryz.f117 (Tryz.f117.body.getD .skip) [AV.own (0:Id) 0 0 0,AV.int .u8 c] [{ ver:=0,sz:=2,ty:=(137:TypeId),xs:=[AV.agg [AV.nilptr,AV.nils]],frz:=false,pm:=true }]) ((.top,([⟨0,2,137,[AV.agg [AV.own 0 0 0 0,AV.osl 1 0 0 1]],false,false⟩,⟨0,1,5,[AV.int .u8 (xfs c)],false,true⟩]:List Box))):=by
 have h:XFM Tryz.prog xbM Tryz.f117 (Tryz.f117.body.getD .skip) [AV.own (0:Id) 0 0 0,AV.int .u8 c] [{ ver:=0,sz:=2,ty:=(137:TypeId),xs:=[AV.agg [AV.nilptr,AV.nils]],frz:=false,pm:=true }]=xhw c none (fun (p:Int)=>some (((.top,([⟨0,2,137,[AV.agg [AV.own 0 0 0 0,AV.osl 1 0 0 1]],false,false⟩,⟨0,1,5,[AV.int .u8 p],false,true⟩]:List Box))):(AV×List Box))):=by kernel_rfl
 rw [h];unfold xfs xgE xhw;repeat' (first|exact Pre.none|exact Pre.tt rfl|exact Pre.some rfl|refine Pre.l ?_|refine Pre.r ?_|refine Pre.br (f:=fun (p:Int)=>(((.top,([⟨0,2,137,[AV.agg [AV.own 0 0 0 0,AV.osl 1 0 0 1]],false,false⟩,⟨0,1,5,[AV.int .u8 p],false,true⟩]:List Box))):(AV×List Box))) ?_ ?_|refine Pre.brt (f:=fun (p:Int)=>(((.top,([⟨0,2,137,[AV.agg [AV.own 0 0 0 0,AV.osl 1 0 0 1]],false,false⟩,⟨0,1,5,[AV.int .u8 p],false,true⟩]:List Box))):(AV×List Box))) ?_ ?_)
def xhv:LA→List Box→Option (Bool×AV×List Box):=omOf (sCons (sEq (pOwn 0 0 0 0)) (sCons (sEq (pInt .u8)) sNil)) (pCons (pBox 0 2 (137:TypeId) false true (pCons (pAgg (pCons pNilptr (pCons pNils pNil))) pNil)) pNil) fun (_,(c,_)) (((_,(_,_)),_),_)=>(true,((.top,([⟨0,2,137,[AV.agg [AV.own 0 0 0 0,AV.osl 1 0 0 1]],false,false⟩,⟨0,1,5,[AV.int .u8 (xfs c)],false,true⟩]:List Box))))
theorem xlR:OmOk Tryz.prog ITryz 117 (xhv):=xfj fun b d h f e=>by
 obtain ⟨_,⟨c,_⟩⟩:=b
 obtain ⟨⟨⟨_,⟨_,_⟩⟩,_⟩,_⟩:=d
 obtain ⟨g,a⟩:=Prod.mk.inj e
 refine xdB (p:=xbM.pin) (xd3 mxTryz (inv0Ok Tryz.prog _) rfl xj9 rfl Tryz.func117 rfl (by kernel_rfl) xi0 ((Pre.get (xlO _) rfl).trans ?_))
 exact congrArg some a
def xzt:Env:=xzC.withM 117 xhv
theorem xv6:OrcOk Tryz.prog ITryz xzt:=xvX.withM xlR
def xcv:Env:=xzt.fn 17 2 (lsOf []) (lpsOf [])
theorem xjW:OrcOk Tryz.prog (ITryz.at 2) xcv:=xv6.fn
theorem xiA:LoOk Tryz.prog (ITryz.at xcv.pin) xcv (Tryz.f117.body.getD .skip):=xaH (by kernel_rfl)
def xeL {T:Type} (c:Int) (n:Nat) (a:LA) (δ:T) (κ:Nat×LA→T):T:=br (n==a.length&&(decide ((n+1)*1≤140737488355328)&&decide (n+1≤4611686018427387904))) (κ (n+1,a++[AV.int .u8 c])) δ
def xbt (c:Int) (n:Nat) (a:LA):Option (Nat×LA):=xeL c n a none some
theorem xlp (c:Int) (n:Nat) (xs:LA):Enc (fun (p:Nat×LA)=>(((.top,([⟨0,2,137,[AV.agg [AV.own 0 0 0 0,AV.osl 1 1 0 p.1]],false,false⟩,⟨1,1,5,p.2,false,true⟩]:List Box))):(AV×List Box))) (xbt c n xs) (XFM Tryz.prog xcv Tryz.f117 (Tryz.f117.body.getD .skip) [AV.own (0:Id) 0 0 0,AV.int .u8 c] [{ ver:=0,sz:=2,ty:=(137:TypeId),xs:=[AV.agg [AV.own (0:Id) 0 0 0,AV.osl (1:Id) 0 0 n]],frz:=false,pm:=false },{ ver:=0,sz:=1,ty:=(5:TypeId),xs:=xs,frz:=false,pm:=true }]):=by
 refine eV (xeL c n xs none (fun (p:Nat×LA)=>some (((.top,([⟨0,2,137,[AV.agg [AV.own 0 0 0 0,AV.osl 1 1 0 p.1]],false,false⟩,⟨1,1,5,p.2,false,true⟩]:List Box))):(AV×List Box)))) (by kernel_rfl) ?_;unfold xbt xeL;repeat' first|exact eN|exact eS rfl|apply eB
def xgx:LA→List Box→Option (Bool×AV×List Box):=omOf (sCons (sEq (pOwn 0 0 0 0)) (sCons (sEq (pInt .u8)) sNil)) (pCons (pBox 0 2 (137:TypeId) false false (pCons (pAgg (pCons (pOwn 0 0 0 0) (pCons (pOsl 1 0 0) pNil))) pNil)) (pCons (pBox 0 1 (5:TypeId) false true pAny) pNil)) fun (_,(c,_)) (((_,(n,_)),_),(a,_))=>((xbt c n a).isSome,((.top,([⟨0,2,137,[AV.agg [AV.own 0 0 0 0,AV.osl 1 1 0 ((xbt c n a).getD (0,[])).1]],false,false⟩,⟨1,1,5,((xbt c n a).getD (0,[])).2,false,true⟩]:List Box))))
theorem xlu:OmOk Tryz.prog ITryz 117 (xgx):=xfj fun e f i h g=>by
 obtain ⟨_,⟨c,_⟩⟩:=e
 obtain ⟨⟨⟨_,⟨n,_⟩⟩,_⟩,⟨j,_⟩⟩:=f
 obtain ⟨a,b⟩:=Prod.mk.inj g
 refine xdB (p:=xcv.pin) (xd3 mxTryz (inv0Ok Tryz.prog _) rfl xjW rfl Tryz.func117 rfl (by kernel_rfl) xiA ((xlp _ _ _ _ (xaj (d:=(0,[])) a)).trans ?_))
 exact congrArg some b
def xzX:Env:=xzt.withM 117 xgx
theorem xv7:OrcOk Tryz.prog ITryz xzX:=xv6.withM xlu
def xcy:Env:=xzX.fn 17 2 (lsOf []) (lpsOf [])
theorem xjU:OrcOk Tryz.prog (ITryz.at 2) xcy:=xv7.fn
theorem xiB:LoOk Tryz.prog (ITryz.at xcy.pin) xcy (Tryz.f117.body.getD .skip):=xaH (by kernel_rfl)
def xdh {T:Type} (c:Int) (n:Nat) (a:LA) (δ:T) (κ:Nat×LA→T):T:=br (n==a.length&&(decide ((n+1)*1≤140737488355328)&&decide (n+1≤4611686018427387904))) (κ (n+1,a++[AV.int .u8 c])) δ
def xbe (c:Int) (n:Nat) (a:LA):Option (Nat×LA):=xdh c n a none some
theorem xlA (c:Int) (n:Nat) (xs:LA):Enc (fun (p:Nat×LA)=>(((.top,([⟨0,2,137,[AV.agg [AV.own 0 0 0 0,AV.osl 1 2 0 p.1]],false,false⟩,⟨2,1,5,p.2,false,true⟩]:List Box))):(AV×List Box))) (xbe c n xs) (XFM Tryz.prog xcy Tryz.f117 (Tryz.f117.body.getD .skip) [AV.own (0:Id) 0 0 0,AV.int .u8 c] [{ ver:=0,sz:=2,ty:=(137:TypeId),xs:=[AV.agg [AV.own (0:Id) 0 0 0,AV.osl (1:Id) 1 0 n]],frz:=false,pm:=false },{ ver:=1,sz:=1,ty:=(5:TypeId),xs:=xs,frz:=false,pm:=true }]):=by
 refine eV (xdh c n xs none (fun (p:Nat×LA)=>some (((.top,([⟨0,2,137,[AV.agg [AV.own 0 0 0 0,AV.osl 1 2 0 p.1]],false,false⟩,⟨2,1,5,p.2,false,true⟩]:List Box))):(AV×List Box)))) (by kernel_rfl) ?_;unfold xbe xdh;repeat' first|exact eN|exact eS rfl|apply eB
def xg4:LA→List Box→Option (Bool×AV×List Box):=omOf (sCons (sEq (pOwn 0 0 0 0)) (sCons (sEq (pInt .u8)) sNil)) (pCons (pBox 0 2 (137:TypeId) false false (pCons (pAgg (pCons (pOwn 0 0 0 0) (pCons (pOsl 1 1 0) pNil))) pNil)) (pCons (pBox 1 1 (5:TypeId) false true pAny) pNil)) fun (_,(c,_)) (((_,(n,_)),_),(a,_))=>((xbe c n a).isSome,((.top,([⟨0,2,137,[AV.agg [AV.own 0 0 0 0,AV.osl 1 2 0 ((xbe c n a).getD (0,[])).1]],false,false⟩,⟨2,1,5,((xbe c n a).getD (0,[])).2,false,true⟩]:List Box))))
theorem xlv:OmOk Tryz.prog ITryz 117 (xg4):=xfj fun e f i h g=>by
 obtain ⟨_,⟨c,_⟩⟩:=e
 obtain ⟨⟨⟨_,⟨n,_⟩⟩,_⟩,⟨j,_⟩⟩:=f
 obtain ⟨a,b⟩:=Prod.mk.inj g
 refine xdB (p:=xcy.pin) (xd3 mxTryz (inv0Ok Tryz.prog _) rfl xjU rfl Tryz.func117 rfl (by kernel_rfl) xiB ((xlA _ _ _ _ (xaj (d:=(0,[])) a)).trans ?_))
 exact congrArg some b
def xEa:Env:=xzX.withM 117 xg4
theorem xCX:OrcOk Tryz.prog ITryz xEa:=xv7.withM xlv
abbrev EK1:Env:=xEa
theorem xB0:OrcOk Tryz.prog ITryz EK1:=xCX
end Go.Sim.M
end
noncomputable section
set_option maxRecDepth 100000
namespace Go.Sim.M
open Go.IntKind (i64 u64 u8)
open Go.RowKit Go.Proofs
def xfD:Env:=EK1.fn 18 0 (lsOf []) (lpsOf [])
theorem xqJ:OrcOk Tryz.prog (ITryz.at 0) xfD:=xB0.fn
theorem xpE:LoOk Tryz.prog (ITryz.at xfD.pin) xfD (Tryz.f52.body.getD .skip):=xaH (by kernel_rfl)
def xeB (a b:Int):Bool:=(br (decide (a≥0)) (br (decide (a<b)) ((decide (b≤1099511627776))) ((false))) ((false)))
def xnD (a b:Int):Bool:=true
def xpc {T:Type} (a b:Int) (δ:T) (κ:Bool→T):T:=br (decide (a≥0)) (br (decide (a<b)) (κ (decide (b≤1099511627776))) (κ (false))) (κ (false))
theorem xt6 (a b:Int):Pre (xnD a b) (XF Tryz.prog xfD Tryz.f52 (Tryz.f52.body.getD .skip) [AV.agg [AV.int .i64 a,AV.int .i64 b]]) (AV.bool (xeB a b)):=by
 have h:XF Tryz.prog xfD Tryz.f52 (Tryz.f52.body.getD .skip) [AV.agg [AV.int .i64 a,AV.int .i64 b]]=xpc a b none (fun (p:Bool)=>some ((AV.bool p):AV)):=by kernel_rfl
 rw [h];unfold xeB xnD xpc;repeat' (first|exact Pre.none|exact Pre.tt rfl|exact Pre.some rfl|refine Pre.l ?_|refine Pre.r ?_|refine Pre.br (f:=fun (p:Bool)=>((AV.bool p):AV)) ?_ ?_|refine Pre.brt (f:=fun (p:Bool)=>((AV.bool p):AV)) ?_ ?_)
def xph:LA→Option (Bool×AV):=ocOf (sCons (sAgg (sCons (sEq (pInt .i64)) (sCons (sEq (pInt .i64)) sNil))) sNil) fun ((a,(b,_)),_)=>(true,(AV.bool (xeB a b)))
theorem xt4:OcOk Tryz.prog ITryz 52 (xph):=xcd fun b g c=>by
 obtain ⟨⟨d,⟨e,_⟩⟩,_⟩:=b
 obtain ⟨f,a⟩:=Prod.mk.inj c
 refine xbd (p:=xfD.pin) (xbI mxTryz (inv0Ok Tryz.prog _) rfl xqJ Tryz.func52 rfl (by kernel_rfl) xpE ((Pre.get (xt6 _ _) rfl).trans ?_))
 exact congrArg some a
def xtB:Env:=EK1.with 52 xph
theorem xpI:OrcOk Tryz.prog ITryz xtB:=xB0.with xt4
def xfS:Env:=xtB.fn 37 0 (lsOf []) (lpsOf [])
theorem xq6:OrcOk Tryz.prog (ITryz.at 0) xfS:=xpI.fn
theorem xo1:LoOk Tryz.prog (ITryz.at xfS.pin) xfS (loopAt Tryz.f91 1):=xaH (by kernel_rfl)
def xft (b:Int) (a:LA):=((a.getD (0+b.toNat) .top).cells.getD 0 .top).toInt
def xiI (d:Int) (c:Nat) (b a:LA):=((xaG (Lib.itoa (xft d b)) c a).getD (0,0,[])).snd
def xi6 (d:Int) (c:Nat) (b a:LA):=xbe 32 (xiI d c b a).fst (xiI d c b a).snd
def xiK (d:Int) (c:Nat) (b a:LA):=(xi6 d c b a).getD (0,[])
def xfW {T:Type} (k:LA) (l j:Int) (e:Nat) (i c:Int) (d:Nat) (f g:Int) (h:List UInt8) (a b:LA) (δ:T) (κl:(Int×Nat×Int×Int×List UInt8×LA×LA)→T) (κr:(Nat×Int×Int×List UInt8×LA)→T):T:=br (decide (c<i)) (br (decide (0≤c)&&decide (c<(↑e:Int))) (br (decide (0+c.toNat<a.length)&&hasSh1 (Sh.int .i64) ((a.getD (0+c.toNat) .top).cells.getD 0 .top)) (br (decide ((-9223372036854775808)≤xft c a)&&decide (xft c a≤9223372036854775807)) (br ((xaG (Lib.itoa (xft c a)) d b).isSome) (br ((xi6 c d a b).isSome) (κl (i64.wrap (c+1),(xiK c d a b).fst,f,g,h,a,(xiK c d a b).snd)) δ) δ) δ) δ) δ) (κr (d,f,g,h,b))
def xbb (k:LA) (l e:Int) (c:Nat) (f:Int):(Int×Nat×Int×Int×List UInt8×LA×LA)→Option ((Int×Nat×Int×Int×List UInt8×LA×LA)⊕(Nat×Int×Int×List UInt8×LA)):=fun (g,d,h,i,j,b,a)=>xfW k l e c f g d h i j b a none (fun s=>some (.inl s)) (fun p=>some (.inr p))
def xeM (k:LA) (l e:Int) (c:Nat) (f:Int):(Int×Nat×Int×Int×List UInt8×LA×LA)→LA×List Box:=fun (g,d,h,i,j,b,a)=>([AV.own 0 0 0 0,AV.own 1 0 0 0,AV.list 3 k,AV.int .i64 l,AV.int .i64 e,AV.osl 2 0 0 c,AV.int .i64 f,AV.int .i64 g],[⟨0,2,137,[AV.agg [AV.own 0 0 0 0,AV.osl 3 0 0 d]],false,false⟩,⟨0,3,73,[AV.agg [AV.int .i64 h,AV.int .i64 i,AV.str j]],false,true⟩,⟨0,1,3,b,false,true⟩,⟨0,1,5,a,false,true⟩])
def xd5 (c:LA) (d a:Int) (b:Nat) (e:Int):(Nat×Int×Int×List UInt8×LA)→LR:=fun p=>(.leaf (.exit 2) [AV.own 0 0 0 0,AV.own 1 0 0 0,AV.list 3 c,AV.int .i64 d,AV.int .i64 a] [⟨0,2,137,[AV.agg [AV.own 0 0 0 0,AV.osl 2 0 0 p.1]],false,false⟩,⟨0,3,73,[AV.agg [AV.int .i64 p.2.1,AV.int .i64 p.2.2.1,AV.str p.2.2.2.1]],false,true⟩,⟨0,1,5,p.2.2.2.2,false,true⟩])
abbrev xrF (a:LA) (H:List Box):=XR Tryz.prog xfS [3,5,8,9,10,21,22,23] [3,5,8,9,10] [] (loopAt Tryz.f91 1) a H
theorem xrH (d:LA) (e b:Int) (a:Nat) (c:Int) (s:Int×Nat×Int×Int×List UInt8×LA×LA):Enc (encR (xeM d e b a c) (xd5 d e b a c)) (xbb d e b a c s) (xrF (xeM d e b a c s).1 (xeM d e b a c s).2):=by
 obtain ⟨i,h,j,k,l,g,f⟩:=s
 refine eV (xfW d e b a c i h j k l g f none (fun s=>some (encR (xeM d e b a c) (xd5 d e b a c) (.inl s))) (fun p=>some (encR (xeM d e b a c) (xd5 d e b a c) (.inr p)))) (by kernel_rfl) ?_;unfold xbb xfW;repeat' first|exact eN|exact eS rfl|apply eB
def xiE:Lp:=lpOf [3,5,8,9,10,21,22,23] [3,5,8,9,10] [] (pCons (pOwn 0 0 0 0) (pCons (pOwn 1 0 0 0) (pCons (pList 3 pAny) (pCons (pInt .i64) (pCons (pInt .i64) (pCons (pOsl 2 0 0) (pCons (pInt .i64) (pCons (pInt .i64) pNil)))))))) (pCons (pBox 0 2 137 false false (pCons (pAgg (pCons (pOwn 0 0 0 0) (pCons (pOsl 3 0 0) pNil))) pNil)) (pCons (pBox 0 3 73 false true (pCons (pAgg (pCons (pInt .i64) (pCons (pInt .i64) (pCons pStr pNil)))) pNil)) (pCons (pBox 0 1 3 false true pAny) (pCons (pBox 0 1 5 false true pAny) pNil)))) fun (_,(_,(k,(l,(d,(b,(e,(g,_)))))))) (((_,(f,_)),_),(((h,(i,(j,_))),_),(c,(a,_))))=>((Iter (xbb k l d b e) (g,f,h,i,j,c,a)).isSome,xd5 k l d b e ((Iter (xbb k l d b e) (g,f,h,i,j,c,a)).getD (0,0,0,[],[])))
theorem xlX:LoopOk Tryz.prog (ITryz.at xfS.pin) xfS.nt (loopAt Tryz.f91 1) xiE:=xcw fun n o r q=>by
 obtain ⟨_,⟨_,⟨f,⟨g,⟨c,⟨a,⟨d,⟨i,_⟩⟩⟩⟩⟩⟩⟩⟩:=n
 obtain ⟨⟨⟨_,⟨h,_⟩⟩,_⟩,⟨⟨⟨j,⟨k,⟨l,_⟩⟩⟩,_⟩,⟨e,⟨b,_⟩⟩⟩⟩:=o
 obtain ⟨m,rfl⟩:=Prod.mk.inj q
 exact xaP mxTryz (inv0Ok Tryz.prog _) rfl xq6 xo1 (xeM f g c a d) (xd5 f g c a d) (fun p=>by simp only [xd5,LR.eval];first|(simp;done)|(repeat' split<;>simp)) (xrH f g c a d) (s:=(i,h,j,k,l,e,b)) (xaj m)
def xfL:Env:=xtB.fn 37 0 (lsOf []) (lpsOf [(6,xiE)])
theorem xqV:OrcOk Tryz.prog (ITryz.at 0) xfL:=xpI.fn
theorem xoD:LoOk Tryz.prog (ITryz.at xfL.pin) xfL (loopAt Tryz.f91 0):=xbT (ls:=[loopAt Tryz.f91 1]) (by kernel_rfl) (lkC xlX lkN)
def xi3 (b:LA) (e a:Int) (d:Nat) (c:LA):=Iter (xbb b e a 3 3) (0,d,((b.getD a.toNat .top).cells.getD 0 .top).toInt,((b.getD a.toNat .top).cells.getD 1 .top).toInt,((b.getD a.toNat .top).cells.getD 2 .top).toStr,[AV.int .i64 ((b.getD a.toNat .top).cells.getD 0 .top).toInt,AV.int .i64 ((b.getD a.toNat .top).cells.getD 1 .top).toInt,AV.int .i64 (↑((b.getD a.toNat .top).cells.getD 2 .top).toStr.length:Int)],c)
def xjg (d:LA) (e c:Int) (b:Nat) (a:LA):=(xi3 d e c b a).getD (0,0,0,[],[])
def xi1 (d:LA) (e c:Int) (b:Nat) (a:LA):=(xjg d e c b a).snd.snd.snd
def xjd (d:LA) (e c:Int) (b:Nat) (a:LA):=xaG (xi1 d e c b a).fst (xjg d e c b a).fst (xi1 d e c b a).snd
def xiW (d:LA) (e c:Int) (b:Nat) (a:LA):=((xjd d e c b a).getD (0,0,[])).snd
def xfx {T:Type} (d:LA) (e b:Int) (c:Nat) (a:LA) (δ:T) (κl:(Int×Nat×LA)→T) (κr:(Nat×LA)→T):T:=br (decide (b<e)) (br (decide (0≤b)&&decide (b<d.length)) (br (decide (b.toNat<d.length)&&((d.getD b.toNat .top).cells.length==3&&hasShs [Sh.int .i64,Sh.int .i64,Sh.str] (d.getD b.toNat .top).cells 0)) (br ((xi3 d e b c a).isSome) (br ((xjd d e b c a).isSome) (κl (i64.wrap (b+1),(xiW d e b c a).fst,(xiW d e b c a).snd)) δ) δ) δ) δ) (κr (c,a))
def xb5 (d:LA) (e:Int):(Int×Nat×LA)→Option ((Int×Nat×LA)⊕(Nat×LA)):=fun (c,b,a)=>xfx d e c b a none (fun s=>some (.inl s)) (fun p=>some (.inr p))
def xeO (d:LA) (e:Int):(Int×Nat×LA)→LA×List Box:=fun (c,b,a)=>([AV.own 0 0 0 0,AV.list 3 d,AV.int .i64 e,AV.int .i64 c],[⟨0,2,137,[AV.agg [AV.own 0 0 0 0,AV.osl 1 0 0 b]],false,false⟩,⟨0,1,5,a,false,true⟩])
def xd9 (a:LA) (b:Int):(Nat×LA)→LR:=fun p=>(.leaf (.exit 0) [AV.own 0 0 0 0] [⟨0,2,137,[AV.agg [AV.own 0 0 0 0,AV.osl 1 0 0 p.1]],false,false⟩,⟨0,1,5,p.2,false,true⟩])
abbrev xrN (a:LA) (H:List Box):=XR Tryz.prog xfL [3,8,9,10] [3] [] (loopAt Tryz.f91 0) a H
theorem xrL (a:LA) (b:Int) (s:Int×Nat×LA):Enc (encR (xeO a b) (xd9 a b)) (xb5 a b s) (xrN (xeO a b s).1 (xeO a b s).2):=by
 obtain ⟨e,d,c⟩:=s
 refine eV (xfx a b e d c none (fun s=>some (encR (xeO a b) (xd9 a b) (.inl s))) (fun p=>some (encR (xeO a b) (xd9 a b) (.inr p)))) (by kernel_rfl) ?_;unfold xb5 xfx;repeat' first|exact eN|exact eS rfl|apply eB
def xmk:Lp:=lpOf [3,8,9,10] [3] [] (pCons (pOwn 0 0 0 0) (pCons (pList 3 pAny) (pCons (pInt .i64) (pCons (pInt .i64) pNil)))) (pCons (pBox 0 2 137 false false (pCons (pAgg (pCons (pOwn 0 0 0 0) (pCons (pOsl 1 0 0) pNil))) pNil)) (pCons (pBox 0 1 5 false true pAny) pNil)) fun (_,(d,(e,(c,_)))) (((_,(b,_)),_),(a,_))=>((Iter (xb5 d e) (c,b,a)).isSome,xd9 d e ((Iter (xb5 d e) (c,b,a)).getD (0,[])))
theorem xqo:LoopOk Tryz.prog (ITryz.at xfL.pin) xfL.nt (loopAt Tryz.f91 0) xmk:=xcw fun g h j i=>by
 obtain ⟨_,⟨b,⟨c,⟨e,_⟩⟩⟩⟩:=g
 obtain ⟨⟨⟨_,⟨d,_⟩⟩,_⟩,⟨a,_⟩⟩:=h
 obtain ⟨f,rfl⟩:=Prod.mk.inj i
 exact xaP mxTryz (inv0Ok Tryz.prog _) rfl xqV xoD (xeO b c) (xd9 b c) (fun p=>by simp only [xd9,LR.eval];first|(simp;done)|(repeat' split<;>simp)) (xrL b c) (s:=(e,d,a)) (xaj f)
def xgY:Env:=xtB.fn 37 0 (lsOf []) (lpsOf [(6,xiE),(3,xmk)])
theorem xqL:OrcOk Tryz.prog (ITryz.at 0) xgY:=xpI.fn
theorem xpM:LoOk Tryz.prog (ITryz.at xgY.pin) xgY (Tryz.f91.body.getD .skip):=xbT (ls:=[loopAt Tryz.f91 0,loopAt Tryz.f91 1]) (by kernel_rfl) (lkC xqo (lkC xlX lkN))
def xdy (a:LA):=((a.getD 0 .top).cells.getD 0 .top).toInt
def xly (a:LA):=xbt 32 ((xaJ (Lib.itoa (xdy a))).getD (0,0,[])).snd.fst ((xaJ (Lib.itoa (xdy a))).getD (0,0,[])).snd.snd
def xkZ (a:LA):=(xly a).getD (0,[])
def xle (a:LA):=Iter (xbb a (↑a.length:Int) 0 3 3) (1,(xkZ a).fst,xdy a,((a.getD 0 .top).cells.getD 1 .top).toInt,((a.getD 0 .top).cells.getD 2 .top).toStr,[AV.int .i64 (xdy a),AV.int .i64 ((a.getD 0 .top).cells.getD 1 .top).toInt,AV.int .i64 (↑((a.getD 0 .top).cells.getD 2 .top).toStr.length:Int)],(xkZ a).snd)
def xlc (a:LA):=(xle a).getD (0,0,0,[],[])
def xlt (a:LA):=(xlc a).snd.snd.snd
def xlf (a:LA):=xaG (xlt a).fst (xlc a).fst (xlt a).snd
def xk8 (a:LA):=((xlf a).getD (0,0,[])).snd
def xlr (a:LA):=Iter (xb5 a (↑a.length:Int)) (1,(xk8 a).fst,(xk8 a).snd)
def xlb (a:LA):=(xlr a).getD (0,[])
def xhk (a:LA):=(xlb a).snd
def xjJ {T:Type} (a:LA) (δ:T) (κ:List UInt8→T):T:=br (decide (0<(↑a.length:Int))) (br (decide (0<(↑a.length:Int))) (br (decide (0<a.length)&&((a.getD 0 .top).cells.length==3&&hasShs [Sh.int .i64,Sh.int .i64,Sh.str] (a.getD 0 .top).cells 0)) (br (decide ((-9223372036854775808)≤xdy a)&&decide (xdy a≤9223372036854775807)) (br ((xaJ (Lib.itoa (xdy a))).isSome) (br ((xly a).isSome) (br ((xle a).isSome) (br ((xlf a).isSome) (br ((xlr a).isSome) (br (decide ((xlb a).fst=(xhk a).length)&&isBytes (xhk a)&&decide ((xhk a).length≠0)) (κ (strOf (xhk a))) δ) δ) δ) δ) δ) δ) δ) δ) δ) (κ ([]))
def xeK (a:LA):Option (List UInt8):=xjJ a none some
theorem xuw (a:LA):Enc (fun (p:List UInt8)=>((AV.str p):AV)) (xeK a) (XF Tryz.prog xgY Tryz.f91 (Tryz.f91.body.getD .skip) [AV.list 3 a]):=by
 refine eV (xjJ a none (fun (p:List UInt8)=>some ((AV.str p):AV))) (by kernel_rfl) ?_;unfold xeK xjJ;repeat' first|exact eN|exact eS rfl|apply eB
def xo9:LA→Option (Bool×AV):=ocOf (sCons (sList 3 pAny) sNil) fun (a,_)=>((xeK a).isSome,(AV.str ((xeK a).getD [])))
theorem xul:OcOk Tryz.prog ITryz 91 (xo9):=xcd fun c g e=>by
 obtain ⟨f,_⟩:=c
 obtain ⟨a,b⟩:=Prod.mk.inj e
 refine xbd (p:=xgY.pin) (xbI mxTryz (inv0Ok Tryz.prog _) rfl xqL Tryz.func91 rfl (by kernel_rfl) xpM ((xuw _ _ (xaj (d:=[]) a)).trans ?_))
 exact congrArg some b
def xEj:Env:=xtB.with 91 xo9
theorem xDP:OrcOk Tryz.prog ITryz xEj:=xpI.with xul
abbrev EK2:Env:=xEj
theorem xCE:OrcOk Tryz.prog ITryz EK2:=xDP
end Go.Sim.M
end
noncomputable section
set_option maxRecDepth 100000
namespace Go.Sim.M
open Go.IntKind (i64 u64 u8)
open Go.RowKit Go.Proofs
def xhN:Env:=EK2.fn 6 0 (lsOf []) (lpsOf [])
theorem xtL:OrcOk Tryz.prog (ITryz.at 0) xhN:=xCE.fn
theorem xrC:LoOk Tryz.prog (ITryz.at xhN.pin) xhN (Tryz.f84.body.getD .skip):=xaH (by kernel_rfl)
def xge (x:Int):Bool:=((x != x))
def xqa (x:Int):Bool:=true
def xr3 {T:Type} (x:Int) (δ:T) (κ:Bool→T):T:=κ (x != x)
theorem xw7 (x:Int):Pre (xqa x) (XF Tryz.prog xhN Tryz.f84 (Tryz.f84.body.getD .skip) [AV.int .i64 x]) (AV.bool (xge x)):=by
 have h:XF Tryz.prog xhN Tryz.f84 (Tryz.f84.body.getD .skip) [AV.int .i64 x]=xr3 x none (fun (p:Bool)=>some ((AV.bool p):AV)):=by kernel_rfl
 rw [h];unfold xge xqa xr3;repeat' (first|exact Pre.none|exact Pre.tt rfl|exact Pre.some rfl|refine Pre.l ?_|refine Pre.r ?_|refine Pre.br (f:=fun (p:Bool)=>((AV.bool p):AV)) ?_ ?_|refine Pre.brt (f:=fun (p:Bool)=>((AV.bool p):AV)) ?_ ?_)
def xsa:LA→Option (Bool×AV):=ocOf (sCons (sEq (pInt .i64)) sNil) fun (x,_)=>(true,(AV.bool (xge x)))
theorem xyH:OcOk Tryz.prog ITryz 84 (xsa):=xcd fun b e c=>by
 obtain ⟨x,_⟩:=b
 obtain ⟨d,a⟩:=Prod.mk.inj c
 refine xbd (p:=xhN.pin) (xbI mxTryz (inv0Ok Tryz.prog _) rfl xtL Tryz.func84 rfl (by kernel_rfl) xrC ((Pre.get (xw7 _) rfl).trans ?_))
 exact congrArg some a
def xzM:Env:=EK2.with 84 xsa
theorem xv2:OrcOk Tryz.prog ITryz xzM:=xCE.with xyH
def xgg:Env:=xzM.fn 20 0 (lsOf []) (lpsOf [])
theorem xrK:OrcOk Tryz.prog (ITryz.at 0) xgg:=xv2.fn
theorem xqf:LoOk Tryz.prog (ITryz.at xgg.pin) xgg (Tryz.f54.body.getD .skip):=xaH (by kernel_rfl)
def xfq (x y:Int):Int:=(br (xge x) (br (xge y) ((0)) (((-1)))) (br (xge y) ((1)) (br (decide (x<y)) (((-1))) (br (decide (x>y)) ((1)) ((0))))))
def xor (x y:Int):Bool:=true
def xp0 {T:Type} (x y:Int) (δ:T) (κ:Int→T):T:=br (xge x) (br (xge y) (κ (0)) (κ ((-1)))) (br (xge y) (κ (1)) (br (decide (x<y)) (κ ((-1))) (br (decide (x>y)) (κ (1)) (κ (0)))))
theorem xvA (x y:Int):Pre (xor x y) (XF Tryz.prog xgg Tryz.f54 (Tryz.f54.body.getD .skip) [AV.int .i64 x,AV.int .i64 y]) (AV.int .i64 (xfq x y)):=by
 have h:XF Tryz.prog xgg Tryz.f54 (Tryz.f54.body.getD .skip) [AV.int .i64 x,AV.int .i64 y]=xp0 x y none (fun (p:Int)=>some ((AV.int .i64 p):AV)):=by kernel_rfl
 rw [h];unfold xfq xor xp0;repeat' (first|exact Pre.none|exact Pre.tt rfl|exact Pre.some rfl|refine Pre.l ?_|refine Pre.r ?_|refine Pre.br (f:=fun (p:Int)=>((AV.int .i64 p):AV)) ?_ ?_|refine Pre.brt (f:=fun (p:Int)=>((AV.int .i64 p):AV)) ?_ ?_)
def xp5:LA→Option (Bool×AV):=ocOf (sCons (sEq (pInt .i64)) (sCons (sEq (pInt .i64)) sNil)) fun (x,(y,_))=>(true,(AV.int .i64 (xfq x y)))
theorem xvL:OcOk Tryz.prog ITryz 54 (xp5):=xcd fun b e c=>by
 obtain ⟨x,⟨y,_⟩⟩:=b
 obtain ⟨d,a⟩:=Prod.mk.inj c
 refine xbd (p:=xgg.pin) (xbI mxTryz (inv0Ok Tryz.prog _) rfl xrK Tryz.func54 rfl (by kernel_rfl) xqf ((Pre.get (xvA _ _) rfl).trans ?_))
 exact congrArg some a
def xAl:Env:=xzM.with 54 xp5
theorem xwz:OrcOk Tryz.prog ITryz xAl:=xv2.with xvL
def xiO:Env:=xAl.fn 18 0 (lsOf []) (lpsOf [])
theorem xws:OrcOk Tryz.prog (ITryz.at 0) xiO:=xwz.fn
theorem xuH:LoOk Tryz.prog (ITryz.at xiO.pin) xiO (Tryz.f71.body.getD .skip):=xbT (ls:=[loopAt Tryz.f71 0]) (by kernel_rfl) (fun l a lp b=>by
 simp only [List.mem_cons,List.not_mem_nil,or_false] at a
 rcases a with rfl
 · rw [show xiO.lp (codeId (loopAt Tryz.f71 0))=none by kernel_rfl] at b
   simp at b)
def xnU (a b c:Int):Int:=(br (a != 0) ((a)) (br (b != 0) ((b)) (br (c != 0) ((c)) ((0)))))
def xtY (a b c:Int):Bool:=true
def xwE {T:Type} (a b c:Int) (δ:T) (κ:Int→T):T:=br (a != 0) (κ (a)) (br (b != 0) (κ (b)) (br (c != 0) (κ (c)) (κ (0))))
theorem xCP (a b c:Int):Pre (xtY a b c) (XF Tryz.prog xiO Tryz.f71 (Tryz.f71.body.getD .skip) [AV.list 1 [AV.int .i64 a,AV.int .i64 b,AV.int .i64 c]]) (AV.int .i64 (xnU a b c)):=by
 have h:XF Tryz.prog xiO Tryz.f71 (Tryz.f71.body.getD .skip) [AV.list 1 [AV.int .i64 a,AV.int .i64 b,AV.int .i64 c]]=xwE a b c none (fun (p:Int)=>some ((AV.int .i64 p):AV)):=by kernel_rfl
 rw [h];unfold xnU xtY xwE;repeat' (first|exact Pre.none|exact Pre.tt rfl|exact Pre.some rfl|refine Pre.l ?_|refine Pre.r ?_|refine Pre.br (f:=fun (p:Int)=>((AV.int .i64 p):AV)) ?_ ?_|refine Pre.brt (f:=fun (p:Int)=>((AV.int .i64 p):AV)) ?_ ?_)
def xw4:LA→Option (Bool×AV):=ocOf (sCons (sList 1 (pCons (pInt .i64) (pCons (pInt .i64) (pCons (pInt .i64) pNil)))) sNil) fun ((a,(b,(c,_))),_)=>(true,(AV.int .i64 (xnU a b c)))
theorem xDw:OcOk Tryz.prog ITryz 71 (xw4):=xcd fun e h f=>by
 obtain ⟨⟨a,⟨b,⟨c,_⟩⟩⟩,_⟩:=e
 obtain ⟨g,d⟩:=Prod.mk.inj f
 refine xbd (p:=xiO.pin) (xbI mxTryz (inv0Ok Tryz.prog _) rfl xws Tryz.func71 rfl (by kernel_rfl) xuH ((Pre.get (xCP _ _ _) rfl).trans ?_))
 exact congrArg some d
def xzU:Env:=xAl.with 71 xw4
theorem xwX:OrcOk Tryz.prog ITryz xzU:=xwz.with xDw
def xfi:Env:=xzU.fn 22 0 (lsOf []) (lpsOf [])
theorem xqj:OrcOk Tryz.prog (ITryz.at 0) xfi:=xwX.fn
theorem xoM:LoOk Tryz.prog (ITryz.at xfi.pin) xfi (Tryz.f114.body.getD .skip):=xaH (by kernel_rfl)
def xbB (a b:Int) (c:List UInt8) (d e:Int) (f:List UInt8):Int:=((xnU (xfq a d) (xfq b e) (Lib.compareBytes c f)))
def xm4 (a b:Int) (c:List UInt8) (d e:Int) (f:List UInt8):Bool:=true
def xom {T:Type} (a b:Int) (c:List UInt8) (d e:Int) (f:List UInt8) (δ:T) (κ:Int→T):T:=κ (xnU (xfq a d) (xfq b e) (Lib.compareBytes c f))
theorem xsV (a b:Int) (c:List UInt8) (d e:Int) (g:List UInt8):Pre (xm4 a b c d e g) (XF Tryz.prog xfi Tryz.f114 (Tryz.f114.body.getD .skip) [AV.agg [AV.int .i64 a,AV.int .i64 b,AV.str c],AV.agg [AV.int .i64 d,AV.int .i64 e,AV.str g]]) (AV.int .i64 (xbB a b c d e g)):=by
 have h:XF Tryz.prog xfi Tryz.f114 (Tryz.f114.body.getD .skip) [AV.agg [AV.int .i64 a,AV.int .i64 b,AV.str c],AV.agg [AV.int .i64 d,AV.int .i64 e,AV.str g]]=xom a b c d e g none (fun (p:Int)=>some ((AV.int .i64 p):AV)):=by kernel_rfl
 rw [h];unfold xbB xm4 xom;repeat' (first|exact Pre.none|exact Pre.tt rfl|exact Pre.some rfl|refine Pre.l ?_|refine Pre.r ?_|refine Pre.br (f:=fun (p:Int)=>((AV.int .i64 p):AV)) ?_ ?_|refine Pre.brt (f:=fun (p:Int)=>((AV.int .i64 p):AV)) ?_ ?_)
def xoa:LA→Option (Bool×AV):=ocOf (sCons (sAgg (sCons (sEq (pInt .i64)) (sCons (sEq (pInt .i64)) (sCons (sEq pStr) sNil)))) (sCons (sAgg (sCons (sEq (pInt .i64)) (sCons (sEq (pInt .i64)) (sCons (sEq pStr) sNil)))) sNil)) fun ((a,(b,(c,_))),((d,(e,(f,_))),_))=>(true,(AV.int .i64 (xbB a b c d e f)))
theorem xtj:OcOk Tryz.prog ITryz 114 (xoa):=xcd fun b k c=>by
 obtain ⟨⟨d,⟨e,⟨f,_⟩⟩⟩,⟨⟨g,⟨h,⟨i,_⟩⟩⟩,_⟩⟩:=b
 obtain ⟨j,a⟩:=Prod.mk.inj c
 refine xbd (p:=xfi.pin) (xbI mxTryz (inv0Ok Tryz.prog _) rfl xqj Tryz.func114 rfl (by kernel_rfl) xoM ((Pre.get (xsV _ _ _ _ _ _) rfl).trans ?_))
 exact congrArg some a
def xvS:Env:=xzU.with 114 xoa
theorem xsk:OrcOk Tryz.prog ITryz xvS:=xwX.with xtj
def xds:Env:=xvS.fn 39 0 (lsOf []) (lpsOf [])
theorem xny:OrcOk Tryz.prog (ITryz.at 0) xds:=xsk.fn
theorem xlJ:LoOk Tryz.prog (ITryz.at xds.pin) xds (loopAt Tryz.f113 0):=xaH (by kernel_rfl)
def xcR (c b:LA) (a:Int):=xbB ((b.getD a.toNat .top).cells.getD 0 .top).toInt ((b.getD a.toNat .top).cells.getD 1 .top).toInt ((b.getD a.toNat .top).cells.getD 2 .top).toStr ((c.getD a.toNat .top).cells.getD 0 .top).toInt ((c.getD a.toNat .top).cells.getD 1 .top).toInt ((c.getD a.toNat .top).cells.getD 2 .top).toStr
def xcA {T:Type} (e c b:LA) (d a:Int) (δ:T) (κl:(Int)→T) (κr:(Bool×(Int)×(Unit))→T):T:=br (decide (a<d)) (br (decide (0≤a)&&decide (a<b.length)) (br (decide (a.toNat<b.length)&&((b.getD a.toNat .top).cells.length==3&&hasShs [Sh.int .i64,Sh.int .i64,Sh.str] (b.getD a.toNat .top).cells 0)) (br (decide (a≥c.length)) (κr (true,(1),())) (br (decide (0≤a)&&decide (a<c.length)) (br (decide (a.toNat<c.length)&&((c.getD a.toNat .top).cells.length==3&&hasShs [Sh.int .i64,Sh.int .i64,Sh.str] (c.getD a.toNat .top).cells 0)) (br (xcR c b a != 0) (κr (true,(xcR c b a),())) (κl (i64.wrap (a+1)))) δ) δ)) δ) δ) (κr (false,0,()))
def xaL (d e a:LA) (b:Int):(Int)→Option ((Int)⊕(Bool×(Int)×(Unit))):=fun (c)=>xcA d e a b c none (fun s=>some (.inl s)) (fun p=>some (.inr p))
def xcx (d e a:LA) (b:Int):(Int)→LA×List Box:=fun (c)=>([AV.list 3 d,AV.list 3 e,AV.func 114 [],AV.list 3 a,AV.int .i64 b,AV.int .i64 c],[])
def xcK (a b c:LA) (d:Int):(Bool×(Int)×(Unit))→LR:=fun p=>(.node p.1 (.leaf .ret [AV.list 3 a,AV.list 3 b,AV.int .i64 p.2.1] []) (.leaf (.exit 0) [AV.list 3 a,AV.list 3 b,.top] []))
abbrev xnW (a:LA) (H:List Box):=XR Tryz.prog xds [0,1,2,11,12,13] [0,1,6] [] (loopAt Tryz.f113 0) a H
theorem xnV (c d a:LA) (b e:Int):Enc (encR (xcx c d a b) (xcK c d a b)) (xaL c d a b e) (xnW (xcx c d a b e).1 (xcx c d a b e).2):=by
 refine eV (xcA c d a b e none (fun s=>some (encR (xcx c d a b) (xcK c d a b) (.inl s))) (fun p=>some (encR (xcx c d a b) (xcK c d a b) (.inr p)))) (by kernel_rfl) ?_;unfold xaL xcA;repeat' first|exact eN|exact eS rfl|apply eB
def xiJ:Lp:=lpOf [0,1,2,11,12,13] [0,1,6] [] (pCons (pList 3 pAny) (pCons (pList 3 pAny) (pCons (pFunc 114 pNil) (pCons (pList 3 pAny) (pCons (pInt .i64) (pCons (pInt .i64) pNil)))))) pNil fun (d,(e,(_,(a,(b,(c,_)))))) _=>((Iter (xaL d e a b) (c)).isSome,xcK d e a b ((Iter (xaL d e a b) (c)).getD (false,0,())))
theorem xm9:LoopOk Tryz.prog (ITryz.at xds.pin) xds.nt (loopAt Tryz.f113 0) xiJ:=xcw fun g i j h=>by
 obtain ⟨c,⟨d,⟨_,⟨a,⟨b,⟨e,_⟩⟩⟩⟩⟩⟩:=g
 obtain ⟨f,rfl⟩:=Prod.mk.inj h
 exact xaP mxTryz (inv0Ok Tryz.prog _) rfl xny xlJ (xcx c d a b) (xcK c d a b) (fun p=>by simp only [xcK,LR.eval];first|(simp;done)|(repeat' split<;>simp)) (xnV c d a b) (s:=(e)) (xaj f)
def xeq:Env:=xvS.fn 39 0 (lsOf []) (lpsOf [(2,xiJ)])
theorem xnr:OrcOk Tryz.prog (ITryz.at 0) xeq:=xsk.fn
theorem xmp:LoOk Tryz.prog (ITryz.at xeq.pin) xeq (Tryz.f113.body.getD .skip):=xbT (ls:=[loopAt Tryz.f113 0]) (by kernel_rfl) (lkC xm9 lkN)
def xgc {T:Type} (a b:LA) (δ:T) (κ:Int→T):T:=br ((Iter (xaL a b a (↑a.length:Int)) 0).isSome) (br (((Iter (xaL a b a (↑a.length:Int)) 0).getD (false,0,())).fst) (κ (((Iter (xaL a b a (↑a.length:Int)) 0).getD (false,0,())).snd.fst)) (br (decide ((↑a.length:Int)<(↑b.length:Int))) (κ ((-1))) (κ (0)))) δ
def xdw (a b:LA):Option (Int):=xgc a b none some
theorem xpH (a b:LA):Enc (fun (p:Int)=>((AV.int .i64 p):AV)) (xdw a b) (XF Tryz.prog xeq Tryz.f113 (Tryz.f113.body.getD .skip) [AV.list 3 a,AV.list 3 b,AV.func (114:FuncId) []]):=by
 refine eV (xgc a b none (fun (p:Int)=>some ((AV.int .i64 p):AV))) (by kernel_rfl) ?_;unfold xdw xgc;repeat' first|exact eN|exact eS rfl|apply eB
def xk3:LA→Option (Bool×AV):=ocOf (sCons (sList 3 pAny) (sCons (sList 3 pAny) (sCons (sEq (pFunc (114:FuncId) pNil)) sNil))) fun (a,(b,(_,_)))=>((xdw a b).isSome,(AV.int .i64 ((xdw a b).getD 0)))
theorem xpS:OcOk Tryz.prog ITryz 113 (xk3):=xcd fun f h g=>by
 obtain ⟨a,⟨b,⟨_,_⟩⟩⟩:=f
 obtain ⟨c,e⟩:=Prod.mk.inj g
 refine xbd (p:=xeq.pin) (xbI mxTryz (inv0Ok Tryz.prog _) rfl xnr Tryz.func113 rfl (by kernel_rfl) xmp ((xpH _ _ _ (xaj (d:=0) c)).trans ?_))
 exact congrArg some e
def xzN:Env:=xvS.with 113 xk3
theorem xwk:OrcOk Tryz.prog ITryz xzN:=xsk.with xpS
def xgq:Env:=xzN.fn 8 0 (lsOf []) (lpsOf [])
theorem xqq:OrcOk Tryz.prog (ITryz.at 0) xgq:=xwk.fn
theorem xo8:LoOk Tryz.prog (ITryz.at xgq.pin) xgq (Tryz.f88.body.getD .skip):=xaH (by kernel_rfl)
def xiu {T:Type} (a b:LA) (δ:T) (κ:Int→T):T:=br ((xdw a b).isSome) (κ ((xdw a b).getD 0)) δ
def xdJ (a b:LA):Option (Int):=xiu a b none some
theorem xtW (a b:LA):Enc (fun (p:Int)=>((AV.int .i64 p):AV)) (xdJ a b) (XF Tryz.prog xgq Tryz.f88 (Tryz.f88.body.getD .skip) [AV.list 3 a,AV.list 3 b]):=by
 refine eV (xiu a b none (fun (p:Int)=>some ((AV.int .i64 p):AV))) (by kernel_rfl) ?_;unfold xdJ xiu;repeat' first|exact eN|exact eS rfl|apply eB
def xog:LA→Option (Bool×AV):=ocOf (sCons (sList 3 pAny) (sCons (sList 3 pAny) sNil)) fun (a,(b,_))=>((xdJ a b).isSome,(AV.int .i64 ((xdJ a b).getD 0)))
theorem xsQ:OcOk Tryz.prog ITryz 88 (xog):=xcd fun f h g=>by
 obtain ⟨a,⟨b,_⟩⟩:=f
 obtain ⟨c,e⟩:=Prod.mk.inj g
 refine xbd (p:=xgq.pin) (xbI mxTryz (inv0Ok Tryz.prog _) rfl xqq Tryz.func88 rfl (by kernel_rfl) xo8 ((xtW _ _ _ (xaj (d:=0) c)).trans ?_))
 exact congrArg some e
def xAb:Env:=xzN.with 88 xog
theorem xwv:OrcOk Tryz.prog ITryz xAb:=xwk.with xsQ
def xfY:Env:=xAb.fn 10 0 (lsOf []) (lpsOf [])
theorem xpB:OrcOk Tryz.prog (ITryz.at 0) xfY:=xwv.fn
theorem xo2:LoOk Tryz.prog (ITryz.at xfY.pin) xfY (Tryz.f93.body.getD .skip):=xaH (by kernel_rfl)
def xh3 {T:Type} (a c b d:LA) (δ:T) (κ:Int→T):T:=br ((xdJ a b).isSome) (κ ((xdJ a b).getD 0)) δ
def xce (c a d b:LA):Option (Int):=xh3 c a d b none some
theorem xsB (c a d b:LA):Enc (fun (p:Int)=>((AV.int .i64 p):AV)) (xce c a d b) (XF Tryz.prog xfY Tryz.f93 (Tryz.f93.body.getD .skip) [AV.agg [AV.list 3 c,AV.list 2 a],AV.agg [AV.list 3 d,AV.list 2 b]]):=by
 refine eV (xh3 c a d b none (fun (p:Int)=>some ((AV.int .i64 p):AV))) (by kernel_rfl) ?_;unfold xce xh3;repeat' first|exact eN|exact eS rfl|apply eB
def xnq:LA→Option (Bool×AV):=ocOf (sCons (sAgg (sCons (sList 3 pAny) (sCons (sList 2 pAny) sNil))) (sCons (sAgg (sCons (sList 3 pAny) (sCons (sList 2 pAny) sNil))) sNil)) fun ((c,(a,_)),((d,(b,_)),_))=>((xce c a d b).isSome,(AV.int .i64 ((xce c a d b).getD 0)))
theorem xsN:OcOk Tryz.prog ITryz 93 (xnq):=xcd fun c j e=>by
 obtain ⟨⟨h,⟨f,_⟩⟩,⟨⟨i,⟨g,_⟩⟩,_⟩⟩:=c
 obtain ⟨a,b⟩:=Prod.mk.inj e
 refine xbd (p:=xfY.pin) (xbI mxTryz (inv0Ok Tryz.prog _) rfl xpB Tryz.func93 rfl (by kernel_rfl) xo2 ((xsB _ _ _ _ _ (xaj (d:=0) a)).trans ?_))
 exact congrArg some b
def xEk:Env:=xAb.with 93 xnq
theorem xCZ:OrcOk Tryz.prog ITryz xEk:=xwv.with xsN
abbrev xEf:Env:=xEk
theorem xDM:OrcOk Tryz.prog ITryz xEf:=xCZ
abbrev EK3:Env:=xEf
theorem xtb:OrcOk Tryz.prog ITryz EK3:=xDM
end Go.Sim.M
end
noncomputable section
set_option maxRecDepth 100000
namespace Go.Sim.M
open Go.IntKind (i64 u64 u8)
open Go.RowKit Go.Proofs
def xbz:Env:=EK3.fn 53 1 (lsOf [83]) (lpsOf [])
theorem xjB:OrcOk Tryz.prog (ITryz.at 1) xbz:=xtb.fn
theorem xh2:LoOk Tryz.prog (ITryz.at xbz.pin) xbz (loopAt Tryz.f141 1):=xaH (by kernel_rfl)
def xdM (a:Nat) (j:Int):=decide (0≤i64.wrap (j - 1))&&decide (i64.wrap (j - 1)<(↑a:Int))
def xcM (j:Int):Nat:=0+(i64.wrap (j - 1)).toNat
def xdN (a:Nat) (j:Int):=decide (0≤j)&&decide (j<(↑a:Int))
def xfG (j:Int) (a:LA):=decide (0+j.toNat<a.length)
def xfC (j:Int) (a:LA):=xfG j a&&((a.getD (0+j.toNat) .top).cells.length==2&&hasShs [Sh.list 3,Sh.list 2] (a.getD (0+j.toNat) .top).cells 0)
def xbi (j:Int) (a:LA):=(a.getD (xcM j) .top).cells
def xfM (j:Int) (a:LA):=decide (xcM j<a.length)&&((xbi j a).length==2&&hasShs [Sh.list 3,Sh.list 2] (xbi j a) 0)
def xfQ (j:Int) (a:LA):=xce ((a.getD (0+j.toNat) .top).cells.getD 0 .top).toList ((a.getD (0+j.toNat) .top).cells.getD 1 .top).toList ((xbi j a).getD 0 .top).toList ((xbi j a).getD 1 .top).toList
def xfE (j:Int) (a:LA):=a.set (0+j.toNat) (AV.agg [AV.list 3 ((xbi j a).getD 0 .top).toList,AV.list 2 ((xbi j a).getD 1 .top).toList])
def xd0 {T:Type} (d:Nat) (a b i j:Int) (c:LA) (δ:T) (κl:(Int×LA)→T) (κr:(LA)→T):T:=br (decide (j>a)) (br (xdN d j) (br (xfC j c) (br (xdM d j) (br (xfM j c) (br ((xfQ j c).isSome) (br (decide ((xfQ j c).getD 0<0)) (br (xdM d j) (br (xfM j c) (br (xdN d j) (br (xfC j c) (br (xdN d j) (br (xfG j c) (br (xdM d j) (br (decide (xcM j<(xfE j c).length)) (κl (i64.wrap (j - 1),(xfE j c).set (xcM j) (AV.agg [AV.list 3 ((c.getD (0+j.toNat) .top).cells.getD 0 .top).toList,AV.list 2 ((c.getD (0+j.toNat) .top).cells.getD 1 .top).toList]))) δ) δ) δ) δ) δ) δ) δ) δ) (κr (c))) δ) δ) δ) δ) δ) (κr (c))
def xa0 (d:Nat) (a b i:Int):(Int×LA)→Option ((Int×LA)⊕(LA)):=fun (j,c)=>xd0 d a b i j c none (fun s=>some (.inl s)) (fun p=>some (.inr p))
def xbn (d:Nat) (a b i:Int):(Int×LA)→LA×List Box:=fun (j,c)=>([AV.osl 0 0 0 d,AV.int .i64 a,AV.int .i64 b,AV.func 93 [],AV.int .i64 i,AV.int .i64 j],[⟨0,2,83,c,false,true⟩])
def xbh (c:Nat) (a b i:Int):(LA)→LR:=fun p=>(.leaf (.exit 2) [AV.osl 0 0 0 c,AV.int .i64 a,AV.int .i64 b,AV.func 93 [],AV.int .i64 i] [⟨0,2,83,p,false,true⟩])
abbrev xjQ (a:LA) (H:List Box):=XR Tryz.prog xbz [0,1,2,3,8,9] [0,1,2,3,8] [] (loopAt Tryz.f141 1) a H
theorem xjR (c:Nat) (a b i:Int) (s:Int×LA):Enc (encR (xbn c a b i) (xbh c a b i)) (xa0 c a b i s) (xjQ (xbn c a b i s).1 (xbn c a b i s).2):=by
 obtain ⟨j,d⟩:=s
 refine eV (xd0 c a b i j d none (fun s=>some (encR (xbn c a b i) (xbh c a b i) (.inl s))) (fun p=>some (encR (xbn c a b i) (xbh c a b i) (.inr p)))) (by kernel_rfl) ?_;unfold xa0 xd0;repeat' first|exact eN|exact eS rfl|apply eB
def xdL:Lp:=lpOf [0,1,2,3,8,9] [0,1,2,3,8] [] (pCons (pOsl 0 0 0) (pCons (pInt .i64) (pCons (pInt .i64) (pCons (pFunc 93 pNil) (pCons (pInt .i64) (pCons (pInt .i64) pNil)))))) (pCons (pBox 0 2 83 false true pAny) pNil) fun (c,(a,(b,(_,(i,(j,_)))))) (d,_)=>((Iter (xa0 c a b i) (j,d)).isSome,xbh c a b i ((Iter (xa0 c a b i) (j,d)).getD []))
theorem xfy:LoopOk Tryz.prog (ITryz.at xbz.pin) xbz.nt (loopAt Tryz.f141 1) xdL:=xcw fun f g k h=>by
 obtain ⟨c,⟨a,⟨b,⟨_,⟨i,⟨j,_⟩⟩⟩⟩⟩⟩:=f
 obtain ⟨d,_⟩:=g
 obtain ⟨e,rfl⟩:=Prod.mk.inj h
 exact xaP mxTryz (inv0Ok Tryz.prog _) rfl xjB xh2 (xbn c a b i) (xbh c a b i) (fun p=>by simp only [xbh,LR.eval];first|(simp;done)|(repeat' split<;>simp)) (xjR c a b i) (s:=(j,d)) (xaj e)
def xbw:Env:=EK3.fn 53 1 (lsOf [83]) (lpsOf [(4,xdL)])
theorem xji:OrcOk Tryz.prog (ITryz.at 1) xbw:=xtb.fn
theorem xh4:LoOk Tryz.prog (ITryz.at xbw.pin) xbw (loopAt Tryz.f141 0):=xbT (ls:=[loopAt Tryz.f141 1]) (by kernel_rfl) (lkC xfy lkN)
def xdx {T:Type} (d:Nat) (a b i:Int) (c:LA) (δ:T) (κl:(Int×LA)→T) (κr:(LA)→T):T:=br (decide (i<b)) (br ((Iter (xa0 d a b i) (i,c)).isSome) (κl (i64.wrap (i+1),(Iter (xa0 d a b i) (i,c)).getD [])) δ) (κr (c))
def xaZ (d:Nat) (a b:Int):(Int×LA)→Option ((Int×LA)⊕(LA)):=fun (i,c)=>xdx d a b i c none (fun s=>some (.inl s)) (fun p=>some (.inr p))
def xbp (d:Nat) (a b:Int):(Int×LA)→LA×List Box:=fun (i,c)=>([AV.osl 0 0 0 d,AV.int .i64 a,AV.int .i64 b,AV.func 93 [],AV.int .i64 i],[⟨0,2,83,c,false,true⟩])
def xbf (c:Nat) (a b:Int):(LA)→LR:=fun p=>(.leaf (.exit 0) [] [⟨0,2,83,p,false,true⟩])
abbrev xjT (a:LA) (H:List Box):=XR Tryz.prog xbw [0,1,2,3,8] [] [] (loopAt Tryz.f141 0) a H
theorem xjP (c:Nat) (a b:Int) (s:Int×LA):Enc (encR (xbp c a b) (xbf c a b)) (xaZ c a b s) (xjT (xbp c a b s).1 (xbp c a b s).2):=by
 obtain ⟨i,d⟩:=s
 refine eV (xdx c a b i d none (fun s=>some (encR (xbp c a b) (xbf c a b) (.inl s))) (fun p=>some (encR (xbp c a b) (xbf c a b) (.inr p)))) (by kernel_rfl) ?_;unfold xaZ xdx;repeat' first|exact eN|exact eS rfl|apply eB
def xfR:Lp:=lpOf [0,1,2,3,8] [] [] (pCons (pOsl 0 0 0) (pCons (pInt .i64) (pCons (pInt .i64) (pCons (pFunc 93 pNil) (pCons (pInt .i64) pNil))))) (pCons (pBox 0 2 83 false true pAny) pNil) fun (c,(a,(b,(_,(i,_))))) (d,_)=>((Iter (xaZ c a b) (i,d)).isSome,xbf c a b ((Iter (xaZ c a b) (i,d)).getD []))
theorem xiT:LoopOk Tryz.prog (ITryz.at xbw.pin) xbw.nt (loopAt Tryz.f141 0) xfR:=xcw fun f g j h=>by
 obtain ⟨c,⟨a,⟨b,⟨_,⟨i,_⟩⟩⟩⟩⟩:=f
 obtain ⟨d,_⟩:=g
 obtain ⟨e,rfl⟩:=Prod.mk.inj h
 exact xaP mxTryz (inv0Ok Tryz.prog _) rfl xji xh4 (xbp c a b) (xbf c a b) (fun p=>by simp only [xbf,LR.eval];first|(simp;done)|(repeat' split<;>simp)) (xjP c a b) (s:=(i,d)) (xaj e)
def xci:Env:=EK3.fn 53 1 (lsOf [83]) (lpsOf [(4,xdL),(1,xfR)])
theorem xjw:OrcOk Tryz.prog (ITryz.at 1) xci:=xtb.fn
theorem xis:LoOk Tryz.prog (ITryz.at xci.pin) xci (Tryz.f141.body.getD .skip):=xbT (ls:=[loopAt Tryz.f141 0,loopAt Tryz.f141 1]) (by kernel_rfl) (lkC xiT (lkC xfy lkN))
def xdb {T:Type} (n:Nat) (a b:Int) (c:LA) (δ:T) (κ:LA→T):T:=br ((Iter (xaZ n a b) (i64.wrap (a+1),c)).isSome) (κ ((Iter (xaZ n a b) (i64.wrap (a+1),c)).getD [])) δ
def xaS (n:Nat) (a b:Int) (c:LA):Option (LA):=xdb n a b c none some
theorem xkK (n:Nat) (a b:Int) (xs:LA):Enc (fun (p:LA)=>(((AV.tuple [],([⟨0,2,83,p,false,true⟩]:List Box))):(AV×List Box))) (xaS n a b xs) (XFM Tryz.prog xci Tryz.f141 (Tryz.f141.body.getD .skip) [AV.osl (0:Id) 0 0 n,AV.int .i64 a,AV.int .i64 b,AV.func (93:FuncId) []] [{ ver:=0,sz:=2,ty:=(83:TypeId),xs:=xs,frz:=false,pm:=true }]):=by
 refine eV (xdb n a b xs none (fun (p:LA)=>some (((AV.tuple [],([⟨0,2,83,p,false,true⟩]:List Box))):(AV×List Box)))) (by kernel_rfl) ?_;unfold xaS xdb;repeat' first|exact eN|exact eS rfl|apply eB
def xgI:LA→List Box→Option (Bool×AV×List Box):=omOf (sCons (sEq (pOsl 0 0 0)) (sCons (sEq (pInt .i64)) (sCons (sEq (pInt .i64)) (sCons (sEq (pFunc (93:FuncId) pNil)) sNil)))) (pCons (pBox 0 2 (83:TypeId) false true pAny) pNil) fun (n,(a,(b,(_,_)))) (c,_)=>((xaS n a b c).isSome,((AV.tuple [],([⟨0,2,83,((xaS n a b c).getD []),false,true⟩]:List Box))))
theorem xkQ:OmOk Tryz.prog ITryz 141 (xgI):=xfj fun f g j i h=>by
 obtain ⟨n,⟨a,⟨b,⟨_,_⟩⟩⟩⟩:=f
 obtain ⟨k,_⟩:=g
 obtain ⟨c,e⟩:=Prod.mk.inj h
 refine xdB (p:=xci.pin) (xd3 mxTryz (inv0Ok Tryz.prog _) rfl xjw rfl Tryz.func141 rfl (by kernel_rfl) xis ((xkK _ _ _ _ _ (xaj (d:=[]) c)).trans ?_))
 exact congrArg some e
def xvV:Env:=EK3.withM 141 xgI
theorem xsu:OrcOk Tryz.prog ITryz xvV:=xtb.withM xkQ
def xcf:Env:=xvV.fn 38 1 (lsOf [83]) (lpsOf [])
theorem xkW:OrcOk Tryz.prog (ITryz.at 1) xcf:=xsu.fn
theorem xiU:LoOk Tryz.prog (ITryz.at xcf.pin) xcf (loopAt Tryz.f182 0):=xaH (by kernel_rfl)
def xgD (a i:Int) (b:LA):=decide (0+(i64.wrap (a+i)).toNat<b.length)
def xdc (a i:Int) (b:LA):=(b.getD (0+(i64.wrap (a+i)).toNat) .top).cells
def xgC (a:Nat) (b i:Int):=decide (0≤i64.wrap (b+i))&&decide (i64.wrap (b+i)<(↑a:Int))
def xgF (b:Nat) (a i:Int):=decide (0≤i64.wrap (a+i))&&decide (i64.wrap (a+i)<(↑b:Int))
def xda (b i:Int):Nat:=0+(i64.wrap (b+i)).toNat
def xc9 (b i:Int) (a:LA):=(a.getD (xda b i) .top).cells
def xgG (a b i:Int) (c:LA):=c.set (0+(i64.wrap (a+i)).toNat) (AV.agg [AV.list 3 ((xc9 b i c).getD 0 .top).toList,AV.list 2 ((xc9 b i c).getD 1 .top).toList])
def xeH {T:Type} (d:Nat) (a b n i:Int) (c:LA) (δ:T) (κl:(Int×LA)→T) (κr:(LA)→T):T:=br (decide (i<n)) (br (xgC d b i) (br (decide (xda b i<c.length)&&((xc9 b i c).length==2&&hasShs [Sh.list 3,Sh.list 2] (xc9 b i c) 0)) (br (xgF d a i) (br (xgD a i c&&((xdc a i c).length==2&&hasShs [Sh.list 3,Sh.list 2] (xdc a i c) 0)) (br (xgF d a i) (br (xgD a i c) (br (xgC d b i) (br (decide (xda b i<(xgG a b i c).length)) (κl (i64.wrap (i+1),(xgG a b i c).set (xda b i) (AV.agg [AV.list 3 ((xdc a i c).getD 0 .top).toList,AV.list 2 ((xdc a i c).getD 1 .top).toList]))) δ) δ) δ) δ) δ) δ) δ) δ) (κr (c))
def xba (d:Nat) (a b n:Int):(Int×LA)→Option ((Int×LA)⊕(LA)):=fun (i,c)=>xeH d a b n i c none (fun s=>some (.inl s)) (fun p=>some (.inr p))
def xbQ (d:Nat) (a b n:Int):(Int×LA)→LA×List Box:=fun (i,c)=>([AV.osl 0 0 0 d,AV.int .i64 a,AV.int .i64 b,AV.int .i64 n,AV.int .i64 i],[⟨0,2,83,c,false,true⟩])
def xbA (c:Nat) (a b n:Int):(LA)→LR:=fun p=>(.leaf (.exit 0) [] [⟨0,2,83,p,false,true⟩])
abbrev xk4 (a:LA) (H:List Box):=XR Tryz.prog xcf [0,1,2,3,10] [] [] (loopAt Tryz.f182 0) a H
theorem xlC (c:Nat) (a b n:Int) (s:Int×LA):Enc (encR (xbQ c a b n) (xbA c a b n)) (xba c a b n s) (xk4 (xbQ c a b n s).1 (xbQ c a b n s).2):=by
 obtain ⟨i,d⟩:=s
 refine eV (xeH c a b n i d none (fun s=>some (encR (xbQ c a b n) (xbA c a b n) (.inl s))) (fun p=>some (encR (xbQ c a b n) (xbA c a b n) (.inr p)))) (by kernel_rfl) ?_;unfold xba xeH;repeat' first|exact eN|exact eS rfl|apply eB
def xgH:Lp:=lpOf [0,1,2,3,10] [] [] (pCons (pOsl 0 0 0) (pCons (pInt .i64) (pCons (pInt .i64) (pCons (pInt .i64) (pCons (pInt .i64) pNil))))) (pCons (pBox 0 2 83 false true pAny) pNil) fun (c,(a,(b,(n,(i,_))))) (d,_)=>((Iter (xba c a b n) (i,d)).isSome,xbA c a b n ((Iter (xba c a b n) (i,d)).getD []))
theorem xkB:LoopOk Tryz.prog (ITryz.at xcf.pin) xcf.nt (loopAt Tryz.f182 0) xgH:=xcw fun f g j h=>by
 obtain ⟨c,⟨a,⟨b,⟨n,⟨i,_⟩⟩⟩⟩⟩:=f
 obtain ⟨d,_⟩:=g
 obtain ⟨e,rfl⟩:=Prod.mk.inj h
 exact xaP mxTryz (inv0Ok Tryz.prog _) rfl xkW xiU (xbQ c a b n) (xbA c a b n) (fun p=>by simp only [xbA,LR.eval];first|(simp;done)|(repeat' split<;>simp)) (xlC c a b n) (s:=(i,d)) (xaj e)
def xcT:Env:=xvV.fn 38 1 (lsOf [83]) (lpsOf [(1,xgH)])
theorem xkU:OrcOk Tryz.prog (ITryz.at 1) xcT:=xsu.fn
theorem xjV:LoOk Tryz.prog (ITryz.at xcT.pin) xcT (Tryz.f182.body.getD .skip):=xbT (ls:=[loopAt Tryz.f182 0]) (by kernel_rfl) (lkC xkB lkN)
def xd1 {T:Type} (n:Nat) (a b k:Int) (c:LA) (δ:T) (κ:LA→T):T:=br ((Iter (xba n a b k) (0,c)).isSome) (κ ((Iter (xba n a b k) (0,c)).getD [])) δ
def xaO (n:Nat) (a b k:Int) (c:LA):Option (LA):=xd1 n a b k c none some
theorem xmD (n:Nat) (a b k:Int) (xs:LA):Enc (fun (p:LA)=>(((AV.tuple [],([⟨0,2,83,p,false,true⟩]:List Box))):(AV×List Box))) (xaO n a b k xs) (XFM Tryz.prog xcT Tryz.f182 (Tryz.f182.body.getD .skip) [AV.osl (0:Id) 0 0 n,AV.int .i64 a,AV.int .i64 b,AV.int .i64 k,AV.func (93:FuncId) []] [{ ver:=0,sz:=2,ty:=(83:TypeId),xs:=xs,frz:=false,pm:=true }]):=by
 refine eV (xd1 n a b k xs none (fun (p:LA)=>some (((AV.tuple [],([⟨0,2,83,p,false,true⟩]:List Box))):(AV×List Box)))) (by kernel_rfl) ?_;unfold xaO xd1;repeat' first|exact eN|exact eS rfl|apply eB
def xhx:LA→List Box→Option (Bool×AV×List Box):=omOf (sCons (sEq (pOsl 0 0 0)) (sCons (sEq (pInt .i64)) (sCons (sEq (pInt .i64)) (sCons (sEq (pInt .i64)) (sCons (sEq (pFunc (93:FuncId) pNil)) sNil))))) (pCons (pBox 0 2 (83:TypeId) false true pAny) pNil) fun (n,(a,(b,(k,(_,_))))) (c,_)=>((xaO n a b k c).isSome,((AV.tuple [],([⟨0,2,83,((xaO n a b k c).getD []),false,true⟩]:List Box))))
theorem xmC:OmOk Tryz.prog ITryz 182 (xhx):=xfj fun f g j i h=>by
 obtain ⟨n,⟨a,⟨b,⟨k,⟨_,_⟩⟩⟩⟩⟩:=f
 obtain ⟨l,_⟩:=g
 obtain ⟨c,e⟩:=Prod.mk.inj h
 refine xdB (p:=xcT.pin) (xd3 mxTryz (inv0Ok Tryz.prog _) rfl xkU rfl Tryz.func182 rfl (by kernel_rfl) xjV ((xmD _ _ _ _ _ _ (xaj (d:=[]) c)).trans ?_))
 exact congrArg some e
def xvR:Env:=xvV.withM 182 xhx
theorem xsM:OrcOk Tryz.prog ITryz xvR:=xsu.withM xmC
def xcO:Env:=xvR.fn 58 1 (lsOf [83]) (lpsOf [])
theorem xmb:OrcOk Tryz.prog (ITryz.at 1) xcO:=xsM.fn
theorem xjY:LoOk Tryz.prog (ITryz.at xcO.pin) xcO (loopAt Tryz.f162 0):=xaH (by kernel_rfl)
def xfv {T:Type} (b:Nat) (m i j:Int) (a:LA) (δ:T) (κl:(Int×Int×LA)→T) (κr:(Int×LA)→T):T:=br (i != j) (br (decide (i>j)) (br ((xaO b (i64.wrap (m - i)) m j a).isSome) (κl (i64.wrap (i - j),j,(xaO b (i64.wrap (m - i)) m j a).getD [])) δ) (br ((xaO b (i64.wrap (m - i)) (i64.wrap (i64.wrap (m+j) - i)) i a).isSome) (κl (i,i64.wrap (j - i),(xaO b (i64.wrap (m - i)) (i64.wrap (i64.wrap (m+j) - i)) i a).getD [])) δ)) (κr (i,a))
def xbN (b:Nat) (m:Int):(Int×Int×LA)→Option ((Int×Int×LA)⊕(Int×LA)):=fun (i,j,a)=>xfv b m i j a none (fun s=>some (.inl s)) (fun p=>some (.inr p))
def xcs (b:Nat) (m:Int):(Int×Int×LA)→LA×List Box:=fun (i,j,a)=>([AV.osl 0 0 0 b,AV.int .i64 m,AV.func 93 [],AV.int .i64 i,AV.int .i64 j],[⟨0,2,83,a,false,true⟩])
def xbY (a:Nat) (m:Int):(Int×LA)→LR:=fun p=>(.leaf (.exit 0) [AV.osl 0 0 0 a,AV.int .i64 m,AV.func 93 [],AV.int .i64 p.1] [⟨0,2,83,p.2,false,true⟩])
abbrev xmJ (a:LA) (H:List Box):=XR Tryz.prog xcO [0,2,4,10,11] [0,2,4,10] [] (loopAt Tryz.f162 0) a H
theorem xmq (a:Nat) (m:Int) (s:Int×Int×LA):Enc (encR (xcs a m) (xbY a m)) (xbN a m s) (xmJ (xcs a m s).1 (xcs a m s).2):=by
 obtain ⟨i,j,b⟩:=s
 refine eV (xfv a m i j b none (fun s=>some (encR (xcs a m) (xbY a m) (.inl s))) (fun p=>some (encR (xcs a m) (xbY a m) (.inr p)))) (by kernel_rfl) ?_;unfold xbN xfv;repeat' first|exact eN|exact eS rfl|apply eB
def xhO:Lp:=lpOf [0,2,4,10,11] [0,2,4,10] [] (pCons (pOsl 0 0 0) (pCons (pInt .i64) (pCons (pFunc 93 pNil) (pCons (pInt .i64) (pCons (pInt .i64) pNil))))) (pCons (pBox 0 2 83 false true pAny) pNil) fun (a,(m,(_,(i,(j,_))))) (b,_)=>((Iter (xbN a m) (i,j,b)).isSome,xbY a m ((Iter (xbN a m) (i,j,b)).getD (0,[])))
theorem xlI:LoopOk Tryz.prog (ITryz.at xcO.pin) xcO.nt (loopAt Tryz.f162 0) xhO:=xcw fun d e g f=>by
 obtain ⟨a,⟨m,⟨_,⟨i,⟨j,_⟩⟩⟩⟩⟩:=d
 obtain ⟨b,_⟩:=e
 obtain ⟨c,rfl⟩:=Prod.mk.inj f
 exact xaP mxTryz (inv0Ok Tryz.prog _) rfl xmb xjY (xcs a m) (xbY a m) (fun p=>by simp only [xbY,LR.eval];first|(simp;done)|(repeat' split<;>simp)) (xmq a m) (s:=(i,j,b)) (xaj c)
def xdj:Env:=xvR.fn 58 1 (lsOf [83]) (lpsOf [(2,xhO)])
theorem xl1:OrcOk Tryz.prog (ITryz.at 1) xdj:=xsM.fn
theorem xkV:LoOk Tryz.prog (ITryz.at xdj.pin) xdj (Tryz.f162.body.getD .skip):=xbT (ls:=[loopAt Tryz.f162 0]) (by kernel_rfl) (lkC xlI lkN)
def xf3 (n:Nat) (a m b:Int) (c:LA):=Iter (xbN n m) (i64.wrap (m - a),i64.wrap (b - m),c)
def xf8 (n:Nat) (a m b:Int) (c:LA):=(xf3 n a m b c).getD (0,[])
def xf6 (n:Nat) (a m b:Int) (c:LA):=(xf8 n a m b c).fst
def xf2 (n:Nat) (a m b:Int) (c:LA):=xaO n (i64.wrap (m - xf6 n a m b c)) m (xf6 n a m b c) (xf8 n a m b c).snd
def xeD {T:Type} (n:Nat) (a m b:Int) (c:LA) (δ:T) (κ:LA→T):T:=br ((xf3 n a m b c).isSome) (br ((xf2 n a m b c).isSome) (κ ((xf2 n a m b c).getD [])) δ) δ
def xa9 (n:Nat) (a m b:Int) (c:LA):Option (LA):=xeD n a m b c none some
theorem xnl (n:Nat) (a m b:Int) (xs:LA):Enc (fun (p:LA)=>(((AV.tuple [],([⟨0,2,83,p,false,true⟩]:List Box))):(AV×List Box))) (xa9 n a m b xs) (XFM Tryz.prog xdj Tryz.f162 (Tryz.f162.body.getD .skip) [AV.osl (0:Id) 0 0 n,AV.int .i64 a,AV.int .i64 m,AV.int .i64 b,AV.func (93:FuncId) []] [{ ver:=0,sz:=2,ty:=(83:TypeId),xs:=xs,frz:=false,pm:=true }]):=by
 refine eV (xeD n a m b xs none (fun (p:LA)=>some (((AV.tuple [],([⟨0,2,83,p,false,true⟩]:List Box))):(AV×List Box)))) (by kernel_rfl) ?_;unfold xa9 xeD;repeat' first|exact eN|exact eS rfl|apply eB
def xjh:LA→List Box→Option (Bool×AV×List Box):=omOf (sCons (sEq (pOsl 0 0 0)) (sCons (sEq (pInt .i64)) (sCons (sEq (pInt .i64)) (sCons (sEq (pInt .i64)) (sCons (sEq (pFunc (93:FuncId) pNil)) sNil))))) (pCons (pBox 0 2 (83:TypeId) false true pAny) pNil) fun (n,(a,(m,(b,(_,_))))) (c,_)=>((xa9 n a m b c).isSome,((AV.tuple [],([⟨0,2,83,((xa9 n a m b c).getD []),false,true⟩]:List Box))))
theorem xnp:OmOk Tryz.prog ITryz 162 (xjh):=xfj fun f g j i h=>by
 obtain ⟨n,⟨a,⟨m,⟨b,⟨_,_⟩⟩⟩⟩⟩:=f
 obtain ⟨k,_⟩:=g
 obtain ⟨c,e⟩:=Prod.mk.inj h
 refine xdB (p:=xdj.pin) (xd3 mxTryz (inv0Ok Tryz.prog _) rfl xl1 rfl Tryz.func162 rfl (by kernel_rfl) xkV ((xnl _ _ _ _ _ _ (xaj (d:=[]) c)).trans ?_))
 exact congrArg some e
def xof:Env:=xvR.withM 162 xjh
theorem xkA:OrcOk Tryz.prog ITryz xof:=xsM.withM xnp
def xcp:Env:=xof.fn 220 1 (lsOf [83]) (lpsOf [])
theorem xlg:OrcOk Tryz.prog (ITryz.at 1) xcp:=xkA.fn
theorem xjs:LoOk Tryz.prog (ITryz.at xcp.pin) xcp (loopAt Tryz.f142 0):=xaH (by kernel_rfl)
def xbO (i j:Int):=i64.wrap ((u64.wrap (i64.wrap (i+j))).fdiv 2)
def xdp (i j:Int) (a:LA):=(a.getD (0+(xbO i j).toNat) .top).cells
def xhf (a i j:Int) (b:LA):=xce ((xdp i j b).getD 0 .top).toList ((xdp i j b).getD 1 .top).toList ((b.getD (0+a.toNat) .top).cells.getD 0 .top).toList ((b.getD (0+a.toNat) .top).cells.getD 1 .top).toList
def xe1 {T:Type} (c:Nat) (a i j:Int) (b:LA) (δ:T) (κl:(Int×Int×LA)→T) (κr:(Int×LA)→T):T:=br (decide (i<j)) (br (decide (0≤xbO i j)&&decide (xbO i j<(↑c:Int))) (br (decide (0+(xbO i j).toNat<b.length)&&((xdp i j b).length==2&&hasShs [Sh.list 3,Sh.list 2] (xdp i j b) 0)) (br (decide (0≤a)&&decide (a<(↑c:Int))) (br (decide (0+a.toNat<b.length)&&((b.getD (0+a.toNat) .top).cells.length==2&&hasShs [Sh.list 3,Sh.list 2] (b.getD (0+a.toNat) .top).cells 0)) (br ((xhf a i j b).isSome) (br (decide ((xhf a i j b).getD 0<0)) (κl (i64.wrap (xbO i j+1),j,b)) (κl (i,xbO i j,b))) δ) δ) δ) δ) δ) (κr (i,b))
def xa1 (c:Nat) (a:Int):(Int×Int×LA)→Option ((Int×Int×LA)⊕(Int×LA)):=fun (i,j,b)=>xe1 c a i j b none (fun s=>some (.inl s)) (fun p=>some (.inr p))
def xb3 (c:Nat) (a:Int):(Int×Int×LA)→LA×List Box:=fun (i,j,b)=>([AV.osl 0 0 0 c,AV.int .i64 a,AV.func 93 [],AV.int .i64 i,AV.int .i64 j],[⟨0,2,83,b,false,true⟩])
def xbD (b:Nat) (a:Int):(Int×LA)→LR:=fun p=>(.leaf (.exit 0) [AV.osl 0 0 0 b,AV.int .i64 a,AV.int .i64 p.1] [⟨0,2,83,p.2,false,true⟩])
abbrev xlN (a:LA) (H:List Box):=XR Tryz.prog xcp [0,1,4,10,11] [0,1,10] [] (loopAt Tryz.f142 0) a H
theorem xlQ (b:Nat) (a:Int) (s:Int×Int×LA):Enc (encR (xb3 b a) (xbD b a)) (xa1 b a s) (xlN (xb3 b a s).1 (xb3 b a s).2):=by
 obtain ⟨i,j,c⟩:=s
 refine eV (xe1 b a i j c none (fun s=>some (encR (xb3 b a) (xbD b a) (.inl s))) (fun p=>some (encR (xb3 b a) (xbD b a) (.inr p)))) (by kernel_rfl) ?_;unfold xa1 xe1;repeat' first|exact eN|exact eS rfl|apply eB
def xbk:Lp:=lpOf [0,1,4,10,11] [0,1,10] [] (pCons (pOsl 0 0 0) (pCons (pInt .i64) (pCons (pFunc 93 pNil) (pCons (pInt .i64) (pCons (pInt .i64) pNil))))) (pCons (pBox 0 2 83 false true pAny) pNil) fun (b,(a,(_,(i,(j,_))))) (c,_)=>((Iter (xa1 b a) (i,j,c)).isSome,xbD b a ((Iter (xa1 b a) (i,j,c)).getD (0,[])))
theorem xkS:LoopOk Tryz.prog (ITryz.at xcp.pin) xcp.nt (loopAt Tryz.f142 0) xbk:=xcw fun e f h g=>by
 obtain ⟨b,⟨a,⟨_,⟨i,⟨j,_⟩⟩⟩⟩⟩:=e
 obtain ⟨c,_⟩:=f
 obtain ⟨d,rfl⟩:=Prod.mk.inj g
 exact xaP mxTryz (inv0Ok Tryz.prog _) rfl xlg xjs (xb3 b a) (xbD b a) (fun p=>by simp only [xbD,LR.eval];first|(simp;done)|(repeat' split<;>simp)) (xlQ b a) (s:=(i,j,c)) (xaj d)
def xcu:Env:=xof.fn 220 1 (lsOf [83]) (lpsOf [(3,xbk)])
theorem xk5:OrcOk Tryz.prog (ITryz.at 1) xcu:=xkA.fn
theorem xjK:LoOk Tryz.prog (ITryz.at xcu.pin) xcu (loopAt Tryz.f142 1):=xaH (by kernel_rfl)
def xg3 (a:Nat) (k:Int):=decide (0≤i64.wrap (k+1))&&decide (i64.wrap (k+1)<(↑a:Int))
def xdo (k:Int):Nat:=0+(i64.wrap (k+1)).toNat
def xhe (k:Int) (a:LA):=decide (0+k.toNat<a.length)
def xdk (k:Int) (a:LA):=(a.getD (xdo k) .top).cells
def xg8 (k:Int) (a:LA):=a.set (0+k.toNat) (AV.agg [AV.list 3 ((xdk k a).getD 0 .top).toList,AV.list 2 ((xdk k a).getD 1 .top).toList])
def xeY {T:Type} (b:Nat) (i k:Int) (a:LA) (δ:T) (κl:(Int×LA)→T) (κr:(LA)→T):T:=br (decide (k<i64.wrap (i - 1))) (br (xg3 b k) (br (decide (xdo k<a.length)&&((xdk k a).length==2&&hasShs [Sh.list 3,Sh.list 2] (xdk k a) 0)) (br (decide (0≤k)&&decide (k<(↑b:Int))) (br (xhe k a&&((a.getD (0+k.toNat) .top).cells.length==2&&hasShs [Sh.list 3,Sh.list 2] (a.getD (0+k.toNat) .top).cells 0)) (br (decide (0≤k)&&decide (k<(↑b:Int))) (br (xhe k a) (br (xg3 b k) (br (decide (xdo k<(xg8 k a).length)) (κl (i64.wrap (k+1),(xg8 k a).set (xdo k) (AV.agg [AV.list 3 ((a.getD (0+k.toNat) .top).cells.getD 0 .top).toList,AV.list 2 ((a.getD (0+k.toNat) .top).cells.getD 1 .top).toList]))) δ) δ) δ) δ) δ) δ) δ) δ) (κr (a))
def xbu (b:Nat) (i:Int):(Int×LA)→Option ((Int×LA)⊕(LA)):=fun (k,a)=>xeY b i k a none (fun s=>some (.inl s)) (fun p=>some (.inr p))
def xbW (b:Nat) (i:Int):(Int×LA)→LA×List Box:=fun (k,a)=>([AV.osl 0 0 0 b,AV.int .i64 i,AV.int .i64 k],[⟨0,2,83,a,false,true⟩])
def xbG (a:Nat) (i:Int):(LA)→LR:=fun p=>(.leaf (.exit 2) [] [⟨0,2,83,p,false,true⟩])
abbrev xlG (a:LA) (H:List Box):=XR Tryz.prog xcu [0,10,13] [] [] (loopAt Tryz.f142 1) a H
theorem xlL (a:Nat) (i:Int) (s:Int×LA):Enc (encR (xbW a i) (xbG a i)) (xbu a i s) (xlG (xbW a i s).1 (xbW a i s).2):=by
 obtain ⟨k,b⟩:=s
 refine eV (xeY a i k b none (fun s=>some (encR (xbW a i) (xbG a i) (.inl s))) (fun p=>some (encR (xbW a i) (xbG a i) (.inr p)))) (by kernel_rfl) ?_;unfold xbu xeY;repeat' first|exact eN|exact eS rfl|apply eB
def xbL:Lp:=lpOf [0,10,13] [] [] (pCons (pOsl 0 0 0) (pCons (pInt .i64) (pCons (pInt .i64) pNil))) (pCons (pBox 0 2 83 false true pAny) pNil) fun (a,(i,(k,_))) (b,_)=>((Iter (xbu a i) (k,b)).isSome,xbG a i ((Iter (xbu a i) (k,b)).getD []))
theorem xkO:LoopOk Tryz.prog (ITryz.at xcu.pin) xcu.nt (loopAt Tryz.f142 1) xbL:=xcw fun d e g f=>by
 obtain ⟨a,⟨i,⟨k,_⟩⟩⟩:=d
 obtain ⟨b,_⟩:=e
 obtain ⟨c,rfl⟩:=Prod.mk.inj f
 exact xaP mxTryz (inv0Ok Tryz.prog _) rfl xk5 xjK (xbW a i) (xbG a i) (fun p=>by simp only [xbG,LR.eval];first|(simp;done)|(repeat' split<;>simp)) (xlL a i) (s:=(k,b)) (xaj c)
def xcl:Env:=xof.fn 220 1 (lsOf [83]) (lpsOf [(3,xbk),(9,xbL)])
theorem xk6:OrcOk Tryz.prog (ITryz.at 1) xcl:=xkA.fn
theorem xjl:LoOk Tryz.prog (ITryz.at xcl.pin) xcl (loopAt Tryz.f142 2):=xaH (by kernel_rfl)
def xbR (i j:Int):=i64.wrap ((u64.wrap (i64.wrap (i+j))).fdiv 2)
def xdr (i j:Int) (a:LA):=(a.getD (0+(xbR i j).toNat) .top).cells
def xgV (m i j:Int) (a:LA):=xce ((a.getD (0+m.toNat) .top).cells.getD 0 .top).toList ((a.getD (0+m.toNat) .top).cells.getD 1 .top).toList ((xdr i j a).getD 0 .top).toList ((xdr i j a).getD 1 .top).toList
def xe0 {T:Type} (b:Nat) (m i j:Int) (a:LA) (δ:T) (κl:(Int×Int×LA)→T) (κr:(Int×LA)→T):T:=br (decide (i<j)) (br (decide (0≤m)&&decide (m<(↑b:Int))) (br (decide (0+m.toNat<a.length)&&((a.getD (0+m.toNat) .top).cells.length==2&&hasShs [Sh.list 3,Sh.list 2] (a.getD (0+m.toNat) .top).cells 0)) (br (decide (0≤xbR i j)&&decide (xbR i j<(↑b:Int))) (br (decide (0+(xbR i j).toNat<a.length)&&((xdr i j a).length==2&&hasShs [Sh.list 3,Sh.list 2] (xdr i j a) 0)) (br ((xgV m i j a).isSome) (br (!decide ((xgV m i j a).getD 0<0)) (κl (i64.wrap (xbR i j+1),j,a)) (κl (i,xbR i j,a))) δ) δ) δ) δ) δ) (κr (i,a))
def xa2 (b:Nat) (m:Int):(Int×Int×LA)→Option ((Int×Int×LA)⊕(Int×LA)):=fun (i,j,a)=>xe0 b m i j a none (fun s=>some (.inl s)) (fun p=>some (.inr p))
def xbx (b:Nat) (m:Int):(Int×Int×LA)→LA×List Box:=fun (i,j,a)=>([AV.osl 0 0 0 b,AV.int .i64 m,AV.func 93 [],AV.int .i64 i,AV.int .i64 j],[⟨0,2,83,a,false,true⟩])
def xbF (a:Nat) (m:Int):(Int×LA)→LR:=fun p=>(.leaf (.exit 4) [AV.osl 0 0 0 a,AV.int .i64 m,AV.int .i64 p.1] [⟨0,2,83,p.2,false,true⟩])
abbrev xlH (a:LA) (H:List Box):=XR Tryz.prog xcl [0,2,4,14,15] [0,2,14] [] (loopAt Tryz.f142 2) a H
theorem xlS (a:Nat) (m:Int) (s:Int×Int×LA):Enc (encR (xbx a m) (xbF a m)) (xa2 a m s) (xlH (xbx a m s).1 (xbx a m s).2):=by
 obtain ⟨i,j,b⟩:=s
 refine eV (xe0 a m i j b none (fun s=>some (encR (xbx a m) (xbF a m) (.inl s))) (fun p=>some (encR (xbx a m) (xbF a m) (.inr p)))) (by kernel_rfl) ?_;unfold xa2 xe0;repeat' first|exact eN|exact eS rfl|apply eB
def xcE:Lp:=lpOf [0,2,4,14,15] [0,2,14] [] (pCons (pOsl 0 0 0) (pCons (pInt .i64) (pCons (pFunc 93 pNil) (pCons (pInt .i64) (pCons (pInt .i64) pNil))))) (pCons (pBox 0 2 83 false true pAny) pNil) fun (a,(m,(_,(i,(j,_))))) (b,_)=>((Iter (xa2 a m) (i,j,b)).isSome,xbF a m ((Iter (xa2 a m) (i,j,b)).getD (0,[])))
theorem xkN:LoopOk Tryz.prog (ITryz.at xcl.pin) xcl.nt (loopAt Tryz.f142 2) xcE:=xcw fun d e g f=>by
 obtain ⟨a,⟨m,⟨_,⟨i,⟨j,_⟩⟩⟩⟩⟩:=d
 obtain ⟨b,_⟩:=e
 obtain ⟨c,rfl⟩:=Prod.mk.inj f
 exact xaP mxTryz (inv0Ok Tryz.prog _) rfl xk6 xjl (xbx a m) (xbF a m) (fun p=>by simp only [xbF,LR.eval];first|(simp;done)|(repeat' split<;>simp)) (xlS a m) (s:=(i,j,b)) (xaj c)
def xcr:Env:=xof.fn 220 1 (lsOf [83]) (lpsOf [(3,xbk),(9,xbL),(15,xcE)])
theorem xk0:OrcOk Tryz.prog (ITryz.at 1) xcr:=xkA.fn
theorem xjL:LoOk Tryz.prog (ITryz.at xcr.pin) xcr (loopAt Tryz.f142 3):=xaH (by kernel_rfl)
def xg5 (a:Nat) (k:Int):=decide (0≤i64.wrap (k - 1))&&decide (i64.wrap (k - 1)<(↑a:Int))
def xdq (k:Int):Nat:=0+(i64.wrap (k - 1)).toNat
def xgX (k:Int) (a:LA):=decide (0+k.toNat<a.length)
def xdl (k:Int) (a:LA):=(a.getD (xdq k) .top).cells
def xhb (k:Int) (a:LA):=a.set (0+k.toNat) (AV.agg [AV.list 3 ((xdl k a).getD 0 .top).toList,AV.list 2 ((xdl k a).getD 1 .top).toList])
def xex {T:Type} (b:Nat) (i k:Int) (a:LA) (δ:T) (κl:(Int×LA)→T) (κr:(LA)→T):T:=br (decide (k>i)) (br (xg5 b k) (br (decide (xdq k<a.length)&&((xdl k a).length==2&&hasShs [Sh.list 3,Sh.list 2] (xdl k a) 0)) (br (decide (0≤k)&&decide (k<(↑b:Int))) (br (xgX k a&&((a.getD (0+k.toNat) .top).cells.length==2&&hasShs [Sh.list 3,Sh.list 2] (a.getD (0+k.toNat) .top).cells 0)) (br (decide (0≤k)&&decide (k<(↑b:Int))) (br (xgX k a) (br (xg5 b k) (br (decide (xdq k<(xhb k a).length)) (κl (i64.wrap (k - 1),(xhb k a).set (xdq k) (AV.agg [AV.list 3 ((a.getD (0+k.toNat) .top).cells.getD 0 .top).toList,AV.list 2 ((a.getD (0+k.toNat) .top).cells.getD 1 .top).toList]))) δ) δ) δ) δ) δ) δ) δ) δ) (κr (a))
def xbv (b:Nat) (i:Int):(Int×LA)→Option ((Int×LA)⊕(LA)):=fun (k,a)=>xex b i k a none (fun s=>some (.inl s)) (fun p=>some (.inr p))
def xbZ (b:Nat) (i:Int):(Int×LA)→LA×List Box:=fun (k,a)=>([AV.osl 0 0 0 b,AV.int .i64 i,AV.int .i64 k],[⟨0,2,83,a,false,true⟩])
def xbH (a:Nat) (i:Int):(LA)→LR:=fun p=>(.leaf (.exit 6) [] [⟨0,2,83,p,false,true⟩])
abbrev xlP (a:LA) (H:List Box):=XR Tryz.prog xcr [0,14,17] [] [] (loopAt Tryz.f142 3) a H
theorem xlF (a:Nat) (i:Int) (s:Int×LA):Enc (encR (xbZ a i) (xbH a i)) (xbv a i s) (xlP (xbZ a i s).1 (xbZ a i s).2):=by
 obtain ⟨k,b⟩:=s
 refine eV (xex a i k b none (fun s=>some (encR (xbZ a i) (xbH a i) (.inl s))) (fun p=>some (encR (xbZ a i) (xbH a i) (.inr p)))) (by kernel_rfl) ?_;unfold xbv xex;repeat' first|exact eN|exact eS rfl|apply eB
def xdi:Lp:=lpOf [0,14,17] [] [] (pCons (pOsl 0 0 0) (pCons (pInt .i64) (pCons (pInt .i64) pNil))) (pCons (pBox 0 2 83 false true pAny) pNil) fun (a,(i,(k,_))) (b,_)=>((Iter (xbv a i) (k,b)).isSome,xbH a i ((Iter (xbv a i) (k,b)).getD []))
theorem xkL:LoopOk Tryz.prog (ITryz.at xcr.pin) xcr.nt (loopAt Tryz.f142 3) xdi:=xcw fun d e g f=>by
 obtain ⟨a,⟨i,⟨k,_⟩⟩⟩:=d
 obtain ⟨b,_⟩:=e
 obtain ⟨c,rfl⟩:=Prod.mk.inj f
 exact xaP mxTryz (inv0Ok Tryz.prog _) rfl xk0 xjL (xbZ a i) (xbH a i) (fun p=>by simp only [xbH,LR.eval];first|(simp;done)|(repeat' split<;>simp)) (xlF a i) (s:=(k,b)) (xaj c)
def xcn:Env:=xof.fn 220 1 (lsOf [83]) (lpsOf [(3,xbk),(9,xbL),(15,xcE),(21,xdi)])
theorem xk2:OrcOk Tryz.prog (ITryz.at 1) xcn:=xkA.fn
theorem xjm:LoOk Tryz.prog (ITryz.at xcn.pin) xcn (loopAt Tryz.f142 4):=xaH (by kernel_rfl)
def xaM (a r:Int):=i64.wrap ((u64.wrap (i64.wrap (a+r))).fdiv 2)
def xdm (c b r:Int) (a:LA):=(a.getD (0+(i64.wrap (c - xaM b r)).toNat) .top).cells
def xdn (b r:Int) (a:LA):=(a.getD (0+(xaM b r).toNat) .top).cells
def xhg (c b r:Int) (a:LA):=xce ((xdm c b r a).getD 0 .top).toList ((xdm c b r a).getD 1 .top).toList ((xdn b r a).getD 0 .top).toList ((xdn b r a).getD 1 .top).toList
def xeZ {T:Type} (e:Nat) (a m b g n f c r:Int) (d:LA) (δ:T) (κl:(Int×Int×LA)→T) (κr:(Int×LA)→T):T:=br (decide (c<r)) (br (decide (0≤i64.wrap (f - xaM c r))&&decide (i64.wrap (f - xaM c r)<(↑e:Int))) (br (decide (0+(i64.wrap (f - xaM c r)).toNat<d.length)&&((xdm f c r d).length==2&&hasShs [Sh.list 3,Sh.list 2] (xdm f c r d) 0)) (br (decide (0≤xaM c r)&&decide (xaM c r<(↑e:Int))) (br (decide (0+(xaM c r).toNat<d.length)&&((xdn c r d).length==2&&hasShs [Sh.list 3,Sh.list 2] (xdn c r d) 0)) (br ((xhg f c r d).isSome) (br (!decide ((xhg f c r d).getD 0<0)) (κl (i64.wrap (xaM c r+1),r,d)) (κl (c,xaM c r,d))) δ) δ) δ) δ) δ) (κr (c,d))
def xbc (d:Nat) (a m b f n g:Int):(Int×Int×LA)→Option ((Int×Int×LA)⊕(Int×LA)):=fun (e,r,c)=>xeZ d a m b f n g e r c none (fun s=>some (.inl s)) (fun p=>some (.inr p))
def xb2 (d:Nat) (a m b f n g:Int):(Int×Int×LA)→LA×List Box:=fun (e,r,c)=>([AV.osl 0 0 0 d,AV.int .i64 a,AV.int .i64 m,AV.int .i64 b,AV.func 93 [],AV.int .i64 f,AV.int .i64 n,AV.int .i64 e,AV.int .i64 r,AV.int .i64 g],[⟨0,2,83,c,false,true⟩])
def xbE (c:Nat) (a m b d n e:Int):(Int×LA)→LR:=fun p=>(.leaf (.exit 8) [AV.osl 0 0 0 c,AV.int .i64 a,AV.int .i64 m,AV.int .i64 b,AV.func 93 [],AV.int .i64 d,AV.int .i64 n,AV.int .i64 p.1] [⟨0,2,83,p.2,false,true⟩])
abbrev xlE (a:LA) (H:List Box):=XR Tryz.prog xcn [0,1,2,3,4,18,19,20,21,22] [0,1,2,3,4,18,19,20] [] (loopAt Tryz.f142 4) a H
theorem xlK (c:Nat) (a m b d n e:Int) (s:Int×Int×LA):Enc (encR (xb2 c a m b d n e) (xbE c a m b d n e)) (xbc c a m b d n e s) (xlE (xb2 c a m b d n e s).1 (xb2 c a m b d n e s).2):=by
 obtain ⟨g,r,f⟩:=s
 refine eV (xeZ c a m b d n e g r f none (fun s=>some (encR (xb2 c a m b d n e) (xbE c a m b d n e) (.inl s))) (fun p=>some (encR (xb2 c a m b d n e) (xbE c a m b d n e) (.inr p)))) (by kernel_rfl) ?_;unfold xbc xeZ;repeat' first|exact eN|exact eS rfl|apply eB
def xeG:Lp:=lpOf [0,1,2,3,4,18,19,20,21,22] [0,1,2,3,4,18,19,20] [] (pCons (pOsl 0 0 0) (pCons (pInt .i64) (pCons (pInt .i64) (pCons (pInt .i64) (pCons (pFunc 93 pNil) (pCons (pInt .i64) (pCons (pInt .i64) (pCons (pInt .i64) (pCons (pInt .i64) (pCons (pInt .i64) pNil)))))))))) (pCons (pBox 0 2 83 false true pAny) pNil) fun (c,(a,(m,(b,(_,(f,(n,(e,(r,(g,_)))))))))) (d,_)=>((Iter (xbc c a m b f n g) (e,r,d)).isSome,xbE c a m b f n g ((Iter (xbc c a m b f n g) (e,r,d)).getD (0,[])))
theorem xkX:LoopOk Tryz.prog (ITryz.at xcn.pin) xcn.nt (loopAt Tryz.f142 4) xeG:=xcw fun i j l k=>by
 obtain ⟨c,⟨a,⟨m,⟨b,⟨_,⟨e,⟨n,⟨f,⟨r,⟨g,_⟩⟩⟩⟩⟩⟩⟩⟩⟩⟩:=i
 obtain ⟨d,_⟩:=j
 obtain ⟨h,rfl⟩:=Prod.mk.inj k
 exact xaP mxTryz (inv0Ok Tryz.prog _) rfl xk2 xjm (xb2 c a m b e n g) (xbE c a m b e n g) (fun p=>by simp only [xbE,LR.eval];first|(simp;done)|(repeat' split<;>simp)) (xlK c a m b e n g) (s:=(f,r,d)) (xaj h)
def xeX (R:Nat→Int→Int→Int→LA→Option (LA)):LA→List Box→Option (Bool×AV×List Box):=omOf (sCons (sEq (pOsl 0 0 0)) (sCons (sEq (pInt .i64)) (sCons (sEq (pInt .i64)) (sCons (sEq (pInt .i64)) (sCons (sEq (pFunc (93:FuncId) pNil)) sNil))))) (pCons (pBox 0 2 (83:TypeId) false true pAny) pNil) fun (n,(a,(m,(b,(_,_))))) (c,_)=>((R n a m b c).isSome,(AV.tuple [],([⟨0,2,83,((R n a m b c).getD []),false,true⟩]:List Box)))
def xaW (R:Nat→Int→Int→Int→LA→Option (LA)):Env:=(xof.withM 142 (xeX R)).fn 220 1 (lsOf [83]) (lpsOf [(3,xbk),(9,xbL),(15,xcE),(21,xdi),(33,xeG)])
def xeA (R:Nat→Int→Int→Int→LA→Option (LA)):Prop:=OmOk Tryz.prog ITryz 142 (xeX R)
theorem xk7 (R:Nat→Int→Int→Int→LA→Option (LA)) (a:xeA R):OrcOk Tryz.prog (ITryz.at 1) (xaW R):=(xkA.withM a).fn
theorem xj8 (R:Nat→Int→Int→Int→LA→Option (LA)):LoOk Tryz.prog (ITryz.at (xaW R).pin) (xaW R) (Tryz.f142.body.getD .skip):=xbT (ls:=[loopAt Tryz.f142 0,loopAt Tryz.f142 1,loopAt Tryz.f142 2,loopAt Tryz.f142 3,loopAt Tryz.f142 4]) (by kernel_rfl) (fun l b lp a=>by
 simp only [List.mem_cons,List.not_mem_nil,or_false] at b
 rcases b with rfl|rfl|rfl|rfl|rfl
 · rw [show (xaW R).lp (codeId (loopAt Tryz.f142 0))=some xbk by kernel_rfl] at a
   simp only [Option.some.injEq] at a;subst a;exact xkS
 · rw [show (xaW R).lp (codeId (loopAt Tryz.f142 1))=some xbL by kernel_rfl] at a
   simp only [Option.some.injEq] at a;subst a;exact xkO
 · rw [show (xaW R).lp (codeId (loopAt Tryz.f142 2))=some xcE by kernel_rfl] at a
   simp only [Option.some.injEq] at a;subst a;exact xkN
 · rw [show (xaW R).lp (codeId (loopAt Tryz.f142 3))=some xdi by kernel_rfl] at a
   simp only [Option.some.injEq] at a;subst a;exact xkL
 · rw [show (xaW R).lp (codeId (loopAt Tryz.f142 4))=some xeG by kernel_rfl] at a
   simp only [Option.some.injEq] at a;subst a;exact xkX)
def xaa (a b:Int):=i64.wrap ((u64.wrap (i64.wrap (a+b))).fdiv 2)
def xat (n:Nat) (a m:Int) (b:LA):=Iter (xbv n ((Iter (xa2 n m) (a,m,b)).getD (0,[])).fst) (m,((Iter (xa2 n m) (a,m,b)).getD (0,[])).snd)
def xau (n:Nat) (a m b:Int) (c:LA):=Iter (xbu n ((Iter (xa1 n a) (m,b,c)).getD (0,[])).fst) (a,((Iter (xa1 n a) (m,b,c)).getD (0,[])).snd)
def xav (n:Nat) (a m b:Int) (c:LA):=Iter (xbc n a m b (xaa a b) (i64.wrap (xaa a b+m)) (i64.wrap (i64.wrap (xaa a b+m) - 1))) (i64.wrap (i64.wrap (xaa a b+m) - b),xaa a b,c)
def xaB (n:Nat) (a m b:Int) (c:LA):=Iter (xbc n a m b (xaa a b) (i64.wrap (xaa a b+m)) (i64.wrap (i64.wrap (xaa a b+m) - 1))) (a,m,c)
def xay (n:Nat) (a m b:Int) (c:LA):=(xav n a m b c).getD (0,[])
def xaz (n:Nat) (a m b:Int) (c:LA):=(xaB n a m b c).getD (0,[])
def xaf (n:Nat) (a m b:Int) (c:LA):=(xay n a m b c).fst
def xag (n:Nat) (a m b:Int) (c:LA):=(xaz n a m b c).fst
def xac (n:Nat) (a m b:Int) (c:LA):=(xay n a m b c).snd
def xab (n:Nat) (a m b:Int) (c:LA):=(xaz n a m b c).snd
def xad (n:Nat) (a m b:Int) (c:LA):=i64.wrap (i64.wrap (xaa a b+m) - xaf n a m b c)
def xae (n:Nat) (a m b:Int) (c:LA):=i64.wrap (i64.wrap (xaa a b+m) - xag n a m b c)
def xao (n:Nat) (a m b:Int) (c:LA):=decide (xaf n a m b c<xaa a b)
def xaq (n:Nat) (a m b:Int) (c:LA):=decide (a<xaf n a m b c)
def xap (n:Nat) (a m b:Int) (c:LA):=decide (xag n a m b c<xaa a b)
def xar (n:Nat) (a m b:Int) (c:LA):=decide (a<xag n a m b c)
def xal (n:Nat) (a m b:Int) (c:LA):=decide (xaa a b<xad n a m b c)
def xam (n:Nat) (a m b:Int) (c:LA):=decide (xad n a m b c<b)
def xak (n:Nat) (a m b:Int) (c:LA):=decide (xaa a b<xae n a m b c)
def xan (n:Nat) (a m b:Int) (c:LA):=decide (xae n a m b c<b)
def xai (n:Nat) (a m b:Int) (c:LA):=(xa9 n (xaf n a m b c) m (xad n a m b c) (xac n a m b c)).getD []
def xah (n:Nat) (a m b:Int) (c:LA):=(xa9 n (xag n a m b c) m (xae n a m b c) (xab n a m b c)).getD []
def xaw (R:Nat→Int→Int→Int→LA→Option (LA)) (n:Nat) (a m b:Int) (c:LA):Option (LA):=R n (xaa a b) (xad n a m b c) b ((R n a (xaf n a m b c) (xaa a b) (xai n a m b c)).getD [])
def xaA (R:Nat→Int→Int→Int→LA→Option (LA)) (n:Nat) (a m b:Int) (c:LA):Option (LA):=R n (xaa a b) (xae n a m b c) b ((R n a (xag n a m b c) (xaa a b) (xah n a m b c)).getD [])
def xaC {T:Type} (R:Nat→Int→Int→Int→LA→Option (LA)) (n:Nat) (a m b:Int) (c:LA) (δ:T) (κ:LA→T):T:=br (i64.wrap (m - a)==1) (br ((Iter (xa1 n a) (m,b,c)).isSome) (br ((xau n a m b c).isSome) (κ ((xau n a m b c).getD [])) δ) δ) (br (i64.wrap (b - m)==1) (br ((Iter (xa2 n m) (a,m,c)).isSome) (br ((xat n a m c).isSome) (κ ((xat n a m c).getD [])) δ) δ) (br (decide (m>xaa a b)) (br ((xav n a m b c).isSome) (br (decide (xaf n a m b c<m)) (br (decide (m<xad n a m b c)) (br ((xa9 n (xaf n a m b c) m (xad n a m b c) (xac n a m b c)).isSome) (br (xaq n a m b c) (br (xao n a m b c) (br ((R n a (xaf n a m b c) (xaa a b) (xai n a m b c)).isSome) (br (xal n a m b c) (br (xam n a m b c) (br ((xaw R n a m b c).isSome) (κ ((xaw R n a m b c).getD [])) δ) (κ ((R n a (xaf n a m b c) (xaa a b) (xai n a m b c)).getD []))) (κ ((R n a (xaf n a m b c) (xaa a b) (xai n a m b c)).getD []))) δ) (br (xal n a m b c) (br (xam n a m b c) (br ((R n (xaa a b) (xad n a m b c) b (xai n a m b c)).isSome) (κ ((R n (xaa a b) (xad n a m b c) b (xai n a m b c)).getD [])) δ) (κ (xai n a m b c))) (κ (xai n a m b c)))) (br (xal n a m b c) (br (xam n a m b c) (br ((R n (xaa a b) (xad n a m b c) b (xai n a m b c)).isSome) (κ ((R n (xaa a b) (xad n a m b c) b (xai n a m b c)).getD [])) δ) (κ (xai n a m b c))) (κ (xai n a m b c)))) δ) (br (xaq n a m b c) (br (xao n a m b c) (br ((R n a (xaf n a m b c) (xaa a b) (xac n a m b c)).isSome) (br (xal n a m b c) (br (xam n a m b c) (br ((R n (xaa a b) (xad n a m b c) b ((R n a (xaf n a m b c) (xaa a b) (xac n a m b c)).getD [])).isSome) (κ ((R n (xaa a b) (xad n a m b c) b ((R n a (xaf n a m b c) (xaa a b) (xac n a m b c)).getD [])).getD [])) δ) (κ ((R n a (xaf n a m b c) (xaa a b) (xac n a m b c)).getD []))) (κ ((R n a (xaf n a m b c) (xaa a b) (xac n a m b c)).getD []))) δ) (br (xal n a m b c) (br (xam n a m b c) (br ((R n (xaa a b) (xad n a m b c) b (xac n a m b c)).isSome) (κ ((R n (xaa a b) (xad n a m b c) b (xac n a m b c)).getD [])) δ) (κ (xac n a m b c))) (κ (xac n a m b c)))) (br (xal n a m b c) (br (xam n a m b c) (br ((R n (xaa a b) (xad n a m b c) b (xac n a m b c)).isSome) (κ ((R n (xaa a b) (xad n a m b c) b (xac n a m b c)).getD [])) δ) (κ (xac n a m b c))) (κ (xac n a m b c))))) (br (xaq n a m b c) (br (xao n a m b c) (br ((R n a (xaf n a m b c) (xaa a b) (xac n a m b c)).isSome) (br (xal n a m b c) (br (xam n a m b c) (br ((R n (xaa a b) (xad n a m b c) b ((R n a (xaf n a m b c) (xaa a b) (xac n a m b c)).getD [])).isSome) (κ ((R n (xaa a b) (xad n a m b c) b ((R n a (xaf n a m b c) (xaa a b) (xac n a m b c)).getD [])).getD [])) δ) (κ ((R n a (xaf n a m b c) (xaa a b) (xac n a m b c)).getD []))) (κ ((R n a (xaf n a m b c) (xaa a b) (xac n a m b c)).getD []))) δ) (br (xal n a m b c) (br (xam n a m b c) (br ((R n (xaa a b) (xad n a m b c) b (xac n a m b c)).isSome) (κ ((R n (xaa a b) (xad n a m b c) b (xac n a m b c)).getD [])) δ) (κ (xac n a m b c))) (κ (xac n a m b c)))) (br (xal n a m b c) (br (xam n a m b c) (br ((R n (xaa a b) (xad n a m b c) b (xac n a m b c)).isSome) (κ ((R n (xaa a b) (xad n a m b c) b (xac n a m b c)).getD [])) δ) (κ (xac n a m b c))) (κ (xac n a m b c))))) δ) (br ((xaB n a m b c).isSome) (br (decide (xag n a m b c<m)) (br (decide (m<xae n a m b c)) (br ((xa9 n (xag n a m b c) m (xae n a m b c) (xab n a m b c)).isSome) (br (xar n a m b c) (br (xap n a m b c) (br ((R n a (xag n a m b c) (xaa a b) (xah n a m b c)).isSome) (br (xak n a m b c) (br (xan n a m b c) (br ((xaA R n a m b c).isSome) (κ ((xaA R n a m b c).getD [])) δ) (κ ((R n a (xag n a m b c) (xaa a b) (xah n a m b c)).getD []))) (κ ((R n a (xag n a m b c) (xaa a b) (xah n a m b c)).getD []))) δ) (br (xak n a m b c) (br (xan n a m b c) (br ((R n (xaa a b) (xae n a m b c) b (xah n a m b c)).isSome) (κ ((R n (xaa a b) (xae n a m b c) b (xah n a m b c)).getD [])) δ) (κ (xah n a m b c))) (κ (xah n a m b c)))) (br (xak n a m b c) (br (xan n a m b c) (br ((R n (xaa a b) (xae n a m b c) b (xah n a m b c)).isSome) (κ ((R n (xaa a b) (xae n a m b c) b (xah n a m b c)).getD [])) δ) (κ (xah n a m b c))) (κ (xah n a m b c)))) δ) (br (xar n a m b c) (br (xap n a m b c) (br ((R n a (xag n a m b c) (xaa a b) (xab n a m b c)).isSome) (br (xak n a m b c) (br (xan n a m b c) (br ((R n (xaa a b) (xae n a m b c) b ((R n a (xag n a m b c) (xaa a b) (xab n a m b c)).getD [])).isSome) (κ ((R n (xaa a b) (xae n a m b c) b ((R n a (xag n a m b c) (xaa a b) (xab n a m b c)).getD [])).getD [])) δ) (κ ((R n a (xag n a m b c) (xaa a b) (xab n a m b c)).getD []))) (κ ((R n a (xag n a m b c) (xaa a b) (xab n a m b c)).getD []))) δ) (br (xak n a m b c) (br (xan n a m b c) (br ((R n (xaa a b) (xae n a m b c) b (xab n a m b c)).isSome) (κ ((R n (xaa a b) (xae n a m b c) b (xab n a m b c)).getD [])) δ) (κ (xab n a m b c))) (κ (xab n a m b c)))) (br (xak n a m b c) (br (xan n a m b c) (br ((R n (xaa a b) (xae n a m b c) b (xab n a m b c)).isSome) (κ ((R n (xaa a b) (xae n a m b c) b (xab n a m b c)).getD [])) δ) (κ (xab n a m b c))) (κ (xab n a m b c))))) (br (xar n a m b c) (br (xap n a m b c) (br ((R n a (xag n a m b c) (xaa a b) (xab n a m b c)).isSome) (br (xak n a m b c) (br (xan n a m b c) (br ((R n (xaa a b) (xae n a m b c) b ((R n a (xag n a m b c) (xaa a b) (xab n a m b c)).getD [])).isSome) (κ ((R n (xaa a b) (xae n a m b c) b ((R n a (xag n a m b c) (xaa a b) (xab n a m b c)).getD [])).getD [])) δ) (κ ((R n a (xag n a m b c) (xaa a b) (xab n a m b c)).getD []))) (κ ((R n a (xag n a m b c) (xaa a b) (xab n a m b c)).getD []))) δ) (br (xak n a m b c) (br (xan n a m b c) (br ((R n (xaa a b) (xae n a m b c) b (xab n a m b c)).isSome) (κ ((R n (xaa a b) (xae n a m b c) b (xab n a m b c)).getD [])) δ) (κ (xab n a m b c))) (κ (xab n a m b c)))) (br (xak n a m b c) (br (xan n a m b c) (br ((R n (xaa a b) (xae n a m b c) b (xab n a m b c)).isSome) (κ ((R n (xaa a b) (xae n a m b c) b (xab n a m b c)).getD [])) δ) (κ (xab n a m b c))) (κ (xab n a m b c))))) δ)))
def xas (R:Nat→Int→Int→Int→LA→Option (LA)) (n:Nat) (a m b:Int) (c:LA):Option (LA):=xaC R n a m b c none some
theorem xm0 (R:Nat→Int→Int→Int→LA→Option (LA)) (n:Nat) (a m b:Int) (xs:LA):Enc (fun (p:LA)=>(((AV.tuple [],([⟨0,2,83,p,false,true⟩]:List Box))):(AV×List Box))) (xas R n a m b xs) (XFM Tryz.prog (xaW R) Tryz.f142 (Tryz.f142.body.getD .skip) [AV.osl (0:Id) 0 0 n,AV.int .i64 a,AV.int .i64 m,AV.int .i64 b,AV.func (93:FuncId) []] [{ ver:=0,sz:=2,ty:=(83:TypeId),xs:=xs,frz:=false,pm:=true }]):=by
 refine eV (xaC R n a m b xs none (fun (p:LA)=>some (((AV.tuple [],([⟨0,2,83,p,false,true⟩]:List Box))):(AV×List Box)))) (by kernel_rfl) ?_;unfold xas xaC;repeat' first|exact eN|exact eS rfl|apply eB
def xmZ (R:Nat→Int→Int→Int→LA→Option (LA)):LA→List Box→Option (Bool×AV×List Box):=omOf (sCons (sEq (pOsl 0 0 0)) (sCons (sEq (pInt .i64)) (sCons (sEq (pInt .i64)) (sCons (sEq (pInt .i64)) (sCons (sEq (pFunc (93:FuncId) pNil)) sNil))))) (pCons (pBox 0 2 (83:TypeId) false true pAny) pNil) fun (n,(a,(m,(b,(_,_))))) (c,_)=>((xas R n a m b c).isSome,((AV.tuple [],([⟨0,2,83,((xas R n a m b c).getD []),false,true⟩]:List Box))))
theorem xmN (R:Nat→Int→Int→Int→LA→Option (LA)) (f:xeA R):OmOk Tryz.prog ITryz 142 (xmZ R):=xfj fun g h k j i=>by
 obtain ⟨n,⟨a,⟨m,⟨b,⟨_,_⟩⟩⟩⟩⟩:=g
 obtain ⟨l,_⟩:=h
 obtain ⟨c,e⟩:=Prod.mk.inj i
 refine xdB (p:=(xaW R).pin) (xd3 mxTryz (inv0Ok Tryz.prog _) rfl (xk7 R f) rfl Tryz.func142 rfl (by kernel_rfl) (xj8 R) ((xm0 R _ _ _ _ _ _ (xaj (d:=[]) c)).trans ?_))
 exact congrArg some e
def xaK:Nat→Nat→Int→Int→Int→LA→Option (LA)
 | 0=>fun _ _ _ _ _=>none
 | fu_+1=>fun n a m b c=>xas (xaK fu_) n a m b c
theorem xhu:∀ n,xeA (xaK n)
 | 0=>xfj fun _ _ _ _ h=>absurd (Prod.mk.inj h).1 Bool.false_ne_true
 | fu_+1=>fun a H r b h=>xmN (xaK fu_) (xhu fu_) a H r b h
def xrn:Env:=xof.withM 142 (xeX (xaK 1000))
theorem xnQ:OrcOk Tryz.prog ITryz xrn:=xkA.withM (xhu _)
def xcP:Env:=xrn.fn 63 1 (lsOf [83]) (lpsOf [])
theorem xlZ:OrcOk Tryz.prog (ITryz.at 1) xcP:=xnQ.fn
theorem xj1:LoOk Tryz.prog (ITryz.at xcP.pin) xcP (loopAt Tryz.f119 0):=xaH (by kernel_rfl)
def xfA {T:Type} (d:Nat) (n e a b:Int) (c:LA) (δ:T) (κl:(Int×Int×LA)→T) (κr:(Int×LA)→T):T:=br (decide (b≤n)) (br ((xaS d a b c).isSome) (κl (b,i64.wrap (b+e),(xaS d a b c).getD [])) δ) (κr (a,c))
def xa6 (e:Nat) (n c:Int):(Int×Int×LA)→Option ((Int×Int×LA)⊕(Int×LA)):=fun (a,b,d)=>xfA e n c a b d none (fun s=>some (.inl s)) (fun p=>some (.inr p))
def xck (e:Nat) (n c:Int):(Int×Int×LA)→LA×List Box:=fun (a,b,d)=>([AV.osl 0 0 0 e,AV.int .i64 n,AV.func 93 [],AV.int .i64 c,AV.int .i64 a,AV.int .i64 b],[⟨0,2,83,d,false,true⟩])
def xb0 (b:Nat) (n a:Int):(Int×LA)→LR:=fun p=>(.leaf (.exit 0) [AV.osl 0 0 0 b,AV.int .i64 n,AV.func 93 [],AV.int .i64 a,AV.int .i64 p.1] [⟨0,2,83,p.2,false,true⟩])
abbrev xml (a:LA) (H:List Box):=XR Tryz.prog xcP [0,1,2,6,7,8] [0,1,2,6,7] [] (loopAt Tryz.f119 0) a H
theorem xmn (d:Nat) (n c:Int) (s:Int×Int×LA):Enc (encR (xck d n c) (xb0 d n c)) (xa6 d n c s) (xml (xck d n c s).1 (xck d n c s).2):=by
 obtain ⟨a,b,e⟩:=s
 refine eV (xfA d n c a b e none (fun s=>some (encR (xck d n c) (xb0 d n c) (.inl s))) (fun p=>some (encR (xck d n c) (xb0 d n c) (.inr p)))) (by kernel_rfl) ?_;unfold xa6 xfA;repeat' first|exact eN|exact eS rfl|apply eB
def xdQ:Lp:=lpOf [0,1,2,6,7,8] [0,1,2,6,7] [] (pCons (pOsl 0 0 0) (pCons (pInt .i64) (pCons (pFunc 93 pNil) (pCons (pInt .i64) (pCons (pInt .i64) (pCons (pInt .i64) pNil)))))) (pCons (pBox 0 2 83 false true pAny) pNil) fun (d,(n,(_,(c,(a,(b,_)))))) (e,_)=>((Iter (xa6 d n c) (a,b,e)).isSome,xb0 d n c ((Iter (xa6 d n c) (a,b,e)).getD (0,[])))
theorem xlM:LoopOk Tryz.prog (ITryz.at xcP.pin) xcP.nt (loopAt Tryz.f119 0) xdQ:=xcw fun g h j i=>by
 obtain ⟨d,⟨n,⟨_,⟨c,⟨a,⟨b,_⟩⟩⟩⟩⟩⟩:=g
 obtain ⟨e,_⟩:=h
 obtain ⟨f,rfl⟩:=Prod.mk.inj i
 exact xaP mxTryz (inv0Ok Tryz.prog _) rfl xlZ xj1 (xck d n c) (xb0 d n c) (fun p=>by simp only [xb0,LR.eval];first|(simp;done)|(repeat' split<;>simp)) (xmn d n c) (s:=(a,b,e)) (xaj f)
def xcN:Env:=xrn.fn 63 1 (lsOf [83]) (lpsOf [(2,xdQ)])
theorem xma:OrcOk Tryz.prog (ITryz.at 1) xcN:=xnQ.fn
theorem xj7:LoOk Tryz.prog (ITryz.at xcN.pin) xcN (loopAt Tryz.f119 2):=xaH (by kernel_rfl)
def xfB {T:Type} (e:Nat) (n c a b:Int) (d:LA) (δ:T) (κl:(Int×Int×LA)→T) (κr:(Int×LA)→T):T:=br (decide (b≤n)) (br ((xaK 1000 e a (i64.wrap (a+c)) b d).isSome) (κl (b,i64.wrap (b+i64.wrap (2*c)),(xaK 1000 e a (i64.wrap (a+c)) b d).getD [])) δ) (κr (a,d))
def xbl (e:Nat) (n c:Int):(Int×Int×LA)→Option ((Int×Int×LA)⊕(Int×LA)):=fun (a,b,d)=>xfB e n c a b d none (fun s=>some (.inl s)) (fun p=>some (.inr p))
def xcm (e:Nat) (n c:Int):(Int×Int×LA)→LA×List Box:=fun (a,b,d)=>([AV.osl 0 0 0 e,AV.int .i64 n,AV.func 93 [],AV.int .i64 c,AV.int .i64 a,AV.int .i64 b],[⟨0,2,83,d,false,true⟩])
def xbX (b:Nat) (n a:Int):(Int×LA)→LR:=fun p=>(.leaf (.exit 4) [AV.osl 0 0 0 b,AV.int .i64 n,AV.func 93 [],AV.int .i64 a,AV.int .i64 p.1] [⟨0,2,83,p.2,false,true⟩])
abbrev xmu (a:LA) (H:List Box):=XR Tryz.prog xcN [0,1,2,6,7,8] [0,1,2,6,7] [] (loopAt Tryz.f119 2) a H
theorem xmH (d:Nat) (n c:Int) (s:Int×Int×LA):Enc (encR (xcm d n c) (xbX d n c)) (xbl d n c s) (xmu (xcm d n c s).1 (xcm d n c s).2):=by
 obtain ⟨a,b,e⟩:=s
 refine eV (xfB d n c a b e none (fun s=>some (encR (xcm d n c) (xbX d n c) (.inl s))) (fun p=>some (encR (xcm d n c) (xbX d n c) (.inr p)))) (by kernel_rfl) ?_;unfold xbl xfB;repeat' first|exact eN|exact eS rfl|apply eB
def xff:Lp:=lpOf [0,1,2,6,7,8] [0,1,2,6,7] [] (pCons (pOsl 0 0 0) (pCons (pInt .i64) (pCons (pFunc 93 pNil) (pCons (pInt .i64) (pCons (pInt .i64) (pCons (pInt .i64) pNil)))))) (pCons (pBox 0 2 83 false true pAny) pNil) fun (d,(n,(_,(c,(a,(b,_)))))) (e,_)=>((Iter (xbl d n c) (a,b,e)).isSome,xbX d n c ((Iter (xbl d n c) (a,b,e)).getD (0,[])))
theorem xht:LoopOk Tryz.prog (ITryz.at xcN.pin) xcN.nt (loopAt Tryz.f119 2) xff:=xcw fun g h j i=>by
 obtain ⟨d,⟨n,⟨_,⟨c,⟨a,⟨b,_⟩⟩⟩⟩⟩⟩:=g
 obtain ⟨e,_⟩:=h
 obtain ⟨f,rfl⟩:=Prod.mk.inj i
 exact xaP mxTryz (inv0Ok Tryz.prog _) rfl xma xj7 (xcm d n c) (xbX d n c) (fun p=>by simp only [xbX,LR.eval];first|(simp;done)|(repeat' split<;>simp)) (xmH d n c) (s:=(a,b,e)) (xaj f)
def xcL:Env:=xrn.fn 63 1 (lsOf [83]) (lpsOf [(2,xdQ),(9,xff)])
theorem xlY:OrcOk Tryz.prog (ITryz.at 1) xcL:=xnQ.fn
theorem xj4:LoOk Tryz.prog (ITryz.at xcL.pin) xcL (loopAt Tryz.f119 1):=xbT (ls:=[loopAt Tryz.f119 2]) (by kernel_rfl) (lkC xht lkN)
def xdP (c:Nat) (n a:Int) (b:LA):=Iter (xbl c n a) (0,i64.wrap (2*a),b)
def xdK (c:Nat) (n a:Int) (b:LA):=(xdP c n a b).getD (0,[])
def xdV (c:Nat) (n a:Int) (b:LA):=(xdK c n a b).snd
def xdO (c:Nat) (n a:Int) (b:LA):=(xdK c n a b).fst
def xdR (c:Nat) (n a:Int) (b:LA):=i64.wrap (xdO c n a b+a)
def xdU (b:Nat) (n a:Int) (c:LA):=xaK 1000 b (xdO b n a c) (xdR b n a c) n (xdV b n a c)
def xco {T:Type} (c:Nat) (n a:Int) (b:LA) (δ:T) (κl:(Int×LA)→T) (κr:(LA)→T):T:=br (decide (a<n)) (br ((xdP c n a b).isSome) (br (decide (xdR c n a b<n)) (br ((xdU c n a b).isSome) (κl (i64.wrap (a*2),(xdU c n a b).getD [])) δ) (κl (i64.wrap (a*2),xdV c n a b))) δ) (κr (b))
def xaN (c:Nat) (n:Int):(Int×LA)→Option ((Int×LA)⊕(LA)):=fun (a,b)=>xco c n a b none (fun s=>some (.inl s)) (fun p=>some (.inr p))
def xcq (c:Nat) (n:Int):(Int×LA)→LA×List Box:=fun (a,b)=>([AV.osl 0 0 0 c,AV.int .i64 n,AV.func 93 [],AV.int .i64 a],[⟨0,2,83,b,false,true⟩])
def xb1 (a:Nat) (n:Int):(LA)→LR:=fun p=>(.leaf (.exit 2) [] [⟨0,2,83,p,false,true⟩])
abbrev xmG (a:LA) (H:List Box):=XR Tryz.prog xcL [0,1,2,6] [] [] (loopAt Tryz.f119 1) a H
theorem xmt (a:Nat) (n:Int) (s:Int×LA):Enc (encR (xcq a n) (xb1 a n)) (xaN a n s) (xmG (xcq a n s).1 (xcq a n s).2):=by
 obtain ⟨b,c⟩:=s
 refine eV (xco a n b c none (fun s=>some (encR (xcq a n) (xb1 a n) (.inl s))) (fun p=>some (encR (xcq a n) (xb1 a n) (.inr p)))) (by kernel_rfl) ?_;unfold xaN xco;repeat' first|exact eN|exact eS rfl|apply eB
def xhT:Lp:=lpOf [0,1,2,6] [] [] (pCons (pOsl 0 0 0) (pCons (pInt .i64) (pCons (pFunc 93 pNil) (pCons (pInt .i64) pNil)))) (pCons (pBox 0 2 83 false true pAny) pNil) fun (b,(n,(_,(a,_)))) (c,_)=>((Iter (xaN b n) (a,c)).isSome,xb1 b n ((Iter (xaN b n) (a,c)).getD []))
theorem xlT:LoopOk Tryz.prog (ITryz.at xcL.pin) xcL.nt (loopAt Tryz.f119 1) xhT:=xcw fun e f h g=>by
 obtain ⟨a,⟨n,⟨_,⟨b,_⟩⟩⟩⟩:=e
 obtain ⟨c,_⟩:=f
 obtain ⟨d,rfl⟩:=Prod.mk.inj g
 exact xaP mxTryz (inv0Ok Tryz.prog _) rfl xlY xj4 (xcq a n) (xb1 a n) (fun p=>by simp only [xb1,LR.eval];first|(simp;done)|(repeat' split<;>simp)) (xmt a n) (s:=(b,c)) (xaj d)
def xdg:Env:=xrn.fn 63 1 (lsOf [83]) (lpsOf [(2,xdQ),(9,xff),(7,xhT)])
theorem xl9:OrcOk Tryz.prog (ITryz.at 1) xdg:=xnQ.fn
theorem xkR:LoOk Tryz.prog (ITryz.at xdg.pin) xdg (Tryz.f119.body.getD .skip):=xbT (ls:=[loopAt Tryz.f119 0,loopAt Tryz.f119 1,loopAt Tryz.f119 2]) (by kernel_rfl) (lkC xlM (lkC xlT (lkC xht lkN)))
def xf4 (n:Nat) (k:Int) (a:LA):=(Iter (xa6 n k 20) (0,20,a)).getD (0,[])
def xga (n:Nat) (k:Int) (a:LA):=xaS n (xf4 n k a).fst k (xf4 n k a).snd
def xf5 (n:Nat) (k:Int) (a:LA):=Iter (xaN n k) (20,(xga n k a).getD [])
def xeF {T:Type} (n:Nat) (k:Int) (a:LA) (δ:T) (κ:LA→T):T:=br ((Iter (xa6 n k 20) (0,20,a)).isSome) (br ((xga n k a).isSome) (br ((xf5 n k a).isSome) (κ ((xf5 n k a).getD [])) δ) δ) δ
def xb7 (n:Nat) (k:Int) (a:LA):Option (LA):=xeF n k a none some
theorem xnH (n:Nat) (k:Int) (xs:LA):Enc (fun (p:LA)=>(((AV.tuple [],([⟨0,2,83,p,false,true⟩]:List Box))):(AV×List Box))) (xb7 n k xs) (XFM Tryz.prog xdg Tryz.f119 (Tryz.f119.body.getD .skip) [AV.osl (0:Id) 0 0 n,AV.int .i64 k,AV.func (93:FuncId) []] [{ ver:=0,sz:=2,ty:=(83:TypeId),xs:=xs,frz:=false,pm:=true }]):=by
 refine eV (xeF n k xs none (fun (p:LA)=>some (((AV.tuple [],([⟨0,2,83,p,false,true⟩]:List Box))):(AV×List Box)))) (by kernel_rfl) ?_;unfold xb7 xeF;repeat' first|exact eN|exact eS rfl|apply eB
def xiL:LA→List Box→Option (Bool×AV×List Box):=omOf (sCons (sEq (pOsl 0 0 0)) (sCons (sEq (pInt .i64)) (sCons (sEq (pFunc (93:FuncId) pNil)) sNil))) (pCons (pBox 0 2 (83:TypeId) false true pAny) pNil) fun (n,(k,(_,_))) (a,_)=>((xb7 n k a).isSome,((AV.tuple [],([⟨0,2,83,((xb7 n k a).getD []),false,true⟩]:List Box))))
theorem xnB:OmOk Tryz.prog ITryz 119 (xiL):=xfj fun c e h g f=>by
 obtain ⟨n,⟨k,⟨_,_⟩⟩⟩:=c
 obtain ⟨i,_⟩:=e
 obtain ⟨a,b⟩:=Prod.mk.inj f
 refine xdB (p:=xdg.pin) (xd3 mxTryz (inv0Ok Tryz.prog _) rfl xl9 rfl Tryz.func119 rfl (by kernel_rfl) xkR ((xnH _ _ _ _ (xaj (d:=[]) a)).trans ?_))
 exact congrArg some b
def xzZ:Env:=xrn.withM 119 xiL
theorem xwP:OrcOk Tryz.prog ITryz xzZ:=xnQ.withM xnB
def xc6:Env:=xzZ.fn 9 1 (lsOf [83]) (lpsOf [])
theorem xlD:OrcOk Tryz.prog (ITryz.at 1) xc6:=xwP.fn
theorem xkM:LoOk Tryz.prog (ITryz.at xc6.pin) xc6 (Tryz.f92.body.getD .skip):=xaH (by kernel_rfl)
def xez {T:Type} (n:Nat) (a:LA) (δ:T) (κ:LA→T):T:=br ((xb7 n (↑n:Int) a).isSome) (κ ((xb7 n (↑n:Int) a).getD [])) δ
def xcz (n:Nat) (a:LA):Option (LA):=xez n a none some
theorem xm7 (n:Nat) (xs:LA):Enc (fun (p:LA)=>(((AV.tuple [],([⟨0,2,83,p,false,true⟩]:List Box))):(AV×List Box))) (xcz n xs) (XFM Tryz.prog xc6 Tryz.f92 (Tryz.f92.body.getD .skip) [AV.osl (0:Id) 0 0 n,AV.func (93:FuncId) []] [{ ver:=0,sz:=2,ty:=(83:TypeId),xs:=xs,frz:=false,pm:=true }]):=by
 refine eV (xez n xs none (fun (p:LA)=>some (((AV.tuple [],([⟨0,2,83,p,false,true⟩]:List Box))):(AV×List Box)))) (by kernel_rfl) ?_;unfold xcz xez;repeat' first|exact eN|exact eS rfl|apply eB
def xiy:LA→List Box→Option (Bool×AV×List Box):=omOf (sCons (sEq (pOsl 0 0 0)) (sCons (sEq (pFunc (93:FuncId) pNil)) sNil)) (pCons (pBox 0 2 (83:TypeId) false true pAny) pNil) fun (n,(_,_)) (a,_)=>((xcz n a).isSome,((AV.tuple [],([⟨0,2,83,((xcz n a).getD []),false,true⟩]:List Box))))
theorem xm6:OmOk Tryz.prog ITryz 92 (xiy):=xfj fun c e h g f=>by
 obtain ⟨n,⟨_,_⟩⟩:=c
 obtain ⟨i,_⟩:=e
 obtain ⟨a,b⟩:=Prod.mk.inj f
 refine xdB (p:=xc6.pin) (xd3 mxTryz (inv0Ok Tryz.prog _) rfl xlD rfl Tryz.func92 rfl (by kernel_rfl) xkM ((xm7 _ _ _ (xaj (d:=[]) a)).trans ?_))
 exact congrArg some b
def xvT:Env:=xzZ.withM 92 xiy
theorem xsy:OrcOk Tryz.prog ITryz xvT:=xwP.withM xm6
def xfa:Env:=xvT.fn 60 0 (lsOf []) (lpsOf [])
theorem xqn:OrcOk Tryz.prog (ITryz.at 0) xfa:=xsy.fn
theorem xnZ:LoOk Tryz.prog (ITryz.at xfa.pin) xfa (loopAt Tryz.f67 0):=xaH (by kernel_rfl)
def xeC (b:LA) (c:Int) (a:LA):=a++[AV.agg [AV.list 3 ((b.getD c.toNat .top).cells.getD 0 .top).toList,AV.list 2 []]]
def xcG (a:Nat):Nat:=0+(↑a:Int).toNat
def xc1 (a:LA) (b:Int):=(xeK ((a.getD b.toNat .top).cells.getD 0 .top).toList).getD []
def xgw (d:LA) (f:Int) (b:Nat) (e:Int) (c a:LA):=decide (xcG b<(xeC d e a).length)
def xgA (d:LA) (e:Int) (a:Nat) (f:Int) (b c:LA):=decide ((↑a:Int)<(↑(a+1):Int))
def xbC (c:LA) (b:Nat) (d:Int) (a:LA):=((xeC c d a).getD (xcG b) .top).cells
def xf7 (a:LA) (b:Int):=decide ((xc1 a b).length≤4611686018427387904)
def xeI (b:LA) (c:Int) (a:LA):=(mapGet (AV.int .i64 0) a (xc1 b c)).toInt
def xgz (c:LA) (b:Nat) (d:Int) (a:LA):=decide (0≤xeI c d a)&&decide (xeI c d a<(↑b:Int))
def xa7 (c:LA) (b:Nat) (d:Int) (a:LA):=((xbC c b d a).getD 1 .top).toList.length
def xaQ (b:LA) (c:Int) (a:LA):Nat:=0+(xeI b c a).toNat
def xf9 (a:LA) (d:Nat) (b:Int) (c:LA):=((xbC a d b c).getD 1 .top).toList++[AV.agg [AV.int .i64 ((a.getD b.toNat .top).cells.getD 1 .top).toInt,AV.int .i64 ((a.getD b.toNat .top).cells.getD 2 .top).toInt]]
def xe6 (c:LA) (b:Nat) (d:Int) (a:LA):=(xeC c d a).set (xcG b) (AV.agg (List.take 1 (xbC c b d a)++[AV.int .i64 (↑(xa7 c b d a):Int)]++List.drop 2 (xbC c b d a)))
def xgy (c:LA) (d:Int) (a b:LA):=decide (xaQ c d a<b.length)
def xa8 (c:LA) (d:Int) (a b:LA):=((b.getD (xaQ c d a) .top).cells.getD 1 .top).toList.length
def xgb (b:LA) (c:Int) (a d:LA):=((d.getD (xaQ b c a) .top).cells.getD 1 .top).toList++[AV.agg [AV.int .i64 ((b.getD c.toNat .top).cells.getD 1 .top).toInt,AV.int .i64 ((b.getD c.toNat .top).cells.getD 2 .top).toInt]]
def xd7 (c:LA) (a:Nat) (d:Int) (b:LA):=((xe6 c a d b).getD (xcG a) .top).cells
def xe5 (c:LA) (d:Int) (a b:LA):=b.set (xaQ c d a) (AV.agg (List.take 1 (b.getD (xaQ c d a) .top).cells++[AV.int .i64 (↑(xa8 c d a b):Int)]++List.drop 2 (b.getD (xaQ c d a) .top).cells))
def xec (c:LA) (d:Int) (a b:LA):=((xe5 c d a b).getD (xaQ c d a) .top).cells
def xdF {T:Type} (d:LA) (f:Int) (e:Nat) (c:Int) (b a:LA) (δ:T) (κl:(Nat×Int×LA×LA)→T) (κr:(Nat×LA)→T):T:=br (decide (c<f)) (br (decide (0≤c)&&decide (c<d.length)) (br (decide (c.toNat<d.length)&&((d.getD c.toNat .top).cells.length==3&&hasShs [Sh.list 3,Sh.int .i64,Sh.int .i64] (d.getD c.toNat .top).cells 0)) (br (!xeB ((d.getD c.toNat .top).cells.getD 1 .top).toInt ((d.getD c.toNat .top).cells.getD 2 .top).toInt) (κl (e,i64.wrap (c+1),b,a)) (br ((xeK ((d.getD c.toNat .top).cells.getD 0 .top).toList).isSome) (br (xf7 d c&&hasSh1 (Sh.int .i64) (mapGet (AV.int .i64 0) b (xc1 d c))) (br (!mapHas b (xc1 d c)) (br (decide (b.length<4611686018427387904)&&xf7 d c) (br (e==a.length&&(decide ((e+1)*48≤140737488355328)&&decide (e+1≤4611686018427387904))) (br (xgA d f e c b a) (br (xgw d f e c b a&&(isRow 2 ((xbC d e c a).getD 1 .top)&&(xbC d e c a).length==2)) (br (xgw d f e c b a&&(isRow 2 ((xbC d e c a).getD 1 .top)&&((xbC d e c a).length==2&&(2*xa7 d e c a==2*xa7 d e c a&&(xa7 d e c a==xa7 d e c a&&(xa7 d e c a==xa7 d e c a&&(decide ((xa7 d e c a+1)*16≤140737488355328)&&decide (xa7 d e c a+1≤4611686018427387904)))))))) (br (xgA d f e c b a) (br (decide (xcG e<(xe6 d e c a).length)&&((xd7 d e c a).length==2&&(xa7 d e c a+1==(xf9 d e c a).length&&deadLt ((xd7 d e c a).getD 1 .top) (xa7 d e c a+1)))) (κl (e+1,i64.wrap (c+1),mapPut b (xc1 d c) (AV.int .i64 (↑e:Int)),(xe6 d e c a).set (xcG e) (AV.agg (List.take 1 (xd7 d e c a)++[AV.list 2 (xf9 d e c a)]++List.drop 2 (xd7 d e c a))))) δ) δ) δ) δ) δ) δ) δ) (br (xgz d e c b) (br (xgy d c b a&&(isRow 2 ((a.getD (xaQ d c b) .top).cells.getD 1 .top)&&(a.getD (xaQ d c b) .top).cells.length==2)) (br (xgy d c b a&&(isRow 2 ((a.getD (xaQ d c b) .top).cells.getD 1 .top)&&((a.getD (xaQ d c b) .top).cells.length==2&&(2*xa8 d c b a==2*xa8 d c b a&&(xa8 d c b a==xa8 d c b a&&(xa8 d c b a==xa8 d c b a&&(decide ((xa8 d c b a+1)*16≤140737488355328)&&decide (xa8 d c b a+1≤4611686018427387904)))))))) (br (xgz d e c b) (br (decide (xaQ d c b<(xe5 d c b a).length)&&((xec d c b a).length==2&&(xa8 d c b a+1==(xgb d c b a).length&&deadLt ((xec d c b a).getD 1 .top) (xa8 d c b a+1)))) (κl (e,i64.wrap (c+1),b,(xe5 d c b a).set (xaQ d c b) (AV.agg (List.take 1 (xec d c b a)++[AV.list 2 (xgb d c b a)]++List.drop 2 (xec d c b a))))) δ) δ) δ) δ) δ)) δ) δ)) δ) δ) (κr (e,a))
def xbg (d:LA) (e:Int):(Nat×Int×LA×LA)→Option ((Nat×Int×LA×LA)⊕(Nat×LA)):=fun (c,f,a,b)=>xdF d e c f a b none (fun s=>some (.inl s)) (fun p=>some (.inr p))
def xeo (d:LA) (e:Int):(Nat×Int×LA×LA)→LA×List Box:=fun (c,f,a,b)=>([AV.own 0 0 0 0,AV.osl 1 0 0 c,AV.list 3 d,AV.int .i64 e,AV.int .i64 f],[⟨0,2,1208925819615080213381120,a,false,true⟩,⟨0,2,133280301139,b,false,true⟩])
def xdS (a:LA) (b:Int):(Nat×LA)→LR:=fun p=>(.leaf (.exit 0) [AV.osl 0 0 0 p.1] [⟨0,2,133280301139,p.2,false,true⟩])
abbrev xqS (a:LA) (H:List Box):=XR Tryz.prog xfa [3,4,11,12,13] [4] [(4,2,133280301139)] (loopAt Tryz.f67 0) a H
theorem xqK (a:LA) (b:Int) (s:Nat×Int×LA×LA):Enc (encR (xeo a b) (xdS a b)) (xbg a b s) (xqS (xeo a b s).1 (xeo a b s).2):=by
 obtain ⟨e,f,c,d⟩:=s
 refine eV (xdF a b e f c d none (fun s=>some (encR (xeo a b) (xdS a b) (.inl s))) (fun p=>some (encR (xeo a b) (xdS a b) (.inr p)))) (by kernel_rfl) ?_;unfold xbg xdF;repeat' first|exact eN|exact eS rfl|apply eB
def xlW:Lp:=lpOf [3,4,11,12,13] [4] [(4,2,133280301139)] (pCons (pOwn 0 0 0 0) (pCons (pOsl 1 0 0) (pCons (pList 3 pAny) (pCons (pInt .i64) (pCons (pInt .i64) pNil))))) (pCons (pBox 0 2 1208925819615080213381120 false true pAny) (pCons (pBox 0 2 133280301139 false true pAny) pNil)) fun (_,(c,(d,(e,(f,_))))) (a,(b,_))=>((Iter (xbg d e) (c,f,a,b)).isSome,xdS d e ((Iter (xbg d e) (c,f,a,b)).getD (0,[])))
theorem xpQ:LoopOk Tryz.prog (ITryz.at xfa.pin) xfa.nt (loopAt Tryz.f67 0) xlW:=xcw fun h i k j=>by
 obtain ⟨_,⟨e,⟨b,⟨c,⟨f,_⟩⟩⟩⟩⟩:=h
 obtain ⟨a,⟨d,_⟩⟩:=i
 obtain ⟨g,rfl⟩:=Prod.mk.inj j
 exact xaP mxTryz (inv0Ok Tryz.prog _) rfl xqn xnZ (xeo b c) (xdS b c) (fun p=>by simp only [xdS,LR.eval];first|(simp;done)|(repeat' split<;>simp)) (xqK b c) (s:=(e,f,a,d)) (xaj g)
def xgs:Env:=xvT.fn 60 0 (lsOf []) (lpsOf [(4,xlW)])
theorem xqi:OrcOk Tryz.prog (ITryz.at 0) xgs:=xsy.fn
theorem xo4:LoOk Tryz.prog (ITryz.at xgs.pin) xgs (Tryz.f67.body.getD .skip):=xbT (ls:=[loopAt Tryz.f67 0]) (by kernel_rfl) (lkC xpQ lkN)
def xkD (l:LA):=Iter (xbg l (↑l.length:Int)) (0,0,[],[])
def xkC (l:LA):=(xkD l).getD (0,[])
def xh5 (l:LA):=(xkC l).fst
def xkE (l:LA):=(xkC l).snd
def xkz (l:LA):=xcz (xh5 l) (xkE l)
def xkv (l:LA):=(xkz l).getD []
def xiv {T:Type} (l:LA) (δ:T) (κ:LA→T):T:=br ((xkD l).isSome) (br (rowsAll 2 1 (xkE l)) (br ((xkz l).isSome) (br (decide (0+xh5 l≤(xkv l).length)&&true) (κ (List.take (xh5 l) (List.drop 0 (xkv l)))) δ) δ) δ) δ
def xeg (l:LA):Option (LA):=xiv l none some
theorem xtn (l:LA):Enc (fun (p:LA)=>((AV.list 2 p):AV)) (xeg l) (XF Tryz.prog xgs Tryz.f67 (Tryz.f67.body.getD .skip) [AV.list 3 l]):=by
 refine eV (xiv l none (fun (p:LA)=>some ((AV.list 2 p):AV))) (by kernel_rfl) ?_;unfold xeg xiv;repeat' first|exact eN|exact eS rfl|apply eB
def xn8:LA→Option (Bool×AV):=ocOf (sCons (sList 3 pAny) sNil) fun (l,_)=>((xeg l).isSome,(AV.list 2 ((xeg l).getD [])))
theorem xtV:OcOk Tryz.prog ITryz 67 (xn8):=xcd fun c f e=>by
 obtain ⟨l,_⟩:=c
 obtain ⟨a,b⟩:=Prod.mk.inj e
 refine xbd (p:=xgs.pin) (xbI mxTryz (inv0Ok Tryz.prog _) rfl xqi Tryz.func67 rfl (by kernel_rfl) xo4 ((xtn _ _ (xaj (d:=[]) a)).trans ?_))
 exact congrArg some b
def xD6:Env:=xvT.with 67 xn8
theorem xDQ:OrcOk Tryz.prog ITryz xD6:=xsy.with xtV
abbrev EKG:Env:=xD6
theorem xFB:OrcOk Tryz.prog ITryz EKG:=xDQ
end Go.Sim.M
end
