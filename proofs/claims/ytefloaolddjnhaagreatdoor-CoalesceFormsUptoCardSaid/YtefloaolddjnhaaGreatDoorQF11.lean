/- Part 11 of the proof of the law. -/
import Derived.Test.YtefloaolddjnhaaGreatDoorQF10
import Derived.Deep.LoopGhost
import Derived.Lib.SliceRun
set_option linter.unusedVariables false
set_option linter.unusedSimpArgs false
noncomputable section
namespace Go.Proofs
open Go.RowKit Go.Lib Go.Shelf
set_option maxHeartbeats 2000000 in
set_option maxRecDepth 100000 in
theorem Tryz.clone_nil (n c:Nat) (w:World) :
  Calls Tryz.prog 111 #[.slice none n c] w fun e w'=>e=.returned (.slice none 0 0)∧w'=w:=by
 have q22:∀ (w:World) (a:Option Addr) (n c n' c':Nat),(binOp .eql 40 (.slice a n c) (.slice none n' c')).run Tryz.prog w=.ok (.bool a.isNone) w:=fun w a n c n' c'=>Lib.run_eql_slice_nil w 40 73 a n c n' c' (by kernel_rfl)
 go_enter Tryz.func111,Tryz.ntmps111
 go_wp2
 go_ret
 exact ⟨rfl,rfl⟩
set_option maxHeartbeats 2000000 in
set_option maxRecDepth 100000 in
theorem Tryz.clone_some (i0:TypeInfo) (z:Value) (hi:Tryz.prog.info? 73=some i0) (hz0:i0.zero=some z) (hz1:i0.size=3) (hz2:i0.bytes=32) (hzs:z.cells.size=3)
  (a:Addr) (n c:Nat) (news:List Value) (w:World) (hl:news.length=n*3) (hn:n≤maxLen) (hbig:n*32≤140737488355328)
  (hc:∀ j u,news[j]?=some u→w.cell? (a.add j)=some u) (h1:∀ u∈news,u.oneCell'=true) :
  Calls Tryz.prog 111 #[.slice (some a) n c] w fun e w'=>∃ v',e=.returned v'∧w'.ownsRow w.heap.size 73 3 v' n news∧Below w.heap.size w w':=by
 have t22:Tryz.prog.underlying 40=some (.slice 73):=by kernel_rfl
 have q22:∀ (w:World) (a:Option Addr) (n c n' c':Nat),(binOp .eql 40 (.slice a n c) (.slice none n' c')).run Tryz.prog w=.ok (.bool a.isNone) w:=fun w a n c n' c'=>Lib.run_eql_slice_nil w 40 73 a n c n' c' t22
 have u22:∀ w,Sem.run Tryz.prog (underlying 40) w=.ok (TypeDesc.slice 73) w:=run_underlying t22
 have A:Aside (∀ j u,news[j]?=some u→w.cell? (a.add j)=some u):=hc
 clear hc
 go_enter Tryz.func111,Tryz.ntmps111
 go_wp2_with (at_builtin;refine wpList_append_own _ rfl _ _ 40 rfl w.heap.size 73 i0 z 3 32 t22 hi hz0 hz1 hz2 hzs (by decide) _ _ _ rfl (World.ownsRow_made w #[] 0 (Nat.le_refl _) (Nat.zero_le _) (by simp)) a n c news rfl ?qc1 ?qc2 ?qc3 ?qc4 ?qc5 ?qc6 ?_)
 case qc1=>exact hl
 case qc2 =>
  intro j u hj
  exact Lib.cell?_alloc_some _ (A.out j u hj)
 case qc3=>exact h1
 case qc4=>rw [Nat.zero_add];exact hn
 case qc5=>rw [Nat.zero_add];exact hbig
 case qc6=>simp
 intro v' w1 hown hgrow hnil
 go_wp2
 go_ret
 refine ⟨v',rfl,by simpa using hown,?_⟩
 exact ((Below.refl _ w).alloc (Nat.le_refl _) _).grown hgrow (by simp) (by intro k hk;simp [Value.ownBlock] at hk;omega)
end Go.Proofs
namespace Go.Sim
open Go.RowKit Go.Proofs
def xtt:List AV→Option (Bool×AV)
 | [.list 3 xs]=>some (decide (xs.length≤4398046511104),.list 3 xs)
 | _=>none
theorem xC1 {w w':World} {A:Nat→Prop} {e:TypeId} {sz:Nat} {v:Value} {xs:List AV} {news:List Value} (hl:∀ b,A b→b<w.heap.size) (hown:w'.ownsRow w.heap.size e sz v xs.length news) (hok:∀ x,x∈xs→x.okElem sz=true)
  (hr:∀ i j,i<xs.length→j<sz→Rel w' A noBox (news.getD (i*sz+j) undef) ((xs.getD i .top).cells.getD j .top)):Rel w' A noBox v (.list sz xs):=by
 obtain ⟨hlen,h⟩:=hown
 rcases h with ⟨rfl,h0⟩|⟨g,cap,cur,rfl,hg,hh,hle,hcm,hcs,htk⟩
 · have:xs=[]:=List.eq_nil_of_length_eq_zero h0
   subst this
   exact .list0 _ _ _
 · by_cases hne:xs=[]
   · subst hne;exact .list0 _ _ _
   · have hgl:g<w'.heap.size:=by
      rcases Nat.lt_or_ge g w'.heap.size with h|h
      · exact h
      · rw [Array.getElem?_eq_none h] at hh;simp at hh
     have hcell:∀ i j,i<xs.length→j<sz→w'.cell? ⟨g,0+i*sz+j,none⟩=some (news.getD (i*sz+j) undef):=fun i j hi hj=>by
      have hk:i*sz+j<xs.length*sz:=xfh hi hj
      have hk2:i*sz+j<cur.size:=by
       rw [hcs];exact Nat.lt_of_lt_of_le hk (Nat.mul_le_mul_right _ hle)
      have e1:news.getD (i*sz+j) undef=cur[i*sz+j]:=by
       rw [←htk];simp [List.getD_eq_getElem?_getD,List.getElem?_take,hk,hk2]
      rw [e1,Nat.zero_add]
      simp [World.cell?,hh,hk2]
     exact .list g 0 cap sz xs (fun i j=>news.getD (i*sz+j) undef) (fun hA=>by have:=hl g hA;omega) hgl hne hle hok hcell hr
theorem xJS:OcOk Tryz.prog ITryz 111 xtt:=fun xs r h=>by
 unfold xtt at h;split at h
 · rename_i xs
   simp only [Option.some.injEq,Prod.mk.injEq,decide_eq_true_eq] at h;obtain ⟨hle,rfl⟩:=h
   refine ⟨xeI Tryz.func111 rfl (by kernel_rfl),fun w A vs hI hA hrc=>?_⟩
   obtain ⟨v,rfl,h1⟩:=rc1 hrc
   have hti:∃ ti,tinfo Tryz.prog 73=some ti∧ti.sz=3∧ti.bytes=32∧ti.zero.okElem 3=true:=by
    have h:(match tinfo Tryz.prog 73 with|some ti=>(ti.sz==3)&&((ti.bytes==32)&&ti.zero.okElem 3)|none=>false)=true:=by kernel_rfl
    split at h
    · rename_i ti hti
      simp only [Bool.and_eq_true,beq_iff_eq] at h
      exact ⟨ti,hti,h.1,h.2.1,h.2.2⟩
    · simp at h
   obtain ⟨ti,hti,s1,s2,s3⟩:=hti
   obtain ⟨i,z,g1,g2,g3,g4,g5,g6,_⟩:=xcJ hti
   have hzs:z.cells.size=3:=by
    have hrz:Rel w A noBox z ti.zero:=by rw [g6];exact xfj w A noBox z
    rw [(hrz.cells (xbG s3)).1,xa7 s3]
   have hnil:∀ n c,v=.slice none n c→xs=[]→Calls Tryz.prog 111 [v].toArray w fun e w'=>∃ v,e=.returned v∧Below w.heap.size w w'∧Rel w' A noBox v (.list 3 xs):=by
    rintro n c rfl rfl
    refine (Tryz.clone_nil n c w).mono ?_
    rintro e w' ⟨rfl,rfl⟩
    exact ⟨_,rfl,Below.refl _ _,.list0 _ _ _⟩
   have hsome:∀ b off c (val:Nat→Nat→Value),v=.slice (some ⟨b,off,none⟩) xs.length c→(∀ x,x∈xs→x.okElem 3=true)→(∀ i j,i<xs.length→j<3→w.cell? ⟨b,off+i*3+j,none⟩=some (val i j))→(∀ i j,i<xs.length→j<3→Rel w A noBox (val i j) ((xs.getD i .top).cells.getD j .top)) →
     Calls Tryz.prog 111 [v].toArray w fun e w'=>∃ v,e=.returned v∧Below w.heap.size w w'∧Rel w' A noBox v (.list 3 xs):=by
    rintro b off c val rfl hok hc hr
    have hs:∀ i j,i<xs.length→j<3→∃ u,w.cell? ⟨b,off+(i*3+j),none⟩=some u∧Rel w A noBox u ((xs.getD i .top).cells.getD j .top):=fun i j hi hj=>⟨val i j,by rw [←Nat.add_assoc];exact hc i j hi hj,hr i j hi hj⟩
    refine (Tryz.clone_some i z g1 g3 (by rw [←g4,s1]) (by rw [←g5,s2]) hzs ⟨b,off,none⟩ xs.length c (srcCells w b off (xs.length*3)) w (xkg _ _ _ _) (by unfold maxLen;omega) (by omega)
     (fun j u hj=>xBh (by decide) hs j u hj) (xO0 (by decide) hs hok)).mono ?_
    rintro e w' ⟨v',rfl,hown,hbel⟩
    exact ⟨v',rfl,hbel,xC1 hA hown hok fun i j hi hj=>(xO1 hs hi hj).grow hbel⟩
   have h1':=h1
   generalize hx:AV.list 3 xs=x at h1
   cases h1 with
   | list0 a cap sz =>
    simp only [AV.list.injEq] at hx
    obtain ⟨rfl,rfl⟩:=hx
    cases a with
    | none=>exact hnil 0 cap rfl rfl
    | some a =>
     refine (Tryz.clone_some i z g1 g3 (by rw [←g4,s1]) (by rw [←g5,s2]) hzs a 0 cap [] w rfl (Nat.zero_le _) (by omega) (by simp) (by simp)).mono ?_
     rintro e w' ⟨v',rfl,hown,hbel⟩
     exact ⟨v',rfl,hbel,xC1 hA (xs:=[]) hown (by simp) (by simp)⟩
   | list b off cap sz ys val ha hb hne hcap hsz hc hr =>
    simp only [AV.list.injEq] at hx
    obtain ⟨rfl,rfl⟩:=hx
    exact hsome b off cap val rfl hsz hc hr
   | _=>simp at hx
 · simp at h
end Go.Sim
end
noncomputable section
namespace Go.Sim
open Go.RowKit
variable {α β γ : Type}
structure Pat (α β:Type) where
 enc:β→α
 dec:α→Option β
 ok:∀ a b,dec a=some b→a=enc b
def pAny:Pat α α:=⟨fun b=>b,some,fun a b h=>by simpa using h⟩
def pInt (k:IntKind):Pat AV Int:=⟨.int k,fun v=>match v with
 | .int k' n=>match decide (k'=k) with
  | true=>some n
  | false=>none
 | _=>none,fun v n h=>by
 split at h
 · split at h
   · rename_i hk;simp only [Option.some.injEq] at h;rw [of_decide_eq_true hk,h]
   · simp at h
 · simp at h⟩
def pStr:Pat AV (List UInt8):=⟨.str,fun v=>match v with
 | .str s=>some s
 | _=>none,fun v n h=>by
 split at h
 · simp only [Option.some.injEq] at h;rw [h]
 · simp at h⟩
def pBool:Pat AV Bool:=⟨.bool,fun v=>match v with
 | .bool s=>some s
 | _=>none,fun v n h=>by
 split at h
 · simp only [Option.some.injEq] at h;rw [h]
 · simp at h⟩
def pList (sz:Nat) (q:Pat (List AV) β):Pat AV β:=⟨fun b=>.list sz (q.enc b),fun v=>match v with
 | .list z xs=>match Nat.beq z sz with
  | true=>q.dec xs
  | false=>none
 | _=>none,fun v n h=>by
 split at h
 · split at h
   · rename_i hz;rw [Nat.eq_of_beq_eq_true hz,q.ok _ _ h]
   · simp at h
 · simp at h⟩
def pOsl (id ver off:Nat):Pat AV Nat:=⟨.osl id ver off,fun v=>match v with
 | .osl (.b i) e o n=>match Nat.beq i id&&(Nat.beq e ver&&Nat.beq o off) with
  | true=>some n
  | false=>none
 | _=>none,fun v n h=>by
 split at h
 · split at h
   · rename_i hz
     simp only [Bool.and_eq_true] at hz
     simp only [Option.some.injEq] at h
     rw [Nat.eq_of_beq_eq_true hz.1,Nat.eq_of_beq_eq_true hz.2.1,Nat.eq_of_beq_eq_true hz.2.2,h]
   · simp at h
 · simp at h⟩
def pOslO (id ver:Nat):Pat AV (Nat×Nat):=⟨fun p=>.osl id ver p.1 p.2,fun v=>match v with
 | .osl (.b i) e o n=>match Nat.beq i id&&Nat.beq e ver with
  | true=>some (o,n)
  | false=>none
 | _=>none,fun v n h=>by
 split at h
 · split at h
   · rename_i hz
     simp only [Bool.and_eq_true] at hz
     simp only [Option.some.injEq] at h
     rw [Nat.eq_of_beq_eq_true hz.1,Nat.eq_of_beq_eq_true hz.2,←h]
   · simp at h
 · simp at h⟩
def pOslV (id off:Nat):Pat AV (Nat×Nat):=⟨fun p=>.osl id p.1 off p.2,fun v=>match v with
 | .osl (.b i) e o n=>match Nat.beq i id&&Nat.beq o off with
  | true=>some (e,n)
  | false=>none
 | _=>none,fun v n h=>by
 split at h
 · split at h
   · rename_i hz
     simp only [Bool.and_eq_true] at hz
     simp only [Option.some.injEq] at h
     rw [Nat.eq_of_beq_eq_true hz.1,Nat.eq_of_beq_eq_true hz.2,←h]
   · simp at h
 · simp at h⟩
def pOwnV (id j:Nat):Pat AV (Nat×Nat):=⟨fun p=>.own id p.1 p.2 j,fun v=>match v with
 | .own (.b a) b c d=>match Nat.beq a id&&Nat.beq d j with
  | true=>some (b,c)
  | false=>none
 | _=>none,fun v n h=>by
 split at h
 · split at h
   · rename_i hz
     simp only [Bool.and_eq_true] at hz
     simp only [Option.some.injEq] at h
     rw [Nat.eq_of_beq_eq_true hz.1,Nat.eq_of_beq_eq_true hz.2,←h]
   · simp at h
 · simp at h⟩
def pOwn (id ver i j:Nat):Pat AV Unit:=⟨fun _=>.own id ver i j,fun v=>match v with
 | .own (.b a) b c d=>match Nat.beq a id&&(Nat.beq b ver&&(Nat.beq c i&&Nat.beq d j)) with
  | true=>some ()
  | false=>none
 | _=>none,fun v n h=>by
 split at h
 · split at h
   · rename_i hz
     simp only [Bool.and_eq_true] at hz
     rw [Nat.eq_of_beq_eq_true hz.1,Nat.eq_of_beq_eq_true hz.2.1,Nat.eq_of_beq_eq_true hz.2.2.1,Nat.eq_of_beq_eq_true hz.2.2.2]
   · simp at h
 · simp at h⟩
def pAgg (q:Pat (List AV) β):Pat AV β:=⟨fun b=>.agg (q.enc b),fun v=>match v with
 | .agg cs=>q.dec cs
 | _=>none,fun v n h=>by
 split at h
 · rw [q.ok _ _ h]
 · simp at h⟩
def pFunc (f:Nat) (q:Pat (List AV) β):Pat AV β:=⟨fun b=>.func f (q.enc b),fun v=>match v with
 | .func g cs=>match Nat.beq g f with
  | true=>q.dec cs
  | false=>none
 | _=>none,fun v n h=>by
 split at h
 · split at h
   · rename_i hz;rw [Nat.eq_of_beq_eq_true hz,q.ok _ _ h]
   · simp at h
 · simp at h⟩
def pNils:Pat AV Unit:=⟨fun _=>.nils,fun v=>match v with
 | .nils=>some ()
 | _=>none,fun v n h=>by
 split at h
 · rfl
 · simp at h⟩
def pNilptr:Pat AV Unit:=⟨fun _=>.nilptr,fun v=>match v with
 | .nilptr=>some ()
 | _=>none,fun v n h=>by
 split at h
 · rfl
 · simp at h⟩
def pNil:Pat (List α) Unit:=⟨fun _=>[],fun v=>match v with
 | []=>some ()
 | _=>none,fun v n h=>by
 split at h
 · rfl
 · simp at h⟩
def pCons (p:Pat α β) (q:Pat (List α) γ):Pat (List α) (β×γ):=⟨fun b=>p.enc b.1::q.enc b.2,fun v=>match v with
 | x::t=>match p.dec x with
  | some b=>match q.dec t with
   | some c=>some (b,c)
   | none=>none
  | none=>none
 | _=>none,fun v n h=>by
 split at h
 · split at h
   · rename_i hp
     split at h
     · rename_i hq
       simp only [Option.some.injEq] at h
       subst h
       rw [p.ok _ _ hp,q.ok _ _ hq]
     · simp at h
   · simp at h
 · simp at h⟩
def pBox (ver sz ty:Nat) (frz pm:Bool) (q:Pat (List AV) β):Pat Box β:=⟨fun b=>⟨ver,sz,ty,q.enc b,frz,pm⟩,fun v=>match v with
 | ⟨a,b,c,xs,f,p⟩=>match Nat.beq a ver&&(Nat.beq b sz&&(Nat.beq c ty&&((f==frz)&&(p==pm)))) with
  | true=>q.dec xs
  | false=>none,fun v n h=>by
 obtain ⟨a,b,c,xs,f,p⟩:=v
 dsimp only at h;split at h
 · rename_i hz
   simp only [Bool.and_eq_true,beq_iff_eq] at hz
   rw [Nat.eq_of_beq_eq_true hz.1,Nat.eq_of_beq_eq_true hz.2.1,Nat.eq_of_beq_eq_true hz.2.2.1,hz.2.2.2.1,hz.2.2.2.2,q.ok _ _ h]
 · simp at h⟩
def pBoxV (sz ty:Nat) (frz pm:Bool) (q:Pat (List AV) β):Pat Box (Nat×β):=⟨fun b=>⟨b.1,sz,ty,q.enc b.2,frz,pm⟩,fun v=>match v with
 | ⟨a,b,c,xs,f,p⟩=>match Nat.beq b sz&&(Nat.beq c ty&&((f==frz)&&(p==pm))) with
  | true=>match q.dec xs with
   | some y=>some (a,y)
   | none=>none
  | false=>none,fun v n h=>by
 obtain ⟨a,b,c,xs,f,p⟩:=v
 dsimp only at h;split at h
 · rename_i hz
   simp only [Bool.and_eq_true,beq_iff_eq] at hz
   split at h
   · rename_i y hy
     simp only [Option.some.injEq] at h
     rw [Nat.eq_of_beq_eq_true hz.1,Nat.eq_of_beq_eq_true hz.2.1,hz.2.2.1,hz.2.2.2,←h,q.ok _ _ hy]
   · simp at h
 · simp at h⟩
def Sub (a b:AV):Prop:=∀ (w:World) (A:Nat→Prop) (M:Id→Option MB) (v:Value),Rel w A M v a→Rel w A M v b
def SubL (aS bs:List AV):Prop:=aS.length=bs.length∧∀ i,i<aS.length→Sub (aS.getD i .top) (bs.getD i .top)
theorem Sub.refl (a:AV):Sub a a:=fun _ _ _ _ h=>h
theorem Sub.of_eq {a b:AV} (h:a=b):Sub a b:=h▸Sub.refl a
theorem xS6 (sz:Nat):Sub .nils (.list sz []):=fun w A M v h=>by
 cases h;exact .list0 _ _ _
theorem xUo {aS bs:List AV} (h:SubL aS bs):Sub (.agg aS) (.agg bs):=fun w A M v hr=>by
 obtain ⟨vs,rfl,h1,h2⟩:=hr.agg_inv
 exact .agg vs bs (h1.trans h.1) fun i hi=>h.2 i (h.1.symm▸hi) w A M _ (h2 i (h.1.symm▸hi))
theorem xRI {w:World} {A:Nat→Prop} {M:Id→Option MB} {vs:List Value} {aS bs:List AV} (h:SubL aS bs) (hr:RC w A M vs aS):RC w A M vs bs :=
 ⟨hr.1.trans h.1,fun i hi=>h.2 i (h.1.symm▸hi) w A M _ (hr.2 i (h.1.symm▸hi))⟩
structure SPat (β:Type) where
 enc:β→AV
 dec:AV→Option β
 ok:∀ a b,dec a=some b→Sub a (enc b)
structure SPatL (β:Type) where
 enc:β→List AV
 dec:List AV→Option β
 ok:∀ a b,dec a=some b→SubL a (enc b)
def sEq (p:Pat AV β):SPat β:=⟨p.enc,p.dec,fun a b h=>Sub.of_eq (p.ok a b h)⟩
def sList (sz:Nat) (q:Pat (List AV) β):SPat β:=⟨fun b=>.list sz (q.enc b),fun v=>match v with
 | .nils=>q.dec []
 | .list z xs=>match Nat.beq z sz with
  | true=>q.dec xs
  | false=>none
 | _=>none,fun v n h=>by
 split at h
 · rw [←q.ok _ _ h];exact xS6 sz
 · split at h
   · rename_i hz;rw [Nat.eq_of_beq_eq_true hz,q.ok _ _ h];exact Sub.refl _
   · simp at h
 · simp at h⟩
def sAgg (q:SPatL β):SPat β:=⟨fun b=>.agg (q.enc b),fun v=>match v with
 | .agg cs=>q.dec cs
 | _=>none,fun v n h=>by
 split at h
 · exact xUo (q.ok _ _ h)
 · simp at h⟩
def sNil:SPatL Unit:=⟨fun _=>[],fun v=>match v with
 | []=>some ()
 | _=>none,fun v n h=>by
 split at h
 · exact ⟨rfl,fun i hi=>by simp at hi⟩
 · simp at h⟩
def sCons (p:SPat β) (q:SPatL γ):SPatL (β×γ):=⟨fun b=>p.enc b.1::q.enc b.2,fun v=>match v with
 | x::t=>match p.dec x with
  | some b=>match q.dec t with
   | some c=>some (b,c)
   | none=>none
  | none=>none
 | _=>none,fun v n h=>by
 split at h
 · split at h
   · rename_i hp
     split at h
     · rename_i hq
       simp only [Option.some.injEq] at h
       subst h
       obtain ⟨h1,h2⟩:=q.ok _ _ hq
       refine ⟨by simp [h1],fun i hi=>?_⟩
       cases i with
       | zero=>exact p.ok _ _ hp
       | succ i=>exact h2 i (by simpa using hi)
     · simp at h
   · simp at h
 · simp at h⟩
def ocOf (pv:SPatL β) (g:β→Bool×AV):List AV→Option (Bool×AV):=fun xs=>match pv.dec xs with
 | some b=>some (g b)
 | none=>none
def omOf (pv:SPatL β) (pb:Pat (List Box) γ) (g:β→γ→Bool×AV×List Box):List AV→List Box→Option (Bool×AV×List Box):=fun xs H=>match pv.dec xs with
 | some b=>match pb.dec H with
  | some c=>some (g b c)
  | none=>none
 | none=>none
def lpOf (live liveO:List Nat) (conv:List (Nat×Nat×TypeId)) (pv:Pat (List AV) β) (pb:Pat (List Box) γ) (g:β→γ→Bool×LR):Lp:=⟨live,liveO,conv,fun xs H=>match pv.dec xs with
 | some b=>match pb.dec H with
  | some c=>some (g b c)
  | none=>none
 | none=>none⟩
section
variable {P : Program} {Inv : IV}
theorem xaL {n:FuncId} {pv:SPatL β} {g:β→Bool×AV} (h:∀ b r,g b=(true,r)→Good P Inv n (pv.enc b) r):OcOk P Inv n (ocOf pv g):=fun xs r e=>by
 unfold ocOf at e;split at e
 · rename_i b hb
   simp only [Option.some.injEq] at e
   obtain ⟨h1,h2⟩:=h b r e
   exact ⟨h1,fun w A vs hi ha hr=>h2 w A vs hi ha (xRI (pv.ok _ _ hb) hr)⟩
 · simp at e
theorem xfA {n:FuncId} {pv:SPatL β} {pb:Pat (List Box) γ} {g:β→γ→Bool×AV×List Box} (h:∀ b c r H',g b c=(true,r,H')→GoodM P Inv n (pv.enc b) (pb.enc c) r H'):OmOk P Inv n (omOf pv pb g):=fun xs H r H' e=>by
 unfold omOf at e;split at e
 · rename_i b hb
   split at e
   · rename_i c hc
     simp only [Option.some.injEq] at e
     rw [pb.ok _ _ hc]
     obtain ⟨h1,h2⟩:=h b c r H' e
     exact ⟨h1,fun w0 w A M vs hi hb' hR hr=>h2 w0 w A M vs hi hb' hR (xRI (pv.ok _ _ hb) hr)⟩
   · simp at e
 · simp at e
theorem xaP {nt:Nat} {l:Code} {live liveO:List Nat} {conv:List (Nat×Nat×TypeId)} {pv:Pat (List AV) β} {pb:Pat (List Box) γ} {g:β→γ→Bool×LR}
  (h:∀ b c r,g b c=(true,r)→DoesL P Inv l (fun e1 s1=>e1=r.eval.1∧s1=⟨mkTs nt (liveO.zip r.eval.2.1),r.eval.2.2⟩) ⟨mkTs nt (live.zip (pv.enc b)),pb.enc c⟩):LoopOk P Inv nt l (lpOf live liveO conv pv pb g):=fun vals H r e=>by
 unfold lpOf at e;dsimp only at e;split at e
 · rename_i b hb
   split at e
   · rename_i c hc
     simp only [Option.some.injEq] at e
     rw [pv.ok _ _ hb,pb.ok _ _ hc]
     exact h b c r e
   · simp at e
 · simp at e
end
theorem xab {x:Option α} {d:α} (h:x.isSome=true):x=some (x.getD d):=by
 cases x with
 | none=>simp at h
 | some y=>rfl
end Go.Sim
end
noncomputable section
namespace Go.Sim.M
open Go.RowKit Go.Proofs
def E0:Env:=((((Env.none.with 138 xp3).with 116 xtD).with 111 xtt).withM 139 xyp).withM 118 xqJ
theorem xO4:OrcOk Tryz.prog ITryz E0:=((((xPQ.with xFt).with xJ9).with xJS).withM xNJ).withM xGb
end Go.Sim.M
end
noncomputable section
namespace Go.Sim
open Go.RowKit
def EncS {α:Type} (f:α→AV) (a:Option α) (b:Option AV):Prop:=∀ r,a=some r→∃ x,b=some x∧Sub x (f r)
theorem EncS.none {α:Type} {f:α→AV} {b:Option AV}:EncS f .none b:=fun r h=>by simp at h
theorem EncS.some {α:Type} {f:α→AV} {a:α} {b:AV} (h:Sub b (f a)):EncS f (Option.some a) (Option.some b):=fun r e=>by simp only [Option.some.injEq] at e;subst e;exact ⟨b,rfl,h⟩
theorem EncS.br {α:Type} {f:α→AV} {t:Bool} {a a':Option α} {b b':Option AV} (h1:EncS f a b) (h2:EncS f a' b'):EncS f (Sim.br t a a') (Sim.br t b b'):=by cases t<;>assumption
theorem Good.sub {P:Program} {Inv:IV} {f:FuncId} {args:List AV} {r r':AV} (h:Good P Inv f args r) (hs:Sub r r'):Good P Inv f args r' :=
 ⟨h.1,fun w A vs hI hA hrc=>(h.2 w A vs hI hA hrc).mono fun e w' ⟨v,he,hb,hr⟩=>⟨v,he,hb,hs w' A noBox v hr⟩⟩
theorem GoodM.bump1 {P:Program} {Inv:IV} {f:FuncId} {args:List AV} {H:List Box} {v v' k sz:Nat} {ty:TypeId} {xs:List AV} {frz pm:Bool} (hpl:isC ty=false) (hv:v<v')
  (h:GoodM P Inv f args H (.osl (.b 0) v 0 k) [⟨v,sz,ty,xs,frz,pm⟩]):GoodM P Inv f args H (.osl (.b 0) v' 0 k) [⟨v',sz,ty,xs,frz,pm⟩]:=by
 refine ⟨h.1,fun w0 w A M vs hI hB hR hrc=>(h.2 w0 w A M vs hI hB hR hrc).mono ?_⟩
 rintro e w' ⟨u,A',M',rfl,h1,h2,h3,h4,h5⟩
 obtain ⟨m,g1,g2,g3,g4⟩:=Rel.osl_inv h5
 obtain ⟨bx,q1,q2⟩:=h4.box _ m g1
 have:bx=⟨v,sz,ty,xs,frz,pm⟩:=by
  have:=q1
  rw [xdx] at this
  simpa using this.symm
 subst this
 have hver:v=m.ver:=q2.ver
 have hext:MExt M' (MSet M' (.b 0) ⟨m.b,v',m.sz,m.cap,m.ty⟩):=xtk g1 (.inr (by simp only;omega))
 have hsame:∀ id m1,MSet M' (.b 0) ⟨m.b,v',m.sz,m.cap,m.ty⟩ id=some m1→∃ m0,M' id=some m0∧m1.b=m0.b∧m1.cap=m0.cap:=fun id m1 hm1=>by
  by_cases hi:id=.b 0
  · subst hi;simp [MSet] at hm1;subst hm1;exact ⟨m,g1,rfl,rfl⟩
  · exact ⟨m1,by simpa [MSet,hi] using hm1,rfl,rfl⟩
 have hR':HR w' A' (MSet M' (.b 0) ⟨m.b,v',m.sz,m.cap,m.ty⟩) w0.heap.size [⟨v',sz,ty,xs,frz,pm⟩]:=by
  refine ⟨fun id m1 hm1=>?_,fun id id' m1 m2 k1 k2 c1 c2 he=>?_,h4.lt⟩
  · by_cases hi:id=.b 0
    · subst hi
      have:m1=⟨m.b,v',m.sz,m.cap,m.ty⟩:=by simp [MSet] at hm1;exact hm1.symm
      subst this
      have q3:=q2.mono (w':=w') (fun _=>rfl) (fun _ _ _=>rfl) (Nat.le_refl _) (fun _ _ h=>h) q2.guard hext
      exact ⟨⟨v',sz,ty,xs,frz,pm⟩,rfl,rfl,q3.sz,q3.ty,q3.capm,q3.fits,q3.ok,q3.low,q3.lt,q3.cells,q3.guard⟩
    · have hm2:M' id=some m1:=by simpa [MSet,hi] using hm1
      obtain ⟨bx,k1,k2⟩:=h4.box id m1 hm2
      have k3:getB [⟨v',sz,ty,xs,frz,pm⟩] id=some bx:=by
       rw [←k1]
       exact xeZ (H:=[⟨v,sz,ty,xs,frz,pm⟩]) (n:=0) (bx:=⟨v,sz,ty,xs,frz,pm⟩) (bx':=⟨v',sz,ty,xs,frz,pm⟩) rfl hpl hpl hi
      exact ⟨bx,k3,k2.mono (fun _=>rfl) (fun _ _ _=>rfl) (Nat.le_refl _) (fun _ _ h=>h) k2.guard hext⟩
  · obtain ⟨n1,a1,a2,a3⟩:=hsame id m1 k1
    obtain ⟨n2,b1,b2,b3⟩:=hsame id' m2 k2
    exact h4.inj id id' n1 n2 a1 b1 (by omega) (by omega) (by rw [←a2,←b2,he])
 refine ⟨u,A',MSet M' (.b 0) ⟨m.b,v',m.sz,m.cap,m.ty⟩,rfl,h1,h2,h3.step ⟨Nat.le_refl _,fun _ _ _=>rfl,fun _ _ h=>h,fun _ _ h _=>h,hext,⟨fun _ _ _=>rfl,fun id m1 hm1 h0=>?_⟩⟩,hR',?_⟩
 · obtain ⟨n1,a1,a2,a3⟩:=hsame id m1 hm1
   exact .inl ⟨id,n1,a1,by omega,a2⟩
 · exact .osl u (.b 0) v' 0 k ⟨m.b,v',m.sz,m.cap,m.ty⟩ (by simp [MSet]) (Nat.le_refl _) g3 fun _=>g4 hver
theorem GoodM.weaken {P:Program} {Inv:IV} {f:FuncId} {args:List AV} {H H1 H2:List Box} {r r2:AV} (h:GoodM P Inv f args H r H1)
  (hw:∀ w A M B v,HR w A M B H1→Rel w A M v r→∃ M',HR w A M' B H2∧Mv w A M w A M'∧Rel w A M' v r2):GoodM P Inv f args H r2 H2:=by
 refine ⟨h.1,fun w0 w A M vs hI hB hR hrc=>(h.2 w0 w A M vs hI hB hR hrc).mono ?_⟩
 rintro e w' ⟨u,A',M',rfl,h1,h2,h3,h4,h5⟩
 obtain ⟨M2,g1,g2,g3⟩:=hw w' A' M' _ u h4 h5
 exact ⟨u,A',M2,rfl,h1,h2,h3.step g2,g1,g3⟩
theorem xRa {w:World} {A:Nat→Prop} {M:Id→Option MB} {B:Nat} {H:List Box} (hR:HR w A M B H) {n:Nat} {m:MB} {bx:Box} (hm:M (.b n)=some m) (hb:H[n]?=some bx) (hpl:isC bx.ty=false) (v:Nat) (hv:m.ver<v) (sz:Nat) (ty:TypeId) (hty:isC ty=false) :
  HR w A (MSet M (.b n) ⟨m.b,v,sz,0,ty⟩) B (H.set n ⟨v,sz,ty,[],false,true⟩)∧Mv w A M w A (MSet M (.b n) ⟨m.b,v,sz,0,ty⟩):=by
 have hext:MExt M (MSet M (.b n) ⟨m.b,v,sz,0,ty⟩):=xtk hm (.inr hv)
 have hc:∀ {p:Prop},0<(0:Nat)→p:=fun h=>absurd h (by omega)
 have hcase:∀ i m1,MSet M (.b n) ⟨m.b,v,sz,0,ty⟩ i=some m1→0<m1.cap→i≠.b n∧M i=some m1:=fun i m1 h1 h0=>by
  by_cases hi:i=.b n
  · subst hi;simp [MSet] at h1;subst h1;exact absurd h0 (by simp)
  · exact ⟨hi,by simpa [MSet,hi] using h1⟩
 refine ⟨⟨fun i m1 h1=>?_,fun i i' m1 m2 h1 h2 c1 c2 he=>hR.inj i i' m1 m2 (hcase i m1 h1 c1).2 (hcase i' m2 h2 c2).2 c1 c2 he,hR.lt⟩,⟨Nat.le_refl _,fun _ _ _=>rfl,fun _ _ h=>h,fun _ _ h _=>h,hext,⟨fun _ _ _=>rfl,fun i m1 h1 h0=>.inl ⟨i,m1,(hcase i m1 h1 h0).2,h0,rfl⟩⟩⟩⟩
 by_cases hi:i=.b n
 · subst hi
   have:m1=⟨m.b,v,sz,0,ty⟩:=by simp [MSet] at h1;exact h1.symm
   subst this
   exact ⟨⟨v,sz,ty,[],false,true⟩,by rw [xdx,List.getElem?_set_self (xgb hb)],rfl,rfl,xcL hty,Nat.zero_le _,Nat.zero_le _,fun x hx=>by simp at hx,hc,hc,hc,hc⟩
 · have hm2:M i=some m1:=by simpa [MSet,hi] using h1
   obtain ⟨bx2,g1,g2⟩:=hR.box i m1 hm2
   exact ⟨bx2,by rw [xeZ hb hpl hty hi];exact g1,g2.mono (fun _=>rfl) (fun _ _ _=>rfl) (Nat.le_refl _) (fun _ _ h=>h) g2.guard hext⟩
theorem GoodM.drop0 {P:Program} {Inv:IV} {f:FuncId} {args:List AV} {H:List Box} {v v' w k sz sz':Nat} {ty ty':TypeId} {xs ys:List AV} {frz pm fr1 pm1:Bool} (hpl:isC ty=false) (hv:v<v')
  (h:GoodM P Inv f args H (.osl (.b 1) w 0 k) [⟨v,sz,ty,xs,frz,pm⟩,⟨w,sz',ty',ys,fr1,pm1⟩]):GoodM P Inv f args H (.osl (.b 1) w 0 k) [⟨v',sz,ty,[],false,true⟩,⟨w,sz',ty',ys,fr1,pm1⟩] :=
 h.weaken fun w1 A M B u hR hr=>by
  cases hm:M (.b 0) with
  | some m =>
   obtain ⟨bx,q1,q2⟩:=hR.box _ m hm
   have hb:[(⟨v,sz,ty,xs,frz,pm⟩:Box),⟨w,sz',ty',ys,fr1,pm1⟩][0]?=some ⟨v,sz,ty,xs,frz,pm⟩:=rfl
   rw [xdx,hb] at q1
   simp only [Option.some.injEq] at q1
   subst q1
   obtain ⟨g1,g2⟩:=xRa hR hm hb hpl v' (by have:v=m.ver:=q2.ver;omega) sz ty hpl
   exact ⟨_,g1,g2,g2.rel hr⟩
  | none =>
   refine ⟨M,⟨fun i m hm1=>?_,hR.inj,hR.lt⟩,Mv.refl,hr⟩
   obtain ⟨bx,q1,q2⟩:=hR.box i m hm1
   refine ⟨bx,?_,q2⟩
   by_cases hi:i=.b 0
   · subst hi;rw [hm] at hm1;cases hm1
   · rw [←q1]
     exact xeZ (H:=[⟨v,sz,ty,xs,frz,pm⟩,⟨w,sz',ty',ys,fr1,pm1⟩]) (n:=0) (bx:=⟨v,sz,ty,xs,frz,pm⟩) (bx':=⟨v',sz,ty,[],false,true⟩) rfl hpl hpl hi
theorem GoodM.move0 {P:Program} {Inv:IV} {f:FuncId} {args:List AV} {H:List Box} {v v' w k sz:Nat} {ty:TypeId} {xs:List AV} {frz:Bool} (hpl:isC ty=false) (hv:v<v')
  (h:GoodM P Inv f args H (.osl (.b 0) v 0 k) [⟨v,sz,ty,xs,frz,true⟩]):GoodM P Inv f args H (.osl (.b 1) w 0 k) [⟨v',sz,ty,[],false,true⟩,⟨w,sz,ty,xs,frz,true⟩] :=
 h.weaken fun w1 A M B u hR hr=>by
  obtain ⟨m,g1,g2,g3,g4⟩:=Rel.osl_inv hr
  obtain ⟨bx,q1,q2⟩:=hR.box _ m g1
  have:bx=⟨v,sz,ty,xs,frz,true⟩:=by
   have:=q1
   rw [xdx] at this
   simpa using this.symm
  subst this
  have hver:v=m.ver:=q2.ver
  have hn1:M (.b 1)=none:=by
   cases h1:M (.b 1) with
   | none=>rfl
   | some m1=>obtain ⟨b1,k1,_⟩:=hR.box _ m1 h1;rw [xdx] at k1;simp at k1
  have hrow:∀ n i j m1,M (.r n i j)=some m1→n=0:=fun n i j m1 h1=>by
   obtain ⟨b1,k1,_⟩:=hR.box _ m1 h1
   obtain ⟨b0,k2,_⟩:=xrQ k1
   have:=xgb k2
   simp at this;omega
  let M2:Id→Option MB:=MSet (MSet M (.b 0) ⟨m.b,v',sz,0,ty⟩) (.b 1) ⟨m.b,w,m.sz,m.cap,m.ty⟩
  have e1:M2 (.b 1)=some ⟨m.b,w,m.sz,m.cap,m.ty⟩:=by simp [M2,MSet]
  have e0:M2 (.b 0)=some ⟨m.b,v',sz,0,ty⟩:=by simp [M2,MSet]
  have eo:∀ i,i≠.b 0→i≠.b 1→M2 i=M i:=fun i h0 h1=>by simp [M2,MSet,h0,h1]
  have hext:MExt M M2:=fun i m1 h1=>by
   by_cases h0:i=.b 0
   · subst h0;rw [g1] at h1;simp only [Option.some.injEq] at h1;subst h1;exact ⟨_,e0,.inr (by simp only;omega)⟩
   · by_cases h2:i=.b 1
     · subst h2;rw [hn1] at h1;cases h1
     · exact ⟨m1,by rw [eo i h0 h2];exact h1,.inl rfl⟩
  have hsrc:∀ i m1,M2 i=some m1→0<m1.cap→i≠.b 0∧∃ i0 m0,M i0=some m0∧m0.b=m1.b∧m0.cap=m1.cap∧(i=.b 1→i0=.b 0)∧(i≠.b 1→i0=i):=fun i m1 h1 h0=>by
   by_cases hi:i=.b 0
   · subst hi;rw [e0] at h1;simp only [Option.some.injEq] at h1;subst h1;exact absurd h0 (by simp)
   · refine ⟨hi,?_⟩
     by_cases h2:i=.b 1
     · subst h2;rw [e1] at h1;simp only [Option.some.injEq] at h1;subst h1;exact ⟨.b 0,m,g1,rfl,rfl,fun _=>rfl,fun h=>absurd rfl h⟩
     · rw [eo i hi h2] at h1;exact ⟨i,m1,h1,rfl,rfl,fun h=>absurd h h2,fun _=>rfl⟩
  refine ⟨M2,⟨fun i m1 h1=>?_,fun i i' m1 m2 h1 h2 c1 c2 he=>?_,hR.lt⟩,⟨Nat.le_refl _,fun _ _ _=>rfl,fun _ _ h=>h,fun _ _ h _=>h,hext,⟨fun _ _ _=>rfl,fun i m1 h1 h0=>?_⟩⟩,?_⟩
  · by_cases hi:i=.b 0
    · subst hi
      rw [e0] at h1;simp only [Option.some.injEq] at h1;subst h1
      have hc:∀ {p:Prop},0<(0:Nat)→p:=fun h=>absurd h (by omega)
      exact ⟨⟨v',sz,ty,[],false,true⟩,rfl,rfl,rfl,xcL hpl,Nat.zero_le _,Nat.zero_le _,fun x hx=>by simp at hx,hc,hc,hc,hc⟩
    · by_cases h2:i=.b 1
      · subst h2
        rw [e1] at h1;simp only [Option.some.injEq] at h1;subst h1
        have q3:=q2.mono (w':=w1) (A':=A) (fun _=>rfl) (fun _ _ _=>rfl) (Nat.le_refl _) (fun _ _ h=>h) q2.guard hext
        refine ⟨⟨w,sz,ty,xs,frz,true⟩,rfl,rfl,q3.sz,q3.ty,q3.capm,q3.fits,q3.ok,q3.low,q3.lt,fun h0=>?_,q3.guard⟩
        obtain ⟨c,c1,c2,c3⟩:=q3.cells h0
        refine ⟨c,c1,c2,fun i j hi hj=>?_⟩
        have:=c3 i j hi hj
        rw [xa1 hpl,xcq hpl] at this
        rw [xa1 hpl,xcq (bx:=⟨w,sz,ty,xs,frz,true⟩) hpl]
        exact this
      · rw [eo i hi h2] at h1
        obtain ⟨b1,k1,k2⟩:=hR.box i m1 h1
        cases i with
        | b n =>
         rw [xdx] at k1
         have:=xgb k1
         have:n=0:=by simp at this;omega
         subst this;exact absurd rfl hi
        | r n a b =>
         have hn:=hrow n a b m1 h1
         subst hn
         rw [xeK (H:=[⟨v,sz,ty,xs,frz,true⟩]) (by rfl) hpl] at k1
         simp only [Option.some.injEq] at k1
         subst k1
         exact ⟨tombB,xeK (by rfl) hpl,k2.mono (fun _=>rfl) (fun _ _ _=>rfl) (Nat.le_refl _) (fun _ _ h=>h) k2.guard hext⟩
  · obtain ⟨a1,i0,n0,a2,a3,a4,a5,a6⟩:=hsrc i m1 h1 c1
    obtain ⟨b1,j0,n1,b2,b3,b4,b5,b6⟩:=hsrc i' m2 h2 c2
    have:=hR.inj i0 j0 n0 n1 a2 b2 (by omega) (by omega) (by rw [a3,b3,he])
    by_cases hi:i=.b 1
    · by_cases hj:i'=.b 1
      · rw [hi,hj]
      · rw [a5 hi,b6 hj] at this;exact absurd this.symm b1
    · by_cases hj:i'=.b 1
      · rw [a6 hi,b5 hj] at this;exact absurd this a1
      · rw [a6 hi,b6 hj] at this;exact this
  · obtain ⟨a1,i0,n0,a2,a3,a4,_,_⟩:=hsrc i m1 h1 h0
    exact .inl ⟨i0,n0,a2,by omega,a3.symm⟩
  · exact .osl u (.b 1) w 0 k ⟨m.b,w,m.sz,m.cap,m.ty⟩ e1 (Nat.le_refl _) g3 fun _=>g4 hver
end Go.Sim
end
noncomputable section
set_option maxRecDepth 100000
namespace Go.Sim.M
open Go.IntKind (i64 u64 u8)
open Go.RowKit Go.Proofs
def xcT:Env:=E0.fn 19 1 (lsOf []) (lpsOf [])
theorem xpI:OrcOk Tryz.prog (ITryz.at 1) xcT:=xO4.fn
theorem xnT:LoOk Tryz.prog (ITryz.at xcT.pin) xcT (Tryz.f115.body.getD .skip):=xaq (by kernel_rfl)
def xd7 {T:Type} (a:List UInt8) (δ:T) (κ:Int×Nat×LA→T):T:=br (decide ((byteAVs a).length*1≤140737488355328)&&decide ((byteAVs a).length≤4611686018427387904)) (κ ((↑a.length:Int),(byteAVs a).length,byteAVs a)) δ
def xaR (a:List UInt8):Option (Int×Nat×LA):=xd7 a none some
theorem xrB (a:List UInt8):Enc (fun (p:Int×Nat×LA)=>(((AV.tuple [AV.int .i64 p.1,.top],([⟨0,2,137,[AV.agg [AV.own 0 0 0 0,AV.osl 1 0 0 p.2.1]],false,false⟩,⟨0,1,5,p.2.2,false,true⟩]:List Box))):(AV×List Box))) (xaR a) (XFM Tryz.prog xcT Tryz.f115 (Tryz.f115.body.getD .skip) [AV.own (0:Id) 0 0 0,AV.str a] [{ ver:=0,sz:=2,ty:=(137:TypeId),xs:=[AV.agg [AV.nilptr,AV.nils]],frz:=false,pm:=true }]):=by
 refine eV (xd7 a none (fun (p:Int×Nat×LA)=>some (((AV.tuple [AV.int .i64 p.1,.top],([⟨0,2,137,[AV.agg [AV.own 0 0 0 0,AV.osl 1 0 0 p.2.1]],false,false⟩,⟨0,1,5,p.2.2,false,true⟩]:List Box))):(AV×List Box)))) (by kernel_rfl) ?_;unfold xaR xd7;repeat' first|exact eN|exact eS rfl|apply eB
def xkv:LA→List Box→Option (Bool×AV×List Box):=omOf (sCons (sEq (pOwn 0 0 0 0)) (sCons (sEq pStr) sNil)) (pCons (pBox 0 2 (137:TypeId) false true (pCons (pAgg (pCons pNilptr (pCons pNils pNil))) pNil)) pNil) fun (_,(a,_)) (((_,(_,_)),_),_)=>((xaR a).isSome,((AV.tuple [AV.int .i64 ((xaR a).getD (0,0,[])).1,.top],([⟨0,2,137,[AV.agg [AV.own 0 0 0 0,AV.osl 1 0 0 ((xaR a).getD (0,0,[])).2.1]],false,false⟩,⟨0,1,5,((xaR a).getD (0,0,[])).2.2,false,true⟩]:List Box))))
theorem xrA:OmOk Tryz.prog ITryz 115 (xkv):=xfA fun c e h g f=>by
 obtain ⟨_,⟨i,_⟩⟩:=c
 obtain ⟨⟨⟨_,⟨_,_⟩⟩,_⟩,_⟩:=e
 obtain ⟨a,b⟩:=Prod.mk.inj f
 refine xdr (p:=xcT.pin) (xdI mxTryz (inv0Ok Tryz.prog _) rfl xpI rfl Tryz.func115 rfl (by kernel_rfl) xnT ((xrB _ _ (xab (d:=(0,0,[])) a)).trans ?_))
 exact congrArg some b
def xO5:Env:=E0.withM 115 xkv
theorem xLP:OrcOk Tryz.prog ITryz xO5:=xO4.withM xrA
def xcN:Env:=xO5.fn 19 2 (lsOf []) (lpsOf [])
theorem xo2:OrcOk Tryz.prog (ITryz.at 2) xcN:=xLP.fn
theorem xns:LoOk Tryz.prog (ITryz.at xcN.pin) xcN (Tryz.f115.body.getD .skip):=xaq (by kernel_rfl)
def xdY {T:Type} (a:List UInt8) (n:Nat) (b:LA) (δ:T) (κ:Int×Nat×LA→T):T:=br (n==b.length&&(decide ((n+(byteAVs a).length)*1≤140737488355328)&&decide (n+(byteAVs a).length≤4611686018427387904))) (κ ((↑a.length:Int),n+(byteAVs a).length,b++byteAVs a)) δ
def xaO (a:List UInt8) (n:Nat) (b:LA):Option (Int×Nat×LA):=xdY a n b none some
theorem xq4 (a:List UInt8) (n:Nat) (xs:LA):Enc (fun (p:Int×Nat×LA)=>(((AV.tuple [AV.int .i64 p.1,.top],([⟨0,2,137,[AV.agg [AV.own 0 0 0 0,AV.osl 1 1 0 p.2.1]],false,false⟩,⟨1,1,5,p.2.2,false,true⟩]:List Box))):(AV×List Box))) (xaO a n xs) (XFM Tryz.prog xcN Tryz.f115 (Tryz.f115.body.getD .skip) [AV.own (0:Id) 0 0 0,AV.str a] [{ ver:=0,sz:=2,ty:=(137:TypeId),xs:=[AV.agg [AV.own (0:Id) 0 0 0,AV.osl (1:Id) 0 0 n]],frz:=false,pm:=false },{ ver:=0,sz:=1,ty:=(5:TypeId),xs:=xs,frz:=false,pm:=true }]):=by
 refine eV (xdY a n xs none (fun (p:Int×Nat×LA)=>some (((AV.tuple [AV.int .i64 p.1,.top],([⟨0,2,137,[AV.agg [AV.own 0 0 0 0,AV.osl 1 1 0 p.2.1]],false,false⟩,⟨1,1,5,p.2.2,false,true⟩]:List Box))):(AV×List Box)))) (by kernel_rfl) ?_;unfold xaO xdY;repeat' first|exact eN|exact eS rfl|apply eB
def xkh:LA→List Box→Option (Bool×AV×List Box):=omOf (sCons (sEq (pOwn 0 0 0 0)) (sCons (sEq pStr) sNil)) (pCons (pBox 0 2 (137:TypeId) false false (pCons (pAgg (pCons (pOwn 0 0 0 0) (pCons (pOsl 1 0 0) pNil))) pNil)) (pCons (pBox 0 1 (5:TypeId) false true pAny) pNil)) fun (_,(a,_)) (((_,(n,_)),_),(b,_))=>((xaO a n b).isSome,((AV.tuple [AV.int .i64 ((xaO a n b).getD (0,0,[])).1,.top],([⟨0,2,137,[AV.agg [AV.own 0 0 0 0,AV.osl 1 1 0 ((xaO a n b).getD (0,0,[])).2.1]],false,false⟩,⟨1,1,5,((xaO a n b).getD (0,0,[])).2.2,false,true⟩]:List Box))))
theorem xq3:OmOk Tryz.prog ITryz 115 (xkh):=xfA fun c e h g f=>by
 obtain ⟨_,⟨i,_⟩⟩:=c
 obtain ⟨⟨⟨_,⟨n,_⟩⟩,_⟩,⟨j,_⟩⟩:=e
 obtain ⟨a,b⟩:=Prod.mk.inj f
 refine xdr (p:=xcN.pin) (xdI mxTryz (inv0Ok Tryz.prog _) rfl xo2 rfl Tryz.func115 rfl (by kernel_rfl) xns ((xq4 _ _ _ _ (xab (d:=(0,0,[])) a)).trans ?_))
 exact congrArg some b
def xO6:Env:=xO5.withM 115 xkh
theorem xLQ:OrcOk Tryz.prog ITryz xO6:=xLP.withM xq3
def xcO:Env:=xO6.fn 19 2 (lsOf []) (lpsOf [])
theorem xo3:OrcOk Tryz.prog (ITryz.at 2) xcO:=xLQ.fn
theorem xnt:LoOk Tryz.prog (ITryz.at xcO.pin) xcO (Tryz.f115.body.getD .skip):=xaq (by kernel_rfl)
def xgn {T:Type} (a:List UInt8) (n:Nat) (b:LA) (δ:T) (κ:Int×Nat×LA→T):T:=br (n==b.length&&(decide ((n+(byteAVs a).length)*1≤140737488355328)&&decide (n+(byteAVs a).length≤4611686018427387904))) (κ ((↑a.length:Int),n+(byteAVs a).length,b++byteAVs a)) δ
def xcn (a:List UInt8) (n:Nat) (b:LA):Option (Int×Nat×LA):=xgn a n b none some
theorem xq6 (a:List UInt8) (n:Nat) (xs:LA):Enc (fun (p:Int×Nat×LA)=>(((AV.tuple [AV.int .i64 p.1,.top],([⟨0,2,137,[AV.agg [AV.own 0 0 0 0,AV.osl 1 2 0 p.2.1]],false,false⟩,⟨2,1,5,p.2.2,false,true⟩]:List Box))):(AV×List Box))) (xcn a n xs) (XFM Tryz.prog xcO Tryz.f115 (Tryz.f115.body.getD .skip) [AV.own (0:Id) 0 0 0,AV.str a] [{ ver:=0,sz:=2,ty:=(137:TypeId),xs:=[AV.agg [AV.own (0:Id) 0 0 0,AV.osl (1:Id) 1 0 n]],frz:=false,pm:=false },{ ver:=1,sz:=1,ty:=(5:TypeId),xs:=xs,frz:=false,pm:=true }]):=by
 refine eV (xgn a n xs none (fun (p:Int×Nat×LA)=>some (((AV.tuple [AV.int .i64 p.1,.top],([⟨0,2,137,[AV.agg [AV.own 0 0 0 0,AV.osl 1 2 0 p.2.1]],false,false⟩,⟨2,1,5,p.2.2,false,true⟩]:List Box))):(AV×List Box)))) (by kernel_rfl) ?_;unfold xcn xgn;repeat' first|exact eN|exact eS rfl|apply eB
def xki:LA→List Box→Option (Bool×AV×List Box):=omOf (sCons (sEq (pOwn 0 0 0 0)) (sCons (sEq pStr) sNil)) (pCons (pBox 0 2 (137:TypeId) false false (pCons (pAgg (pCons (pOwn 0 0 0 0) (pCons (pOsl 1 1 0) pNil))) pNil)) (pCons (pBox 1 1 (5:TypeId) false true pAny) pNil)) fun (_,(a,_)) (((_,(n,_)),_),(b,_))=>((xcn a n b).isSome,((AV.tuple [AV.int .i64 ((xcn a n b).getD (0,0,[])).1,.top],([⟨0,2,137,[AV.agg [AV.own 0 0 0 0,AV.osl 1 2 0 ((xcn a n b).getD (0,0,[])).2.1]],false,false⟩,⟨2,1,5,((xcn a n b).getD (0,0,[])).2.2,false,true⟩]:List Box))))
theorem xq5:OmOk Tryz.prog ITryz 115 (xki):=xfA fun c e h g f=>by
 obtain ⟨_,⟨i,_⟩⟩:=c
 obtain ⟨⟨⟨_,⟨n,_⟩⟩,_⟩,⟨j,_⟩⟩:=e
 obtain ⟨a,b⟩:=Prod.mk.inj f
 refine xdr (p:=xcO.pin) (xdI mxTryz (inv0Ok Tryz.prog _) rfl xo3 rfl Tryz.func115 rfl (by kernel_rfl) xnt ((xq6 _ _ _ _ (xab (d:=(0,0,[])) a)).trans ?_))
 exact congrArg some b
def xO7:Env:=xO6.withM 115 xki
theorem xLR:OrcOk Tryz.prog ITryz xO7:=xLQ.withM xq5
def xcm:Env:=xO7.fn 17 1 (lsOf []) (lpsOf [])
theorem xqm:OrcOk Tryz.prog (ITryz.at 1) xcm:=xLR.fn
theorem xo1:LoOk Tryz.prog (ITryz.at xcm.pin) xcm (Tryz.f117.body.getD .skip):=xaq (by kernel_rfl)
def xiu (c:Int):Int:=((c))
def xku (c:Int):Bool:=true
def xl2 {T:Type} (c:Int) (δ:T) (κ:Int→T):T:=κ (c)
theorem xs6 (c:Int):Pre (xku c) (XFM Tryz.prog xcm Tryz.f117 (Tryz.f117.body.getD .skip) [AV.own (0:Id) 0 0 0,AV.int .u8 c] [{ ver:=0,sz:=2,ty:=(137:TypeId),xs:=[AV.agg [AV.nilptr,AV.nils]],frz:=false,pm:=true }]) ((.top,([⟨0,2,137,[AV.agg [AV.own 0 0 0 0,AV.osl 1 0 0 1]],false,false⟩,⟨0,1,5,[AV.int .u8 (xiu c)],false,true⟩]:List Box))):=by
 have h:XFM Tryz.prog xcm Tryz.f117 (Tryz.f117.body.getD .skip) [AV.own (0:Id) 0 0 0,AV.int .u8 c] [{ ver:=0,sz:=2,ty:=(137:TypeId),xs:=[AV.agg [AV.nilptr,AV.nils]],frz:=false,pm:=true }]=xl2 c none (fun (p:Int)=>some (((.top,([⟨0,2,137,[AV.agg [AV.own 0 0 0 0,AV.osl 1 0 0 1]],false,false⟩,⟨0,1,5,[AV.int .u8 p],false,true⟩]:List Box))):(AV×List Box))):=by kernel_rfl
 rw [h];unfold xiu xku xl2;repeat' (first|exact Pre.none|exact Pre.tt rfl|exact Pre.some rfl|refine Pre.l ?_|refine Pre.r ?_|refine Pre.br (f:=fun (p:Int)=>(((.top,([⟨0,2,137,[AV.agg [AV.own 0 0 0 0,AV.osl 1 0 0 1]],false,false⟩,⟨0,1,5,[AV.int .u8 p],false,true⟩]:List Box))):(AV×List Box))) ?_ ?_|refine Pre.brt (f:=fun (p:Int)=>(((.top,([⟨0,2,137,[AV.agg [AV.own 0 0 0 0,AV.osl 1 0 0 1]],false,false⟩,⟨0,1,5,[AV.int .u8 p],false,true⟩]:List Box))):(AV×List Box))) ?_ ?_)
def xl1:LA→List Box→Option (Bool×AV×List Box):=omOf (sCons (sEq (pOwn 0 0 0 0)) (sCons (sEq (pInt .u8)) sNil)) (pCons (pBox 0 2 (137:TypeId) false true (pCons (pAgg (pCons pNilptr (pCons pNils pNil))) pNil)) pNil) fun (_,(c,_)) (((_,(_,_)),_),_)=>(true,((.top,([⟨0,2,137,[AV.agg [AV.own 0 0 0 0,AV.osl 1 0 0 1]],false,false⟩,⟨0,1,5,[AV.int .u8 (xiu c)],false,true⟩]:List Box))))
theorem xs5:OmOk Tryz.prog ITryz 117 (xl1):=xfA fun b d h f e=>by
 obtain ⟨_,⟨c,_⟩⟩:=b
 obtain ⟨⟨⟨_,⟨_,_⟩⟩,_⟩,_⟩:=d
 obtain ⟨g,a⟩:=Prod.mk.inj e
 refine xdr (p:=xcm.pin) (xdI mxTryz (inv0Ok Tryz.prog _) rfl xqm rfl Tryz.func117 rfl (by kernel_rfl) xo1 ((Pre.get (xs6 _) rfl).trans ?_))
 exact congrArg some a
def xO8:Env:=xO7.withM 117 xl1
theorem xLS:OrcOk Tryz.prog ITryz xO8:=xLR.withM xs5
def xc4:Env:=xO8.fn 17 2 (lsOf []) (lpsOf [])
theorem xp1:OrcOk Tryz.prog (ITryz.at 2) xc4:=xLS.fn
theorem xn1:LoOk Tryz.prog (ITryz.at xc4.pin) xc4 (Tryz.f117.body.getD .skip):=xaq (by kernel_rfl)
def xg1 {T:Type} (c:Int) (n:Nat) (a:LA) (δ:T) (κ:Nat×LA→T):T:=br (n==a.length&&(decide ((n+1)*1≤140737488355328)&&decide (n+1≤4611686018427387904))) (κ (n+1,a++[AV.int .u8 c])) δ
def xbP (c:Int) (n:Nat) (a:LA):Option (Nat×LA):=xg1 c n a none some
theorem xsL (c:Int) (n:Nat) (xs:LA):Enc (fun (p:Nat×LA)=>(((.top,([⟨0,2,137,[AV.agg [AV.own 0 0 0 0,AV.osl 1 1 0 p.1]],false,false⟩,⟨1,1,5,p.2,false,true⟩]:List Box))):(AV×List Box))) (xbP c n xs) (XFM Tryz.prog xc4 Tryz.f117 (Tryz.f117.body.getD .skip) [AV.own (0:Id) 0 0 0,AV.int .u8 c] [{ ver:=0,sz:=2,ty:=(137:TypeId),xs:=[AV.agg [AV.own (0:Id) 0 0 0,AV.osl (1:Id) 0 0 n]],frz:=false,pm:=false },{ ver:=0,sz:=1,ty:=(5:TypeId),xs:=xs,frz:=false,pm:=true }]):=by
 refine eV (xg1 c n xs none (fun (p:Nat×LA)=>some (((.top,([⟨0,2,137,[AV.agg [AV.own 0 0 0 0,AV.osl 1 1 0 p.1]],false,false⟩,⟨1,1,5,p.2,false,true⟩]:List Box))):(AV×List Box)))) (by kernel_rfl) ?_;unfold xbP xg1;repeat' first|exact eN|exact eS rfl|apply eB
def xlL:LA→List Box→Option (Bool×AV×List Box):=omOf (sCons (sEq (pOwn 0 0 0 0)) (sCons (sEq (pInt .u8)) sNil)) (pCons (pBox 0 2 (137:TypeId) false false (pCons (pAgg (pCons (pOwn 0 0 0 0) (pCons (pOsl 1 0 0) pNil))) pNil)) (pCons (pBox 0 1 (5:TypeId) false true pAny) pNil)) fun (_,(c,_)) (((_,(n,_)),_),(a,_))=>((xbP c n a).isSome,((.top,([⟨0,2,137,[AV.agg [AV.own 0 0 0 0,AV.osl 1 1 0 ((xbP c n a).getD (0,[])).1]],false,false⟩,⟨1,1,5,((xbP c n a).getD (0,[])).2,false,true⟩]:List Box))))
theorem xsK:OmOk Tryz.prog ITryz 117 (xlL):=xfA fun e f i h g=>by
 obtain ⟨_,⟨c,_⟩⟩:=e
 obtain ⟨⟨⟨_,⟨n,_⟩⟩,_⟩,⟨j,_⟩⟩:=f
 obtain ⟨a,b⟩:=Prod.mk.inj g
 refine xdr (p:=xc4.pin) (xdI mxTryz (inv0Ok Tryz.prog _) rfl xp1 rfl Tryz.func117 rfl (by kernel_rfl) xn1 ((xsL _ _ _ _ (xab (d:=(0,[])) a)).trans ?_))
 exact congrArg some b
def xO9:Env:=xO8.withM 117 xlL
theorem xLT:OrcOk Tryz.prog ITryz xO9:=xLS.withM xsK
def xc5:Env:=xO9.fn 17 2 (lsOf []) (lpsOf [])
theorem xp2:OrcOk Tryz.prog (ITryz.at 2) xc5:=xLT.fn
theorem xn2:LoOk Tryz.prog (ITryz.at xc5.pin) xc5 (Tryz.f117.body.getD .skip):=xaq (by kernel_rfl)
def xes {T:Type} (c:Int) (n:Nat) (a:LA) (δ:T) (κ:Nat×LA→T):T:=br (n==a.length&&(decide ((n+1)*1≤140737488355328)&&decide (n+1≤4611686018427387904))) (κ (n+1,a++[AV.int .u8 c])) δ
def xbq (c:Int) (n:Nat) (a:LA):Option (Nat×LA):=xes c n a none some
theorem xsN (c:Int) (n:Nat) (xs:LA):Enc (fun (p:Nat×LA)=>(((.top,([⟨0,2,137,[AV.agg [AV.own 0 0 0 0,AV.osl 1 2 0 p.1]],false,false⟩,⟨2,1,5,p.2,false,true⟩]:List Box))):(AV×List Box))) (xbq c n xs) (XFM Tryz.prog xc5 Tryz.f117 (Tryz.f117.body.getD .skip) [AV.own (0:Id) 0 0 0,AV.int .u8 c] [{ ver:=0,sz:=2,ty:=(137:TypeId),xs:=[AV.agg [AV.own (0:Id) 0 0 0,AV.osl (1:Id) 1 0 n]],frz:=false,pm:=false },{ ver:=1,sz:=1,ty:=(5:TypeId),xs:=xs,frz:=false,pm:=true }]):=by
 refine eV (xes c n xs none (fun (p:Nat×LA)=>some (((.top,([⟨0,2,137,[AV.agg [AV.own 0 0 0 0,AV.osl 1 2 0 p.1]],false,false⟩,⟨2,1,5,p.2,false,true⟩]:List Box))):(AV×List Box)))) (by kernel_rfl) ?_;unfold xbq xes;repeat' first|exact eN|exact eS rfl|apply eB
def xlM:LA→List Box→Option (Bool×AV×List Box):=omOf (sCons (sEq (pOwn 0 0 0 0)) (sCons (sEq (pInt .u8)) sNil)) (pCons (pBox 0 2 (137:TypeId) false false (pCons (pAgg (pCons (pOwn 0 0 0 0) (pCons (pOsl 1 1 0) pNil))) pNil)) (pCons (pBox 1 1 (5:TypeId) false true pAny) pNil)) fun (_,(c,_)) (((_,(n,_)),_),(a,_))=>((xbq c n a).isSome,((.top,([⟨0,2,137,[AV.agg [AV.own 0 0 0 0,AV.osl 1 2 0 ((xbq c n a).getD (0,[])).1]],false,false⟩,⟨2,1,5,((xbq c n a).getD (0,[])).2,false,true⟩]:List Box))))
theorem xsM:OmOk Tryz.prog ITryz 117 (xlM):=xfA fun e f i h g=>by
 obtain ⟨_,⟨c,_⟩⟩:=e
 obtain ⟨⟨⟨_,⟨n,_⟩⟩,_⟩,⟨j,_⟩⟩:=f
 obtain ⟨a,b⟩:=Prod.mk.inj g
 refine xdr (p:=xc5.pin) (xdI mxTryz (inv0Ok Tryz.prog _) rfl xp2 rfl Tryz.func117 rfl (by kernel_rfl) xn2 ((xsN _ _ _ _ (xab (d:=(0,[])) a)).trans ?_))
 exact congrArg some b
def xTc:Env:=xO9.withM 117 xlM
theorem xR5:OrcOk Tryz.prog ITryz xTc:=xLT.withM xsM
abbrev EK1:Env:=xTc
theorem xQm:OrcOk Tryz.prog ITryz EK1:=xR5
end Go.Sim.M
end
noncomputable section
set_option maxRecDepth 100000
namespace Go.Sim.M
open Go.IntKind (i64 u64 u8)
open Go.RowKit Go.Proofs
def xiF:Env:=EK1.fn 18 0 (lsOf []) (lpsOf [])
theorem xC7:OrcOk Tryz.prog (ITryz.at 0) xiF:=xQm.fn
theorem xAI:LoOk Tryz.prog (ITryz.at xiF.pin) xiF (Tryz.f52.body.getD .skip):=xaq (by kernel_rfl)
def xgd (a b:Int):Bool:=(br (decide (a≥0)) (br (decide (a<b)) ((decide (b≤1099511627776))) ((false))) ((false)))
def xvF (a b:Int):Bool:=true
def xzF {T:Type} (a b:Int) (δ:T) (κ:Bool→T):T:=br (decide (a≥0)) (br (decide (a<b)) (κ (decide (b≤1099511627776))) (κ (false))) (κ (false))
theorem xJk (a b:Int):Pre (xvF a b) (XF Tryz.prog xiF Tryz.f52 (Tryz.f52.body.getD .skip) [AV.agg [AV.int .i64 a,AV.int .i64 b]]) (AV.bool (xgd a b)):=by
 have h:XF Tryz.prog xiF Tryz.f52 (Tryz.f52.body.getD .skip) [AV.agg [AV.int .i64 a,AV.int .i64 b]]=xzF a b none (fun (p:Bool)=>some ((AV.bool p):AV)):=by kernel_rfl
 rw [h];unfold xgd xvF xzF;repeat' (first|exact Pre.none|exact Pre.tt rfl|exact Pre.some rfl|refine Pre.l ?_|refine Pre.r ?_|refine Pre.br (f:=fun (p:Bool)=>((AV.bool p):AV)) ?_ ?_|refine Pre.brt (f:=fun (p:Bool)=>((AV.bool p):AV)) ?_ ?_)
def xzE:LA→Option (Bool×AV):=ocOf (sCons (sAgg (sCons (sEq (pInt .i64)) (sCons (sEq (pInt .i64)) sNil))) sNil) fun ((a,(b,_)),_)=>(true,(AV.bool (xgd a b)))
theorem xJj:OcOk Tryz.prog ITryz 52 (xzE):=xaL fun b g c=>by
 obtain ⟨⟨d,⟨e,_⟩⟩,_⟩:=b
 obtain ⟨f,a⟩:=Prod.mk.inj c
 refine xaI (p:=xiF.pin) (xaK mxTryz (inv0Ok Tryz.prog _) rfl xC7 Tryz.func52 rfl (by kernel_rfl) xAI ((Pre.get (xJk _ _) rfl).trans ?_))
 exact congrArg some a
def xGY:Env:=EK1.with 52 xzE
theorem xAh:OrcOk Tryz.prog ITryz xGY:=xQm.with xJj
def xiA:Env:=xGY.fn 37 0 (lsOf []) (lpsOf [])
theorem xCR:OrcOk Tryz.prog (ITryz.at 0) xiA:=xAh.fn
theorem xym:LoOk Tryz.prog (ITryz.at xiA.pin) xiA (loopAt Tryz.f91 1):=xaq (by kernel_rfl)
def xij (b:Int) (a:LA):=((a.getD (0+b.toNat) .top).cells.getD 0 .top).toInt
def xok (d:Int) (c:Nat) (b a:LA):=((xaO (Lib.itoa (xij d b)) c a).getD (0,0,[])).snd
def xoj (d:Int) (c:Nat) (b a:LA):=xbq 32 (xok d c b a).fst (xok d c b a).snd
def xoi (d:Int) (c:Nat) (b a:LA):=(xoj d c b a).getD (0,[])
def xjf {T:Type} (k:LA) (l j:Int) (e:Nat) (i c:Int) (d:Nat) (f g:Int) (h:List UInt8) (a b:LA) (δ:T) (κl:(Int×Nat×Int×Int×List UInt8×LA×LA)→T) (κr:(Nat×Int×Int×List UInt8×LA)→T):T:=br (decide (c<i)) (br (decide (0≤c)&&decide (c<(↑e:Int))) (br (decide (0+c.toNat<a.length)&&hasSh1 (Sh.int .i64) ((a.getD (0+c.toNat) .top).cells.getD 0 .top)) (br (decide ((-9223372036854775808)≤xij c a)&&decide (xij c a≤9223372036854775807)) (br ((xaO (Lib.itoa (xij c a)) d b).isSome) (br ((xoj c d a b).isSome) (κl (i64.wrap (c+1),(xoi c d a b).fst,f,g,h,a,(xoi c d a b).snd)) δ) δ) δ) δ) δ) (κr (d,f,g,h,b))
def xbg (k:LA) (l e:Int) (c:Nat) (f:Int):(Int×Nat×Int×Int×List UInt8×LA×LA)→Option ((Int×Nat×Int×Int×List UInt8×LA×LA)⊕(Nat×Int×Int×List UInt8×LA)):=fun (g,d,h,i,j,b,a)=>xjf k l e c f g d h i j b a none (fun s=>some (.inl s)) (fun p=>some (.inr p))
def xg3 (k:LA) (l e:Int) (c:Nat) (f:Int):(Int×Nat×Int×Int×List UInt8×LA×LA)→LA×List Box:=fun (g,d,h,i,j,b,a)=>([AV.own 0 0 0 0,AV.own 1 0 0 0,AV.list 3 k,AV.int .i64 l,AV.int .i64 e,AV.osl 2 0 0 c,AV.int .i64 f,AV.int .i64 g],[⟨0,2,137,[AV.agg [AV.own 0 0 0 0,AV.osl 3 0 0 d]],false,false⟩,⟨0,3,73,[AV.agg [AV.int .i64 h,AV.int .i64 i,AV.str j]],false,true⟩,⟨0,1,3,b,false,true⟩,⟨0,1,5,a,false,true⟩])
def xfw (c:LA) (d a:Int) (b:Nat) (e:Int):(Nat×Int×Int×List UInt8×LA)→LR:=fun p=>(.leaf (.exit 2) [AV.own 0 0 0 0,AV.own 1 0 0 0,AV.list 3 c,AV.int .i64 d,AV.int .i64 a] [⟨0,2,137,[AV.agg [AV.own 0 0 0 0,AV.osl 2 0 0 p.1]],false,false⟩,⟨0,3,73,[AV.agg [AV.int .i64 p.2.1,AV.int .i64 p.2.2.1,AV.str p.2.2.2.1]],false,true⟩,⟨0,1,5,p.2.2.2.2,false,true⟩])
abbrev xEz (a:LA) (H:List Box):=XR Tryz.prog xiA [3,5,8,9,10,21,22,23] [3,5,8,9,10] [] (loopAt Tryz.f91 1) a H
theorem xEA (d:LA) (e b:Int) (a:Nat) (c:Int) (s:Int×Nat×Int×Int×List UInt8×LA×LA):Enc (encR (xg3 d e b a c) (xfw d e b a c)) (xbg d e b a c s) (xEz (xg3 d e b a c s).1 (xg3 d e b a c s).2):=by
 obtain ⟨i,h,j,k,l,g,f⟩:=s
 refine eV (xjf d e b a c i h j k l g f none (fun s=>some (encR (xg3 d e b a c) (xfw d e b a c) (.inl s))) (fun p=>some (encR (xg3 d e b a c) (xfw d e b a c) (.inr p)))) (by kernel_rfl) ?_;unfold xbg xjf;repeat' first|exact eN|exact eS rfl|apply eB
def xoh:Lp:=lpOf [3,5,8,9,10,21,22,23] [3,5,8,9,10] [] (pCons (pOwn 0 0 0 0) (pCons (pOwn 1 0 0 0) (pCons (pList 3 pAny) (pCons (pInt .i64) (pCons (pInt .i64) (pCons (pOsl 2 0 0) (pCons (pInt .i64) (pCons (pInt .i64) pNil)))))))) (pCons (pBox 0 2 137 false false (pCons (pAgg (pCons (pOwn 0 0 0 0) (pCons (pOsl 3 0 0) pNil))) pNil)) (pCons (pBox 0 3 73 false true (pCons (pAgg (pCons (pInt .i64) (pCons (pInt .i64) (pCons pStr pNil)))) pNil)) (pCons (pBox 0 1 3 false true pAny) (pCons (pBox 0 1 5 false true pAny) pNil)))) fun (_,(_,(k,(l,(d,(b,(e,(g,_)))))))) (((_,(f,_)),_),(((h,(i,(j,_))),_),(c,(a,_))))=>((Iter (xbg k l d b e) (g,f,h,i,j,c,a)).isSome,xfw k l d b e ((Iter (xbg k l d b e) (g,f,h,i,j,c,a)).getD (0,0,0,[],[])))
theorem xs7:LoopOk Tryz.prog (ITryz.at xiA.pin) xiA.nt (loopAt Tryz.f91 1) xoh:=xaP fun n o r q=>by
 obtain ⟨_,⟨_,⟨f,⟨g,⟨c,⟨a,⟨d,⟨i,_⟩⟩⟩⟩⟩⟩⟩⟩:=n
 obtain ⟨⟨⟨_,⟨h,_⟩⟩,_⟩,⟨⟨⟨j,⟨k,⟨l,_⟩⟩⟩,_⟩,⟨e,⟨b,_⟩⟩⟩⟩:=o
 obtain ⟨m,rfl⟩:=Prod.mk.inj q
 exact xar mxTryz (inv0Ok Tryz.prog _) rfl xCR xym (xg3 f g c a d) (xfw f g c a d) (fun p=>by simp only [xfw,LR.eval];first|(simp;done)|(repeat' split<;>simp)) (xEA f g c a d) (s:=(i,h,j,k,l,e,b)) (xab m)
def xiB:Env:=xGY.fn 37 0 (lsOf []) (lpsOf [(6,xoh)])
theorem xCS:OrcOk Tryz.prog (ITryz.at 0) xiB:=xAh.fn
theorem xyn:LoOk Tryz.prog (ITryz.at xiB.pin) xiB (loopAt Tryz.f91 0):=xaM (ls:=[loopAt Tryz.f91 1]) (by kernel_rfl) (lkC xs7 lkN)
def xog (b:LA) (e a:Int) (d:Nat) (c:LA):=Iter (xbg b e a 3 3) (0,d,((b.getD a.toNat .top).cells.getD 0 .top).toInt,((b.getD a.toNat .top).cells.getD 1 .top).toInt,((b.getD a.toNat .top).cells.getD 2 .top).toStr,[AV.int .i64 ((b.getD a.toNat .top).cells.getD 0 .top).toInt,AV.int .i64 ((b.getD a.toNat .top).cells.getD 1 .top).toInt,AV.int .i64 (↑((b.getD a.toNat .top).cells.getD 2 .top).toStr.length:Int)],c)
def xof (d:LA) (e c:Int) (b:Nat) (a:LA):=(xog d e c b a).getD (0,0,0,[],[])
def xoe (d:LA) (e c:Int) (b:Nat) (a:LA):=(xof d e c b a).snd.snd.snd
def xod (d:LA) (e c:Int) (b:Nat) (a:LA):=xaO (xoe d e c b a).fst (xof d e c b a).fst (xoe d e c b a).snd
def xoc (d:LA) (e c:Int) (b:Nat) (a:LA):=((xod d e c b a).getD (0,0,[])).snd
def xje {T:Type} (d:LA) (e b:Int) (c:Nat) (a:LA) (δ:T) (κl:(Int×Nat×LA)→T) (κr:(Nat×LA)→T):T:=br (decide (b<e)) (br (decide (0≤b)&&decide (b<d.length)) (br (decide (b.toNat<d.length)&&((d.getD b.toNat .top).cells.length==3&&hasShs [Sh.int .i64,Sh.int .i64,Sh.str] (d.getD b.toNat .top).cells 0)) (br ((xog d e b c a).isSome) (br ((xod d e b c a).isSome) (κl (i64.wrap (b+1),(xoc d e b c a).fst,(xoc d e b c a).snd)) δ) δ) δ) δ) (κr (c,a))
def xcC (d:LA) (e:Int):(Int×Nat×LA)→Option ((Int×Nat×LA)⊕(Nat×LA)):=fun (c,b,a)=>xje d e c b a none (fun s=>some (.inl s)) (fun p=>some (.inr p))
def xg2 (d:LA) (e:Int):(Int×Nat×LA)→LA×List Box:=fun (c,b,a)=>([AV.own 0 0 0 0,AV.list 3 d,AV.int .i64 e,AV.int .i64 c],[⟨0,2,137,[AV.agg [AV.own 0 0 0 0,AV.osl 1 0 0 b]],false,false⟩,⟨0,1,5,a,false,true⟩])
def xfv (a:LA) (b:Int):(Nat×LA)→LR:=fun p=>(.leaf (.exit 0) [AV.own 0 0 0 0] [⟨0,2,137,[AV.agg [AV.own 0 0 0 0,AV.osl 1 0 0 p.1]],false,false⟩,⟨0,1,5,p.2,false,true⟩])
abbrev xEw (a:LA) (H:List Box):=XR Tryz.prog xiB [3,8,9,10] [3] [] (loopAt Tryz.f91 0) a H
theorem xEy (a:LA) (b:Int) (s:Int×Nat×LA):Enc (encR (xg2 a b) (xfv a b)) (xcC a b s) (xEw (xg2 a b s).1 (xg2 a b s).2):=by
 obtain ⟨e,d,c⟩:=s
 refine eV (xje a b e d c none (fun s=>some (encR (xg2 a b) (xfv a b) (.inl s))) (fun p=>some (encR (xg2 a b) (xfv a b) (.inr p)))) (by kernel_rfl) ?_;unfold xcC xje;repeat' first|exact eN|exact eS rfl|apply eB
def xtU:Lp:=lpOf [3,8,9,10] [3] [] (pCons (pOwn 0 0 0 0) (pCons (pList 3 pAny) (pCons (pInt .i64) (pCons (pInt .i64) pNil)))) (pCons (pBox 0 2 137 false false (pCons (pAgg (pCons (pOwn 0 0 0 0) (pCons (pOsl 1 0 0) pNil))) pNil)) (pCons (pBox 0 1 5 false true pAny) pNil)) fun (_,(d,(e,(c,_)))) (((_,(b,_)),_),(a,_))=>((Iter (xcC d e) (c,b,a)).isSome,xfv d e ((Iter (xcC d e) (c,b,a)).getD (0,[])))
theorem xBH:LoopOk Tryz.prog (ITryz.at xiB.pin) xiB.nt (loopAt Tryz.f91 0) xtU:=xaP fun g h j i=>by
 obtain ⟨_,⟨b,⟨c,⟨e,_⟩⟩⟩⟩:=g
 obtain ⟨⟨⟨_,⟨d,_⟩⟩,_⟩,⟨a,_⟩⟩:=h
 obtain ⟨f,rfl⟩:=Prod.mk.inj i
 exact xar mxTryz (inv0Ok Tryz.prog _) rfl xCS xyn (xg2 b c) (xfv b c) (fun p=>by simp only [xfv,LR.eval];first|(simp;done)|(repeat' split<;>simp)) (xEy b c) (s:=(e,d,a)) (xab f)
def xkY:Env:=xGY.fn 37 0 (lsOf []) (lpsOf [(6,xoh),(3,xtU)])
theorem xCT:OrcOk Tryz.prog (ITryz.at 0) xkY:=xAh.fn
theorem xAv:LoOk Tryz.prog (ITryz.at xkY.pin) xkY (Tryz.f91.body.getD .skip):=xaM (ls:=[loopAt Tryz.f91 0,loopAt Tryz.f91 1]) (by kernel_rfl) (lkC xBH (lkC xs7 lkN))
def xeG (a:LA):=((a.getD 0 .top).cells.getD 0 .top).toInt
def xrO (a:LA):=xbP 32 ((xaR (Lib.itoa (xeG a))).getD (0,0,[])).snd.fst ((xaR (Lib.itoa (xeG a))).getD (0,0,[])).snd.snd
def xrN (a:LA):=(xrO a).getD (0,[])
def xrM (a:LA):=Iter (xbg a (↑a.length:Int) 0 3 3) (1,(xrN a).fst,xeG a,((a.getD 0 .top).cells.getD 1 .top).toInt,((a.getD 0 .top).cells.getD 2 .top).toStr,[AV.int .i64 (xeG a),AV.int .i64 ((a.getD 0 .top).cells.getD 1 .top).toInt,AV.int .i64 (↑((a.getD 0 .top).cells.getD 2 .top).toStr.length:Int)],(xrN a).snd)
def xrL (a:LA):=(xrM a).getD (0,0,0,[],[])
def xrK (a:LA):=(xrL a).snd.snd.snd
def xrJ (a:LA):=xaO (xrK a).fst (xrL a).fst (xrK a).snd
def xrI (a:LA):=((xrJ a).getD (0,0,[])).snd
def xrH (a:LA):=Iter (xcC a (↑a.length:Int)) (1,(xrI a).fst,(xrI a).snd)
def xrG (a:LA):=(xrH a).getD (0,[])
def xkZ (a:LA):=(xrG a).snd
def xo7 {T:Type} (a:LA) (δ:T) (κ:List UInt8→T):T:=br (decide (0<(↑a.length:Int))) (br (decide (0<(↑a.length:Int))) (br (decide (0<a.length)&&((a.getD 0 .top).cells.length==3&&hasShs [Sh.int .i64,Sh.int .i64,Sh.str] (a.getD 0 .top).cells 0)) (br (decide ((-9223372036854775808)≤xeG a)&&decide (xeG a≤9223372036854775807)) (br ((xaR (Lib.itoa (xeG a))).isSome) (br ((xrO a).isSome) (br ((xrM a).isSome) (br ((xrJ a).isSome) (br ((xrH a).isSome) (br (decide ((xrG a).fst=(xkZ a).length)&&isBytes (xkZ a)&&decide ((xkZ a).length≠0)) (κ (strOf (xkZ a))) δ) δ) δ) δ) δ) δ) δ) δ) δ) (κ ([]))
def xgM (a:LA):Option (List UInt8):=xo7 a none some
theorem xI9 (a:LA):Enc (fun (p:List UInt8)=>((AV.str p):AV)) (xgM a) (XF Tryz.prog xkY Tryz.f91 (Tryz.f91.body.getD .skip) [AV.list 3 a]):=by
 refine eV (xo7 a none (fun (p:List UInt8)=>some ((AV.str p):AV))) (by kernel_rfl) ?_;unfold xgM xo7;repeat' first|exact eN|exact eS rfl|apply eB
def xzy:LA→Option (Bool×AV):=ocOf (sCons (sList 3 pAny) sNil) fun (a,_)=>((xgM a).isSome,(AV.str ((xgM a).getD [])))
theorem xI8:OcOk Tryz.prog ITryz 91 (xzy):=xaL fun c g e=>by
 obtain ⟨f,_⟩:=c
 obtain ⟨a,b⟩:=Prod.mk.inj e
 refine xaI (p:=xkY.pin) (xaK mxTryz (inv0Ok Tryz.prog _) rfl xCT Tryz.func91 rfl (by kernel_rfl) xAv ((xI9 _ _ (xab (d:=[]) a)).trans ?_))
 exact congrArg some b
def xTd:Env:=xGY.with 91 xzy
theorem xR6:OrcOk Tryz.prog ITryz xTd:=xAh.with xI8
abbrev EK2:Env:=xTd
theorem xQn:OrcOk Tryz.prog ITryz EK2:=xR6
end Go.Sim.M
end
noncomputable section
set_option maxRecDepth 100000
namespace Go.Sim.M
open Go.IntKind (i64 u64 u8)
open Go.RowKit Go.Proofs
def xmc:Env:=EK2.fn 6 0 (lsOf []) (lpsOf [])
theorem xHl:OrcOk Tryz.prog (ITryz.at 0) xmc:=xQn.fn
theorem xEt:LoOk Tryz.prog (ITryz.at xmc.pin) xmc (Tryz.f84.body.getD .skip):=xaq (by kernel_rfl)
def xjP (x:Int):Bool:=((x != x))
def xBr (x:Int):Bool:=true
def xFw {T:Type} (x:Int) (δ:T) (κ:Bool→T):T:=κ (x != x)
theorem xNI (x:Int):Pre (xBr x) (XF Tryz.prog xmc Tryz.f84 (Tryz.f84.body.getD .skip) [AV.int .i64 x]) (AV.bool (xjP x)):=by
 have h:XF Tryz.prog xmc Tryz.f84 (Tryz.f84.body.getD .skip) [AV.int .i64 x]=xFw x none (fun (p:Bool)=>some ((AV.bool p):AV)):=by kernel_rfl
 rw [h];unfold xjP xBr xFw;repeat' (first|exact Pre.none|exact Pre.tt rfl|exact Pre.some rfl|refine Pre.l ?_|refine Pre.r ?_|refine Pre.br (f:=fun (p:Bool)=>((AV.bool p):AV)) ?_ ?_|refine Pre.brt (f:=fun (p:Bool)=>((AV.bool p):AV)) ?_ ?_)
def xFv:LA→Option (Bool×AV):=ocOf (sCons (sEq (pInt .i64)) sNil) fun (x,_)=>(true,(AV.bool (xjP x)))
theorem xNH:OcOk Tryz.prog ITryz 84 (xFv):=xaL fun b e c=>by
 obtain ⟨x,_⟩:=b
 obtain ⟨d,a⟩:=Prod.mk.inj c
 refine xaI (p:=xmc.pin) (xaK mxTryz (inv0Ok Tryz.prog _) rfl xHl Tryz.func84 rfl (by kernel_rfl) xEt ((Pre.get (xNI _) rfl).trans ?_))
 exact congrArg some a
def xPa:Env:=EK2.with 84 xFv
theorem xLU:OrcOk Tryz.prog ITryz xPa:=xQn.with xNH
def xjU:Env:=xPa.fn 20 0 (lsOf []) (lpsOf [])
theorem xEs:OrcOk Tryz.prog (ITryz.at 0) xjU:=xLU.fn
theorem xBF:LoOk Tryz.prog (ITryz.at xjU.pin) xjU (Tryz.f54.body.getD .skip):=xaq (by kernel_rfl)
def xie (x y:Int):Int:=(br (xjP x) (br (xjP y) ((0)) (((-1)))) (br (xjP y) ((1)) (br (decide (x<y)) (((-1))) (br (decide (x>y)) ((1)) ((0))))))
def xwB (x y:Int):Bool:=true
def xBq {T:Type} (x y:Int) (δ:T) (κ:Int→T):T:=br (xjP x) (br (xjP y) (κ (0)) (κ ((-1)))) (br (xjP y) (κ (1)) (br (decide (x<y)) (κ ((-1))) (br (decide (x>y)) (κ (1)) (κ (0)))))
theorem xLa (x y:Int):Pre (xwB x y) (XF Tryz.prog xjU Tryz.f54 (Tryz.f54.body.getD .skip) [AV.int .i64 x,AV.int .i64 y]) (AV.int .i64 (xie x y)):=by
 have h:XF Tryz.prog xjU Tryz.f54 (Tryz.f54.body.getD .skip) [AV.int .i64 x,AV.int .i64 y]=xBq x y none (fun (p:Int)=>some ((AV.int .i64 p):AV)):=by kernel_rfl
 rw [h];unfold xie xwB xBq;repeat' (first|exact Pre.none|exact Pre.tt rfl|exact Pre.some rfl|refine Pre.l ?_|refine Pre.r ?_|refine Pre.br (f:=fun (p:Int)=>((AV.int .i64 p):AV)) ?_ ?_|refine Pre.brt (f:=fun (p:Int)=>((AV.int .i64 p):AV)) ?_ ?_)
def xBp:LA→Option (Bool×AV):=ocOf (sCons (sEq (pInt .i64)) (sCons (sEq (pInt .i64)) sNil)) fun (x,(y,_))=>(true,(AV.int .i64 (xie x y)))
theorem xK9:OcOk Tryz.prog ITryz 54 (xBp):=xaL fun b e c=>by
 obtain ⟨x,⟨y,_⟩⟩:=b
 obtain ⟨d,a⟩:=Prod.mk.inj c
 refine xaI (p:=xjU.pin) (xaK mxTryz (inv0Ok Tryz.prog _) rfl xEs Tryz.func54 rfl (by kernel_rfl) xBF ((Pre.get (xLa _ _) rfl).trans ?_))
 exact congrArg some a
def xPb:Env:=xPa.with 54 xBp
theorem xLV:OrcOk Tryz.prog ITryz xPb:=xLU.with xK9
def xn5:Env:=xPb.fn 18 0 (lsOf []) (lpsOf [])
theorem xMu:OrcOk Tryz.prog (ITryz.at 0) xn5:=xLV.fn
theorem xI3:LoOk Tryz.prog (ITryz.at xn5.pin) xn5 (Tryz.f71.body.getD .skip):=xaM (ls:=[loopAt Tryz.f71 0]) (by kernel_rfl) (fun l a lp b=>by
 simp only [List.mem_cons,List.not_mem_nil,or_false] at a
 rcases a with rfl
 · rw [show xn5.lp (codeId (loopAt Tryz.f71 0))=none by kernel_rfl] at b
   simp at b)
def xvr (a b c:Int):Int:=(br (a != 0) ((a)) (br (b != 0) ((b)) (br (c != 0) ((c)) ((0)))))
def xHk (a b c:Int):Bool:=true
def xMw {T:Type} (a b c:Int) (δ:T) (κ:Int→T):T:=br (a != 0) (κ (a)) (br (b != 0) (κ (b)) (br (c != 0) (κ (c)) (κ (0))))
theorem xSs (a b c:Int):Pre (xHk a b c) (XF Tryz.prog xn5 Tryz.f71 (Tryz.f71.body.getD .skip) [AV.list 1 [AV.int .i64 a,AV.int .i64 b,AV.int .i64 c]]) (AV.int .i64 (xvr a b c)):=by
 have h:XF Tryz.prog xn5 Tryz.f71 (Tryz.f71.body.getD .skip) [AV.list 1 [AV.int .i64 a,AV.int .i64 b,AV.int .i64 c]]=xMw a b c none (fun (p:Int)=>some ((AV.int .i64 p):AV)):=by kernel_rfl
 rw [h];unfold xvr xHk xMw;repeat' (first|exact Pre.none|exact Pre.tt rfl|exact Pre.some rfl|refine Pre.l ?_|refine Pre.r ?_|refine Pre.br (f:=fun (p:Int)=>((AV.int .i64 p):AV)) ?_ ?_|refine Pre.brt (f:=fun (p:Int)=>((AV.int .i64 p):AV)) ?_ ?_)
def xMv:LA→Option (Bool×AV):=ocOf (sCons (sList 1 (pCons (pInt .i64) (pCons (pInt .i64) (pCons (pInt .i64) pNil)))) sNil) fun ((a,(b,(c,_))),_)=>(true,(AV.int .i64 (xvr a b c)))
theorem xSr:OcOk Tryz.prog ITryz 71 (xMv):=xaL fun e h f=>by
 obtain ⟨⟨a,⟨b,⟨c,_⟩⟩⟩,_⟩:=e
 obtain ⟨g,d⟩:=Prod.mk.inj f
 refine xaI (p:=xn5.pin) (xaK mxTryz (inv0Ok Tryz.prog _) rfl xMu Tryz.func71 rfl (by kernel_rfl) xI3 ((Pre.get (xSs _ _ _) rfl).trans ?_))
 exact congrArg some d
def xPc:Env:=xPb.with 71 xMv
theorem xLW:OrcOk Tryz.prog ITryz xPc:=xLV.with xSr
def xid:Env:=xPc.fn 22 0 (lsOf []) (lpsOf [])
theorem xCk:OrcOk Tryz.prog (ITryz.at 0) xid:=xLW.fn
theorem xzb:LoOk Tryz.prog (ITryz.at xid.pin) xid (Tryz.f114.body.getD .skip):=xaq (by kernel_rfl)
def xbQ (a b:Int) (c:List UInt8) (d e:Int) (f:List UInt8):Int:=((xvr (xie a d) (xie b e) (Lib.compareBytes c f)))
def xu0 (a b:Int) (c:List UInt8) (d e:Int) (f:List UInt8):Bool:=true
def xyb {T:Type} (a b:Int) (c:List UInt8) (d e:Int) (f:List UInt8) (δ:T) (κ:Int→T):T:=κ (xvr (xie a d) (xie b e) (Lib.compareBytes c f))
theorem xIP (a b:Int) (c:List UInt8) (d e:Int) (g:List UInt8):Pre (xu0 a b c d e g) (XF Tryz.prog xid Tryz.f114 (Tryz.f114.body.getD .skip) [AV.agg [AV.int .i64 a,AV.int .i64 b,AV.str c],AV.agg [AV.int .i64 d,AV.int .i64 e,AV.str g]]) (AV.int .i64 (xbQ a b c d e g)):=by
 have h:XF Tryz.prog xid Tryz.f114 (Tryz.f114.body.getD .skip) [AV.agg [AV.int .i64 a,AV.int .i64 b,AV.str c],AV.agg [AV.int .i64 d,AV.int .i64 e,AV.str g]]=xyb a b c d e g none (fun (p:Int)=>some ((AV.int .i64 p):AV)):=by kernel_rfl
 rw [h];unfold xbQ xu0 xyb;repeat' (first|exact Pre.none|exact Pre.tt rfl|exact Pre.some rfl|refine Pre.l ?_|refine Pre.r ?_|refine Pre.br (f:=fun (p:Int)=>((AV.int .i64 p):AV)) ?_ ?_|refine Pre.brt (f:=fun (p:Int)=>((AV.int .i64 p):AV)) ?_ ?_)
def xya:LA→Option (Bool×AV):=ocOf (sCons (sAgg (sCons (sEq (pInt .i64)) (sCons (sEq (pInt .i64)) (sCons (sEq pStr) sNil)))) (sCons (sAgg (sCons (sEq (pInt .i64)) (sCons (sEq (pInt .i64)) (sCons (sEq pStr) sNil)))) sNil)) fun ((a,(b,(c,_))),((d,(e,(f,_))),_))=>(true,(AV.int .i64 (xbQ a b c d e f)))
theorem xIO:OcOk Tryz.prog ITryz 114 (xya):=xaL fun b k c=>by
 obtain ⟨⟨d,⟨e,⟨f,_⟩⟩⟩,⟨⟨g,⟨h,⟨i,_⟩⟩⟩,_⟩⟩:=b
 obtain ⟨j,a⟩:=Prod.mk.inj c
 refine xaI (p:=xid.pin) (xaK mxTryz (inv0Ok Tryz.prog _) rfl xCk Tryz.func114 rfl (by kernel_rfl) xzb ((Pre.get (xIP _ _ _ _ _ _) rfl).trans ?_))
 exact congrArg some a
def xLH:Env:=xPc.with 114 xya
theorem xF4:OrcOk Tryz.prog ITryz xLH:=xLW.with xIO
def xeE:Env:=xLH.fn 39 0 (lsOf []) (lpsOf [])
theorem xvx:OrcOk Tryz.prog (ITryz.at 0) xeE:=xF4.fn
theorem xsP:LoOk Tryz.prog (ITryz.at xeE.pin) xeE (loopAt Tryz.f113 0):=xaq (by kernel_rfl)
def xdB (c b:LA) (a:Int):=xbQ ((b.getD a.toNat .top).cells.getD 0 .top).toInt ((b.getD a.toNat .top).cells.getD 1 .top).toInt ((b.getD a.toNat .top).cells.getD 2 .top).toStr ((c.getD a.toNat .top).cells.getD 0 .top).toInt ((c.getD a.toNat .top).cells.getD 1 .top).toInt ((c.getD a.toNat .top).cells.getD 2 .top).toStr
def xc6 {T:Type} (e c b:LA) (d a:Int) (δ:T) (κl:(Int)→T) (κr:(Bool×(Int)×(Unit))→T):T:=br (decide (a<d)) (br (decide (0≤a)&&decide (a<b.length)) (br (decide (a.toNat<b.length)&&((b.getD a.toNat .top).cells.length==3&&hasShs [Sh.int .i64,Sh.int .i64,Sh.str] (b.getD a.toNat .top).cells 0)) (br (decide (a≥c.length)) (κr (true,(1),())) (br (decide (0≤a)&&decide (a<c.length)) (br (decide (a.toNat<c.length)&&((c.getD a.toNat .top).cells.length==3&&hasShs [Sh.int .i64,Sh.int .i64,Sh.str] (c.getD a.toNat .top).cells 0)) (br (xdB c b a != 0) (κr (true,(xdB c b a),())) (κl (i64.wrap (a+1)))) δ) δ)) δ) δ) (κr (false,0,()))
def xaS (d e a:LA) (b:Int):(Int)→Option ((Int)⊕(Bool×(Int)×(Unit))):=fun (c)=>xc6 d e a b c none (fun s=>some (.inl s)) (fun p=>some (.inr p))
def xdQ (d e a:LA) (b:Int):(Int)→LA×List Box:=fun (c)=>([AV.list 3 d,AV.list 3 e,AV.func 114 [],AV.list 3 a,AV.int .i64 b,AV.int .i64 c],[])
def xdl (a b c:LA) (d:Int):(Bool×(Int)×(Unit))→LR:=fun p=>(.node p.1 (.leaf .ret [AV.list 3 a,AV.list 3 b,AV.int .i64 p.2.1] []) (.leaf (.exit 0) [AV.list 3 a,AV.list 3 b,.top] []))
abbrev xwq (a:LA) (H:List Box):=XR Tryz.prog xeE [0,1,2,11,12,13] [0,1,6] [] (loopAt Tryz.f113 0) a H
theorem xwr (c d a:LA) (b e:Int):Enc (encR (xdQ c d a b) (xdl c d a b)) (xaS c d a b e) (xwq (xdQ c d a b e).1 (xdQ c d a b e).2):=by
 refine eV (xc6 c d a b e none (fun s=>some (encR (xdQ c d a b) (xdl c d a b) (.inl s))) (fun p=>some (encR (xdQ c d a b) (xdl c d a b) (.inr p)))) (by kernel_rfl) ?_;unfold xaS xc6;repeat' first|exact eN|exact eS rfl|apply eB
def xoL:Lp:=lpOf [0,1,2,11,12,13] [0,1,6] [] (pCons (pList 3 pAny) (pCons (pList 3 pAny) (pCons (pFunc 114 pNil) (pCons (pList 3 pAny) (pCons (pInt .i64) (pCons (pInt .i64) pNil)))))) pNil fun (d,(e,(_,(a,(b,(c,_)))))) _=>((Iter (xaS d e a b) (c)).isSome,xdl d e a b ((Iter (xaS d e a b) (c)).getD (false,0,())))
theorem xve:LoopOk Tryz.prog (ITryz.at xeE.pin) xeE.nt (loopAt Tryz.f113 0) xoL:=xaP fun g i j h=>by
 obtain ⟨c,⟨d,⟨_,⟨a,⟨b,⟨e,_⟩⟩⟩⟩⟩⟩:=g
 obtain ⟨f,rfl⟩:=Prod.mk.inj h
 exact xar mxTryz (inv0Ok Tryz.prog _) rfl xvx xsP (xdQ c d a b) (xdl c d a b) (fun p=>by simp only [xdl,LR.eval];first|(simp;done)|(repeat' split<;>simp)) (xwr c d a b) (s:=(e)) (xab f)
def xgF:Env:=xLH.fn 39 0 (lsOf []) (lpsOf [(2,xoL)])
theorem xv0:OrcOk Tryz.prog (ITryz.at 0) xgF:=xF4.fn
theorem xuc:LoOk Tryz.prog (ITryz.at xgF.pin) xgF (Tryz.f113.body.getD .skip):=xaM (ls:=[loopAt Tryz.f113 0]) (by kernel_rfl) (lkC xve lkN)
def xjH {T:Type} (a b:LA) (δ:T) (κ:Int→T):T:=br ((Iter (xaS a b a (↑a.length:Int)) 0).isSome) (br (((Iter (xaS a b a (↑a.length:Int)) 0).getD (false,0,())).fst) (κ (((Iter (xaS a b a (↑a.length:Int)) 0).getD (false,0,())).snd.fst)) (br (decide ((↑a.length:Int)<(↑b.length:Int))) (κ ((-1))) (κ (0)))) δ
def xeU (a b:LA):Option (Int):=xjH a b none some
theorem xA9 (a b:LA):Enc (fun (p:Int)=>((AV.int .i64 p):AV)) (xeU a b) (XF Tryz.prog xgF Tryz.f113 (Tryz.f113.body.getD .skip) [AV.list 3 a,AV.list 3 b,AV.func (114:FuncId) []]):=by
 refine eV (xjH a b none (fun (p:Int)=>some ((AV.int .i64 p):AV))) (by kernel_rfl) ?_;unfold xeU xjH;repeat' first|exact eN|exact eS rfl|apply eB
def xsq:LA→Option (Bool×AV):=ocOf (sCons (sList 3 pAny) (sCons (sList 3 pAny) (sCons (sEq (pFunc (114:FuncId) pNil)) sNil))) fun (a,(b,(_,_)))=>((xeU a b).isSome,(AV.int .i64 ((xeU a b).getD 0)))
theorem xA8:OcOk Tryz.prog ITryz 113 (xsq):=xaL fun f h g=>by
 obtain ⟨a,⟨b,⟨_,_⟩⟩⟩:=f
 obtain ⟨c,e⟩:=Prod.mk.inj g
 refine xaI (p:=xgF.pin) (xaK mxTryz (inv0Ok Tryz.prog _) rfl xv0 Tryz.func113 rfl (by kernel_rfl) xuc ((xA9 _ _ _ (xab (d:=0) c)).trans ?_))
 exact congrArg some e
def xPd:Env:=xLH.with 113 xsq
theorem xLX:OrcOk Tryz.prog ITryz xPd:=xF4.with xA8
def xkj:Env:=xPd.fn 8 0 (lsOf []) (lpsOf [])
theorem xCj:OrcOk Tryz.prog (ITryz.at 0) xkj:=xLX.fn
theorem xAf:LoOk Tryz.prog (ITryz.at xkj.pin) xkj (Tryz.f88.body.getD .skip):=xaq (by kernel_rfl)
def xn0 {T:Type} (a b:LA) (δ:T) (κ:Int→T):T:=br ((xeU a b).isSome) (κ ((xeU a b).getD 0)) δ
def xeW (a b:LA):Option (Int):=xn0 a b none some
theorem xIN (a b:LA):Enc (fun (p:Int)=>((AV.int .i64 p):AV)) (xeW a b) (XF Tryz.prog xkj Tryz.f88 (Tryz.f88.body.getD .skip) [AV.list 3 a,AV.list 3 b]):=by
 refine eV (xn0 a b none (fun (p:Int)=>some ((AV.int .i64 p):AV))) (by kernel_rfl) ?_;unfold xeW xn0;repeat' first|exact eN|exact eS rfl|apply eB
def xw9:LA→Option (Bool×AV):=ocOf (sCons (sList 3 pAny) (sCons (sList 3 pAny) sNil)) fun (a,(b,_))=>((xeW a b).isSome,(AV.int .i64 ((xeW a b).getD 0)))
theorem xIM:OcOk Tryz.prog ITryz 88 (xw9):=xaL fun f h g=>by
 obtain ⟨a,⟨b,_⟩⟩:=f
 obtain ⟨c,e⟩:=Prod.mk.inj g
 refine xaI (p:=xkj.pin) (xaK mxTryz (inv0Ok Tryz.prog _) rfl xCj Tryz.func88 rfl (by kernel_rfl) xAf ((xIN _ _ _ (xab (d:=0) c)).trans ?_))
 exact congrArg some e
def xPe:Env:=xPd.with 88 xw9
theorem xLY:OrcOk Tryz.prog ITryz xPe:=xLX.with xIM
def xjg:Env:=xPe.fn 10 0 (lsOf []) (lpsOf [])
theorem xAw:OrcOk Tryz.prog (ITryz.at 0) xjg:=xLY.fn
theorem xyo:LoOk Tryz.prog (ITryz.at xjg.pin) xjg (Tryz.f93.body.getD .skip):=xaq (by kernel_rfl)
def xmZ {T:Type} (a c b d:LA) (δ:T) (κ:Int→T):T:=br ((xeW a b).isSome) (κ ((xeW a b).getD 0)) δ
def xcQ (c a d b:LA):Option (Int):=xmZ c a d b none some
theorem xGd (c a d b:LA):Enc (fun (p:Int)=>((AV.int .i64 p):AV)) (xcQ c a d b) (XF Tryz.prog xjg Tryz.f93 (Tryz.f93.body.getD .skip) [AV.agg [AV.list 3 c,AV.list 2 a],AV.agg [AV.list 3 d,AV.list 2 b]]):=by
 refine eV (xmZ c a d b none (fun (p:Int)=>some ((AV.int .i64 p):AV))) (by kernel_rfl) ?_;unfold xcQ xmZ;repeat' first|exact eN|exact eS rfl|apply eB
def xvz:LA→Option (Bool×AV):=ocOf (sCons (sAgg (sCons (sList 3 pAny) (sCons (sList 2 pAny) sNil))) (sCons (sAgg (sCons (sList 3 pAny) (sCons (sList 2 pAny) sNil))) sNil)) fun ((c,(a,_)),((d,(b,_)),_))=>((xcQ c a d b).isSome,(AV.int .i64 ((xcQ c a d b).getD 0)))
theorem xGc:OcOk Tryz.prog ITryz 93 (xvz):=xaL fun c j e=>by
 obtain ⟨⟨h,⟨f,_⟩⟩,⟨⟨i,⟨g,_⟩⟩,_⟩⟩:=c
 obtain ⟨a,b⟩:=Prod.mk.inj e
 refine xaI (p:=xjg.pin) (xaK mxTryz (inv0Ok Tryz.prog _) rfl xAw Tryz.func93 rfl (by kernel_rfl) xyo ((xGd _ _ _ _ _ (xab (d:=0) a)).trans ?_))
 exact congrArg some b
def xTe:Env:=xPe.with 93 xvz
theorem xR7:OrcOk Tryz.prog ITryz xTe:=xLY.with xGc
abbrev xTf:Env:=xTe
theorem xR8:OrcOk Tryz.prog ITryz xTf:=xR7
abbrev EK3:Env:=xTf
theorem xGZ:OrcOk Tryz.prog ITryz EK3:=xR8
end Go.Sim.M
end
noncomputable section
set_option maxRecDepth 100000
namespace Go.Sim.M
open Go.IntKind (i64 u64 u8)
open Go.RowKit Go.Proofs
def xbK:Env:=EK3.fn 53 1 (lsOf [83]) (lpsOf [])
theorem xpy:OrcOk Tryz.prog (ITryz.at 1) xbK:=xGZ.fn
theorem xnd:LoOk Tryz.prog (ITryz.at xbK.pin) xbK (loopAt Tryz.f141 1):=xaq (by kernel_rfl)
def xe7 (a:Nat) (j:Int):=decide (0≤i64.wrap (j - 1))&&decide (i64.wrap (j - 1)<(↑a:Int))
def xdm (j:Int):Nat:=0+(i64.wrap (j - 1)).toNat
def xe8 (a:Nat) (j:Int):=decide (0≤j)&&decide (j<(↑a:Int))
def xi3 (j:Int) (a:LA):=decide (0+j.toNat<a.length)
def xi1 (j:Int) (a:LA):=xi3 j a&&((a.getD (0+j.toNat) .top).cells.length==2&&hasShs [Sh.list 3,Sh.list 2] (a.getD (0+j.toNat) .top).cells 0)
def xbs (j:Int) (a:LA):=(a.getD (xdm j) .top).cells
def xix (j:Int) (a:LA):=decide (xdm j<a.length)&&((xbs j a).length==2&&hasShs [Sh.list 3,Sh.list 2] (xbs j a) 0)
def xi0 (j:Int) (a:LA):=xcQ ((a.getD (0+j.toNat) .top).cells.getD 0 .top).toList ((a.getD (0+j.toNat) .top).cells.getD 1 .top).toList ((xbs j a).getD 0 .top).toList ((xbs j a).getD 1 .top).toList
def xi2 (j:Int) (a:LA):=a.set (0+j.toNat) (AV.agg [AV.list 3 ((xbs j a).getD 0 .top).toList,AV.list 2 ((xbs j a).getD 1 .top).toList])
def xfm {T:Type} (d:Nat) (a b i j:Int) (c:LA) (δ:T) (κl:(Int×LA)→T) (κr:(LA)→T):T:=br (decide (j>a)) (br (xe8 d j) (br (xi1 j c) (br (xe7 d j) (br (xix j c) (br ((xi0 j c).isSome) (br (decide ((xi0 j c).getD 0<0)) (br (xe7 d j) (br (xix j c) (br (xe8 d j) (br (xi1 j c) (br (xe8 d j) (br (xi3 j c) (br (xe7 d j) (br (decide (xdm j<(xi2 j c).length)) (κl (i64.wrap (j - 1),(xi2 j c).set (xdm j) (AV.agg [AV.list 3 ((c.getD (0+j.toNat) .top).cells.getD 0 .top).toList,AV.list 2 ((c.getD (0+j.toNat) .top).cells.getD 1 .top).toList]))) δ) δ) δ) δ) δ) δ) δ) δ) (κr (c))) δ) δ) δ) δ) δ) (κr (c))
def xa3 (d:Nat) (a b i:Int):(Int×LA)→Option ((Int×LA)⊕(LA)):=fun (j,c)=>xfm d a b i j c none (fun s=>some (.inl s)) (fun p=>some (.inr p))
def xbE (d:Nat) (a b i:Int):(Int×LA)→LA×List Box:=fun (j,c)=>([AV.osl 0 0 0 d,AV.int .i64 a,AV.int .i64 b,AV.func 93 [],AV.int .i64 i,AV.int .i64 j],[⟨0,2,83,c,false,true⟩])
def xbp (c:Nat) (a b i:Int):(LA)→LR:=fun p=>(.leaf (.exit 2) [AV.osl 0 0 0 c,AV.int .i64 a,AV.int .i64 b,AV.func 93 [],AV.int .i64 i] [⟨0,2,83,p,false,true⟩])
abbrev xpX (a:LA) (H:List Box):=XR Tryz.prog xbK [0,1,2,3,8,9] [0,1,2,3,8] [] (loopAt Tryz.f141 1) a H
theorem xpY (c:Nat) (a b i:Int) (s:Int×LA):Enc (encR (xbE c a b i) (xbp c a b i)) (xa3 c a b i s) (xpX (xbE c a b i s).1 (xbE c a b i s).2):=by
 obtain ⟨j,d⟩:=s
 refine eV (xfm c a b i j d none (fun s=>some (encR (xbE c a b i) (xbp c a b i) (.inl s))) (fun p=>some (encR (xbE c a b i) (xbp c a b i) (.inr p)))) (by kernel_rfl) ?_;unfold xa3 xfm;repeat' first|exact eN|exact eS rfl|apply eB
def xe6:Lp:=lpOf [0,1,2,3,8,9] [0,1,2,3,8] [] (pCons (pOsl 0 0 0) (pCons (pInt .i64) (pCons (pInt .i64) (pCons (pFunc 93 pNil) (pCons (pInt .i64) (pCons (pInt .i64) pNil)))))) (pCons (pBox 0 2 83 false true pAny) pNil) fun (c,(a,(b,(_,(i,(j,_)))))) (d,_)=>((Iter (xa3 c a b i) (j,d)).isSome,xbp c a b i ((Iter (xa3 c a b i) (j,d)).getD []))
theorem xip:LoopOk Tryz.prog (ITryz.at xbK.pin) xbK.nt (loopAt Tryz.f141 1) xe6:=xaP fun f g k h=>by
 obtain ⟨c,⟨a,⟨b,⟨_,⟨i,⟨j,_⟩⟩⟩⟩⟩⟩:=f
 obtain ⟨d,_⟩:=g
 obtain ⟨e,rfl⟩:=Prod.mk.inj h
 exact xar mxTryz (inv0Ok Tryz.prog _) rfl xpy xnd (xbE c a b i) (xbp c a b i) (fun p=>by simp only [xbp,LR.eval];first|(simp;done)|(repeat' split<;>simp)) (xpY c a b i) (s:=(j,d)) (xab e)
def xbL:Env:=EK3.fn 53 1 (lsOf [83]) (lpsOf [(4,xe6)])
theorem xpz:OrcOk Tryz.prog (ITryz.at 1) xbL:=xGZ.fn
theorem xne:LoOk Tryz.prog (ITryz.at xbL.pin) xbL (loopAt Tryz.f141 0):=xaM (ls:=[loopAt Tryz.f141 1]) (by kernel_rfl) (lkC xip lkN)
def xfl {T:Type} (d:Nat) (a b i:Int) (c:LA) (δ:T) (κl:(Int×LA)→T) (κr:(LA)→T):T:=br (decide (i<b)) (br ((Iter (xa3 d a b i) (i,c)).isSome) (κl (i64.wrap (i+1),(Iter (xa3 d a b i) (i,c)).getD [])) δ) (κr (c))
def xa2 (d:Nat) (a b:Int):(Int×LA)→Option ((Int×LA)⊕(LA)):=fun (i,c)=>xfl d a b i c none (fun s=>some (.inl s)) (fun p=>some (.inr p))
def xbD (d:Nat) (a b:Int):(Int×LA)→LA×List Box:=fun (i,c)=>([AV.osl 0 0 0 d,AV.int .i64 a,AV.int .i64 b,AV.func 93 [],AV.int .i64 i],[⟨0,2,83,c,false,true⟩])
def xbo (c:Nat) (a b:Int):(LA)→LR:=fun p=>(.leaf (.exit 0) [] [⟨0,2,83,p,false,true⟩])
abbrev xpV (a:LA) (H:List Box):=XR Tryz.prog xbL [0,1,2,3,8] [] [] (loopAt Tryz.f141 0) a H
theorem xpW (c:Nat) (a b:Int) (s:Int×LA):Enc (encR (xbD c a b) (xbo c a b)) (xa2 c a b s) (xpV (xbD c a b s).1 (xbD c a b s).2):=by
 obtain ⟨i,d⟩:=s
 refine eV (xfl c a b i d none (fun s=>some (encR (xbD c a b) (xbo c a b) (.inl s))) (fun p=>some (encR (xbD c a b) (xbo c a b) (.inr p)))) (by kernel_rfl) ?_;unfold xa2 xfl;repeat' first|exact eN|exact eS rfl|apply eB
def xiZ:Lp:=lpOf [0,1,2,3,8] [] [] (pCons (pOsl 0 0 0) (pCons (pInt .i64) (pCons (pInt .i64) (pCons (pFunc 93 pNil) (pCons (pInt .i64) pNil))))) (pCons (pBox 0 2 83 false true pAny) pNil) fun (c,(a,(b,(_,(i,_))))) (d,_)=>((Iter (xa2 c a b) (i,d)).isSome,xbo c a b ((Iter (xa2 c a b) (i,d)).getD []))
theorem xoM:LoopOk Tryz.prog (ITryz.at xbL.pin) xbL.nt (loopAt Tryz.f141 0) xiZ:=xaP fun f g j h=>by
 obtain ⟨c,⟨a,⟨b,⟨_,⟨i,_⟩⟩⟩⟩⟩:=f
 obtain ⟨d,_⟩:=g
 obtain ⟨e,rfl⟩:=Prod.mk.inj h
 exact xar mxTryz (inv0Ok Tryz.prog _) rfl xpz xne (xbD c a b) (xbo c a b) (fun p=>by simp only [xbo,LR.eval];first|(simp;done)|(repeat' split<;>simp)) (xpW c a b) (s:=(i,d)) (xab e)
def xcS:Env:=EK3.fn 53 1 (lsOf [83]) (lpsOf [(4,xe6),(1,xiZ)])
theorem xpA:OrcOk Tryz.prog (ITryz.at 1) xcS:=xGZ.fn
theorem xnS:LoOk Tryz.prog (ITryz.at xcS.pin) xcS (Tryz.f141.body.getD .skip):=xaM (ls:=[loopAt Tryz.f141 0,loopAt Tryz.f141 1]) (by kernel_rfl) (lkC xoM (lkC xip lkN))
def xd3 {T:Type} (n:Nat) (a b:Int) (c:LA) (δ:T) (κ:LA→T):T:=br ((Iter (xa2 n a b) (i64.wrap (a+1),c)).isSome) (κ ((Iter (xa2 n a b) (i64.wrap (a+1),c)).getD [])) δ
def xaY (n:Nat) (a b:Int) (c:LA):Option (LA):=xd3 n a b c none some
theorem xrp (n:Nat) (a b:Int) (xs:LA):Enc (fun (p:LA)=>(((AV.tuple [],([⟨0,2,83,p,false,true⟩]:List Box))):(AV×List Box))) (xaY n a b xs) (XFM Tryz.prog xcS Tryz.f141 (Tryz.f141.body.getD .skip) [AV.osl (0:Id) 0 0 n,AV.int .i64 a,AV.int .i64 b,AV.func (93:FuncId) []] [{ ver:=0,sz:=2,ty:=(83:TypeId),xs:=xs,frz:=false,pm:=true }]):=by
 refine eV (xd3 n a b xs none (fun (p:LA)=>some (((AV.tuple [],([⟨0,2,83,p,false,true⟩]:List Box))):(AV×List Box)))) (by kernel_rfl) ?_;unfold xaY xd3;repeat' first|exact eN|exact eS rfl|apply eB
def xko:LA→List Box→Option (Bool×AV×List Box):=omOf (sCons (sEq (pOsl 0 0 0)) (sCons (sEq (pInt .i64)) (sCons (sEq (pInt .i64)) (sCons (sEq (pFunc (93:FuncId) pNil)) sNil)))) (pCons (pBox 0 2 (83:TypeId) false true pAny) pNil) fun (n,(a,(b,(_,_)))) (c,_)=>((xaY n a b c).isSome,((AV.tuple [],([⟨0,2,83,((xaY n a b c).getD []),false,true⟩]:List Box))))
theorem xro:OmOk Tryz.prog ITryz 141 (xko):=xfA fun f g j i h=>by
 obtain ⟨n,⟨a,⟨b,⟨_,_⟩⟩⟩⟩:=f
 obtain ⟨k,_⟩:=g
 obtain ⟨c,e⟩:=Prod.mk.inj h
 refine xdr (p:=xcS.pin) (xdI mxTryz (inv0Ok Tryz.prog _) rfl xpA rfl Tryz.func141 rfl (by kernel_rfl) xnS ((xrp _ _ _ _ _ (xab (d:=[]) c)).trans ?_))
 exact congrArg some e
def xLI:Env:=EK3.withM 141 xko
theorem xF5:OrcOk Tryz.prog ITryz xLI:=xGZ.withM xro
def xcR:Env:=xLI.fn 38 1 (lsOf [83]) (lpsOf [])
theorem xrs:OrcOk Tryz.prog (ITryz.at 1) xcR:=xF5.fn
theorem xoP:LoOk Tryz.prog (ITryz.at xcR.pin) xcR (loopAt Tryz.f182 0):=xaq (by kernel_rfl)
def xkr (a i:Int) (b:LA):=decide (0+(i64.wrap (a+i)).toNat<b.length)
def xd4 (a i:Int) (b:LA):=(b.getD (0+(i64.wrap (a+i)).toNat) .top).cells
def xks (a:Nat) (b i:Int):=decide (0≤i64.wrap (b+i))&&decide (i64.wrap (b+i)<(↑a:Int))
def xkt (b:Nat) (a i:Int):=decide (0≤i64.wrap (a+i))&&decide (i64.wrap (a+i)<(↑b:Int))
def xd6 (b i:Int):Nat:=0+(i64.wrap (b+i)).toNat
def xd5 (b i:Int) (a:LA):=(a.getD (xd6 b i) .top).cells
def xkq (a b i:Int) (c:LA):=c.set (0+(i64.wrap (a+i)).toNat) (AV.agg [AV.list 3 ((xd5 b i c).getD 0 .top).toList,AV.list 2 ((xd5 b i c).getD 1 .top).toList])
def xgY {T:Type} (d:Nat) (a b n i:Int) (c:LA) (δ:T) (κl:(Int×LA)→T) (κr:(LA)→T):T:=br (decide (i<n)) (br (xks d b i) (br (decide (xd6 b i<c.length)&&((xd5 b i c).length==2&&hasShs [Sh.list 3,Sh.list 2] (xd5 b i c) 0)) (br (xkt d a i) (br (xkr a i c&&((xd4 a i c).length==2&&hasShs [Sh.list 3,Sh.list 2] (xd4 a i c) 0)) (br (xkt d a i) (br (xkr a i c) (br (xks d b i) (br (decide (xd6 b i<(xkq a b i c).length)) (κl (i64.wrap (i+1),(xkq a b i c).set (xd6 b i) (AV.agg [AV.list 3 ((xd4 a i c).getD 0 .top).toList,AV.list 2 ((xd4 a i c).getD 1 .top).toList]))) δ) δ) δ) δ) δ) δ) δ) δ) (κr (c))
def xbf (d:Nat) (a b n:Int):(Int×LA)→Option ((Int×LA)⊕(LA)):=fun (i,c)=>xgY d a b n i c none (fun s=>some (.inl s)) (fun p=>some (.inr p))
def xch (d:Nat) (a b n:Int):(Int×LA)→LA×List Box:=fun (i,c)=>([AV.osl 0 0 0 d,AV.int .i64 a,AV.int .i64 b,AV.int .i64 n,AV.int .i64 i],[⟨0,2,83,c,false,true⟩])
def xbM (c:Nat) (a b n:Int):(LA)→LR:=fun p=>(.leaf (.exit 0) [] [⟨0,2,83,p,false,true⟩])
abbrev xsr (a:LA) (H:List Box):=XR Tryz.prog xcR [0,1,2,3,10] [] [] (loopAt Tryz.f182 0) a H
theorem xss (c:Nat) (a b n:Int) (s:Int×LA):Enc (encR (xch c a b n) (xbM c a b n)) (xbf c a b n s) (xsr (xch c a b n s).1 (xch c a b n s).2):=by
 obtain ⟨i,d⟩:=s
 refine eV (xgY c a b n i d none (fun s=>some (encR (xch c a b n) (xbM c a b n) (.inl s))) (fun p=>some (encR (xch c a b n) (xbM c a b n) (.inr p)))) (by kernel_rfl) ?_;unfold xbf xgY;repeat' first|exact eN|exact eS rfl|apply eB
def xkp:Lp:=lpOf [0,1,2,3,10] [] [] (pCons (pOsl 0 0 0) (pCons (pInt .i64) (pCons (pInt .i64) (pCons (pInt .i64) (pCons (pInt .i64) pNil))))) (pCons (pBox 0 2 83 false true pAny) pNil) fun (c,(a,(b,(n,(i,_))))) (d,_)=>((Iter (xbf c a b n) (i,d)).isSome,xbM c a b n ((Iter (xbf c a b n) (i,d)).getD []))
theorem xq0:LoopOk Tryz.prog (ITryz.at xcR.pin) xcR.nt (loopAt Tryz.f182 0) xkp:=xaP fun f g j h=>by
 obtain ⟨c,⟨a,⟨b,⟨n,⟨i,_⟩⟩⟩⟩⟩:=f
 obtain ⟨d,_⟩:=g
 obtain ⟨e,rfl⟩:=Prod.mk.inj h
 exact xar mxTryz (inv0Ok Tryz.prog _) rfl xrs xoP (xch c a b n) (xbM c a b n) (fun p=>by simp only [xbM,LR.eval];first|(simp;done)|(repeat' split<;>simp)) (xss c a b n) (s:=(i,d)) (xab e)
def xdC:Env:=xLI.fn 38 1 (lsOf [83]) (lpsOf [(1,xkp)])
theorem xrt:OrcOk Tryz.prog (ITryz.at 1) xdC:=xF5.fn
theorem xpZ:LoOk Tryz.prog (ITryz.at xdC.pin) xdC (Tryz.f182.body.getD .skip):=xaM (ls:=[loopAt Tryz.f182 0]) (by kernel_rfl) (lkC xq0 lkN)
def xfo {T:Type} (n:Nat) (a b k:Int) (c:LA) (δ:T) (κ:LA→T):T:=br ((Iter (xbf n a b k) (0,c)).isSome) (κ ((Iter (xbf n a b k) (0,c)).getD [])) δ
def xaW (n:Nat) (a b k:Int) (c:LA):Option (LA):=xfo n a b k c none some
theorem xuo (n:Nat) (a b k:Int) (xs:LA):Enc (fun (p:LA)=>(((AV.tuple [],([⟨0,2,83,p,false,true⟩]:List Box))):(AV×List Box))) (xaW n a b k xs) (XFM Tryz.prog xdC Tryz.f182 (Tryz.f182.body.getD .skip) [AV.osl (0:Id) 0 0 n,AV.int .i64 a,AV.int .i64 b,AV.int .i64 k,AV.func (93:FuncId) []] [{ ver:=0,sz:=2,ty:=(83:TypeId),xs:=xs,frz:=false,pm:=true }]):=by
 refine eV (xfo n a b k xs none (fun (p:LA)=>some (((AV.tuple [],([⟨0,2,83,p,false,true⟩]:List Box))):(AV×List Box)))) (by kernel_rfl) ?_;unfold xaW xfo;repeat' first|exact eN|exact eS rfl|apply eB
def xmX:LA→List Box→Option (Bool×AV×List Box):=omOf (sCons (sEq (pOsl 0 0 0)) (sCons (sEq (pInt .i64)) (sCons (sEq (pInt .i64)) (sCons (sEq (pInt .i64)) (sCons (sEq (pFunc (93:FuncId) pNil)) sNil))))) (pCons (pBox 0 2 (83:TypeId) false true pAny) pNil) fun (n,(a,(b,(k,(_,_))))) (c,_)=>((xaW n a b k c).isSome,((AV.tuple [],([⟨0,2,83,((xaW n a b k c).getD []),false,true⟩]:List Box))))
theorem xun:OmOk Tryz.prog ITryz 182 (xmX):=xfA fun f g j i h=>by
 obtain ⟨n,⟨a,⟨b,⟨k,⟨_,_⟩⟩⟩⟩⟩:=f
 obtain ⟨l,_⟩:=g
 obtain ⟨c,e⟩:=Prod.mk.inj h
 refine xdr (p:=xdC.pin) (xdI mxTryz (inv0Ok Tryz.prog _) rfl xrt rfl Tryz.func182 rfl (by kernel_rfl) xpZ ((xuo _ _ _ _ _ _ (xab (d:=[]) c)).trans ?_))
 exact congrArg some e
def xLJ:Env:=xLI.withM 182 xmX
theorem xF6:OrcOk Tryz.prog ITryz xLJ:=xF5.withM xun
def xdn:Env:=xLJ.fn 58 1 (lsOf [83]) (lpsOf [])
theorem xtu:OrcOk Tryz.prog (ITryz.at 1) xdn:=xF6.fn
theorem xqf:LoOk Tryz.prog (ITryz.at xdn.pin) xdn (loopAt Tryz.f162 0):=xaq (by kernel_rfl)
def xiq {T:Type} (b:Nat) (m i j:Int) (a:LA) (δ:T) (κl:(Int×Int×LA)→T) (κr:(Int×LA)→T):T:=br (i != j) (br (decide (i>j)) (br ((xaW b (i64.wrap (m - i)) m j a).isSome) (κl (i64.wrap (i - j),j,(xaW b (i64.wrap (m - i)) m j a).getD [])) δ) (br ((xaW b (i64.wrap (m - i)) (i64.wrap (i64.wrap (m+j) - i)) i a).isSome) (κl (i,i64.wrap (j - i),(xaW b (i64.wrap (m - i)) (i64.wrap (i64.wrap (m+j) - i)) i a).getD [])) δ)) (κr (i,a))
def xcg (b:Nat) (m:Int):(Int×Int×LA)→Option ((Int×Int×LA)⊕(Int×LA)):=fun (i,j,a)=>xiq b m i j a none (fun s=>some (.inl s)) (fun p=>some (.inr p))
def xcV (b:Nat) (m:Int):(Int×Int×LA)→LA×List Box:=fun (i,j,a)=>([AV.osl 0 0 0 b,AV.int .i64 m,AV.func 93 [],AV.int .i64 i,AV.int .i64 j],[⟨0,2,83,a,false,true⟩])
def xcs (a:Nat) (m:Int):(Int×LA)→LR:=fun p=>(.leaf (.exit 0) [AV.osl 0 0 0 a,AV.int .i64 m,AV.func 93 [],AV.int .i64 p.1] [⟨0,2,83,p.2,false,true⟩])
abbrev xuf (a:LA) (H:List Box):=XR Tryz.prog xdn [0,2,4,10,11] [0,2,4,10] [] (loopAt Tryz.f162 0) a H
theorem xug (a:Nat) (m:Int) (s:Int×Int×LA):Enc (encR (xcV a m) (xcs a m)) (xcg a m s) (xuf (xcV a m s).1 (xcV a m s).2):=by
 obtain ⟨i,j,b⟩:=s
 refine eV (xiq a m i j b none (fun s=>some (encR (xcV a m) (xcs a m) (.inl s))) (fun p=>some (encR (xcV a m) (xcs a m) (.inr p)))) (by kernel_rfl) ?_;unfold xcg xiq;repeat' first|exact eN|exact eS rfl|apply eB
def xmE:Lp:=lpOf [0,2,4,10,11] [0,2,4,10] [] (pCons (pOsl 0 0 0) (pCons (pInt .i64) (pCons (pFunc 93 pNil) (pCons (pInt .i64) (pCons (pInt .i64) pNil))))) (pCons (pBox 0 2 83 false true pAny) pNil) fun (a,(m,(_,(i,(j,_))))) (b,_)=>((Iter (xcg a m) (i,j,b)).isSome,xcs a m ((Iter (xcg a m) (i,j,b)).getD (0,[])))
theorem xsR:LoopOk Tryz.prog (ITryz.at xdn.pin) xdn.nt (loopAt Tryz.f162 0) xmE:=xaP fun d e g f=>by
 obtain ⟨a,⟨m,⟨_,⟨i,⟨j,_⟩⟩⟩⟩⟩:=d
 obtain ⟨b,_⟩:=e
 obtain ⟨c,rfl⟩:=Prod.mk.inj f
 exact xar mxTryz (inv0Ok Tryz.prog _) rfl xtu xqf (xcV a m) (xcs a m) (fun p=>by simp only [xcs,LR.eval];first|(simp;done)|(repeat' split<;>simp)) (xug a m) (s:=(i,j,b)) (xab c)
def xeh:Env:=xLJ.fn 58 1 (lsOf [83]) (lpsOf [(2,xmE)])
theorem xtv:OrcOk Tryz.prog (ITryz.at 1) xeh:=xF6.fn
theorem xrq:LoOk Tryz.prog (ITryz.at xeh.pin) xeh (Tryz.f162.body.getD .skip):=xaM (ls:=[loopAt Tryz.f162 0]) (by kernel_rfl) (lkC xsR lkN)
def xjL (n:Nat) (a m b:Int) (c:LA):=Iter (xcg n m) (i64.wrap (m - a),i64.wrap (b - m),c)
def xjK (n:Nat) (a m b:Int) (c:LA):=(xjL n a m b c).getD (0,[])
def xjJ (n:Nat) (a m b:Int) (c:LA):=(xjK n a m b c).fst
def xjI (n:Nat) (a m b:Int) (c:LA):=xaW n (i64.wrap (m - xjJ n a m b c)) m (xjJ n a m b c) (xjK n a m b c).snd
def xgW {T:Type} (n:Nat) (a m b:Int) (c:LA) (δ:T) (κ:LA→T):T:=br ((xjL n a m b c).isSome) (br ((xjI n a m b c).isSome) (κ ((xjI n a m b c).getD [])) δ) δ
def xbe (n:Nat) (a m b:Int) (c:LA):Option (LA):=xgW n a m b c none some
theorem xv4 (n:Nat) (a m b:Int) (xs:LA):Enc (fun (p:LA)=>(((AV.tuple [],([⟨0,2,83,p,false,true⟩]:List Box))):(AV×List Box))) (xbe n a m b xs) (XFM Tryz.prog xeh Tryz.f162 (Tryz.f162.body.getD .skip) [AV.osl (0:Id) 0 0 n,AV.int .i64 a,AV.int .i64 m,AV.int .i64 b,AV.func (93:FuncId) []] [{ ver:=0,sz:=2,ty:=(83:TypeId),xs:=xs,frz:=false,pm:=true }]):=by
 refine eV (xgW n a m b xs none (fun (p:LA)=>some (((AV.tuple [],([⟨0,2,83,p,false,true⟩]:List Box))):(AV×List Box)))) (by kernel_rfl) ?_;unfold xbe xgW;repeat' first|exact eN|exact eS rfl|apply eB
def xoN:LA→List Box→Option (Bool×AV×List Box):=omOf (sCons (sEq (pOsl 0 0 0)) (sCons (sEq (pInt .i64)) (sCons (sEq (pInt .i64)) (sCons (sEq (pInt .i64)) (sCons (sEq (pFunc (93:FuncId) pNil)) sNil))))) (pCons (pBox 0 2 (83:TypeId) false true pAny) pNil) fun (n,(a,(m,(b,(_,_))))) (c,_)=>((xbe n a m b c).isSome,((AV.tuple [],([⟨0,2,83,((xbe n a m b c).getD []),false,true⟩]:List Box))))
theorem xv3:OmOk Tryz.prog ITryz 162 (xoN):=xfA fun f g j i h=>by
 obtain ⟨n,⟨a,⟨m,⟨b,⟨_,_⟩⟩⟩⟩⟩:=f
 obtain ⟨k,_⟩:=g
 obtain ⟨c,e⟩:=Prod.mk.inj h
 refine xdr (p:=xeh.pin) (xdI mxTryz (inv0Ok Tryz.prog _) rfl xtv rfl Tryz.func162 rfl (by kernel_rfl) xrq ((xv4 _ _ _ _ _ _ (xab (d:=[]) c)).trans ?_))
 exact congrArg some e
def xwt:Env:=xLJ.withM 162 xoN
theorem xqI:OrcOk Tryz.prog ITryz xwt:=xF6.withM xv3
def xcx:Env:=xwt.fn 220 1 (lsOf [83]) (lpsOf [])
theorem xst:OrcOk Tryz.prog (ITryz.at 1) xcx:=xqI.fn
theorem xpB:LoOk Tryz.prog (ITryz.at xcx.pin) xcx (loopAt Tryz.f142 0):=xaq (by kernel_rfl)
def xci (i j:Int):=i64.wrap ((u64.wrap (i64.wrap (i+j))).fdiv 2)
def xej (i j:Int) (a:LA):=(a.getD (0+(xci i j).toNat) .top).cells
def xlr (a i j:Int) (b:LA):=xcQ ((xej i j b).getD 0 .top).toList ((xej i j b).getD 1 .top).toList ((b.getD (0+a.toNat) .top).cells.getD 0 .top).toList ((b.getD (0+a.toNat) .top).cells.getD 1 .top).toList
def xhF {T:Type} (c:Nat) (a i j:Int) (b:LA) (δ:T) (κl:(Int×Int×LA)→T) (κr:(Int×LA)→T):T:=br (decide (i<j)) (br (decide (0≤xci i j)&&decide (xci i j<(↑c:Int))) (br (decide (0+(xci i j).toNat<b.length)&&((xej i j b).length==2&&hasShs [Sh.list 3,Sh.list 2] (xej i j b) 0)) (br (decide (0≤a)&&decide (a<(↑c:Int))) (br (decide (0+a.toNat<b.length)&&((b.getD (0+a.toNat) .top).cells.length==2&&hasShs [Sh.list 3,Sh.list 2] (b.getD (0+a.toNat) .top).cells 0)) (br ((xlr a i j b).isSome) (br (decide ((xlr a i j b).getD 0<0)) (κl (i64.wrap (xci i j+1),j,b)) (κl (i,xci i j,b))) δ) δ) δ) δ) δ) (κr (i,b))
def xa5 (c:Nat) (a:Int):(Int×Int×LA)→Option ((Int×Int×LA)⊕(Int×LA)):=fun (i,j,b)=>xhF c a i j b none (fun s=>some (.inl s)) (fun p=>some (.inr p))
def xcw (c:Nat) (a:Int):(Int×Int×LA)→LA×List Box:=fun (i,j,b)=>([AV.osl 0 0 0 c,AV.int .i64 a,AV.func 93 [],AV.int .i64 i,AV.int .i64 j],[⟨0,2,83,b,false,true⟩])
def xbZ (b:Nat) (a:Int):(Int×LA)→LR:=fun p=>(.leaf (.exit 0) [AV.osl 0 0 0 b,AV.int .i64 a,AV.int .i64 p.1] [⟨0,2,83,p.2,false,true⟩])
abbrev xsU (a:LA) (H:List Box):=XR Tryz.prog xcx [0,1,4,10,11] [0,1,10] [] (loopAt Tryz.f142 0) a H
theorem xsV (b:Nat) (a:Int) (s:Int×Int×LA):Enc (encR (xcw b a) (xbZ b a)) (xa5 b a s) (xsU (xcw b a s).1 (xcw b a s).2):=by
 obtain ⟨i,j,c⟩:=s
 refine eV (xhF b a i j c none (fun s=>some (encR (xcw b a) (xbZ b a) (.inl s))) (fun p=>some (encR (xcw b a) (xbZ b a) (.inr p)))) (by kernel_rfl) ?_;unfold xa5 xhF;repeat' first|exact eN|exact eS rfl|apply eB
def xbB:Lp:=lpOf [0,1,4,10,11] [0,1,10] [] (pCons (pOsl 0 0 0) (pCons (pInt .i64) (pCons (pFunc 93 pNil) (pCons (pInt .i64) (pCons (pInt .i64) pNil))))) (pCons (pBox 0 2 83 false true pAny) pNil) fun (b,(a,(_,(i,(j,_))))) (c,_)=>((Iter (xa5 b a) (i,j,c)).isSome,xbZ b a ((Iter (xa5 b a) (i,j,c)).getD (0,[])))
theorem xru:LoopOk Tryz.prog (ITryz.at xcx.pin) xcx.nt (loopAt Tryz.f142 0) xbB:=xaP fun e f h g=>by
 obtain ⟨b,⟨a,⟨_,⟨i,⟨j,_⟩⟩⟩⟩⟩:=e
 obtain ⟨c,_⟩:=f
 obtain ⟨d,rfl⟩:=Prod.mk.inj g
 exact xar mxTryz (inv0Ok Tryz.prog _) rfl xst xpB (xcw b a) (xbZ b a) (fun p=>by simp only [xbZ,LR.eval];first|(simp;done)|(repeat' split<;>simp)) (xsV b a) (s:=(i,j,c)) (xab d)
def xc0:Env:=xwt.fn 220 1 (lsOf [83]) (lpsOf [(3,xbB)])
theorem xsu:OrcOk Tryz.prog (ITryz.at 1) xc0:=xqI.fn
theorem xpC:LoOk Tryz.prog (ITryz.at xc0.pin) xc0 (loopAt Tryz.f142 1):=xaq (by kernel_rfl)
def xlt (a:Nat) (k:Int):=decide (0≤i64.wrap (k+1))&&decide (i64.wrap (k+1)<(↑a:Int))
def xel (k:Int):Nat:=0+(i64.wrap (k+1)).toNat
def xlu (k:Int) (a:LA):=decide (0+k.toNat<a.length)
def xek (k:Int) (a:LA):=(a.getD (xel k) .top).cells
def xls (k:Int) (a:LA):=a.set (0+k.toNat) (AV.agg [AV.list 3 ((xek k a).getD 0 .top).toList,AV.list 2 ((xek k a).getD 1 .top).toList])
def xhG {T:Type} (b:Nat) (i k:Int) (a:LA) (δ:T) (κl:(Int×LA)→T) (κr:(LA)→T):T:=br (decide (k<i64.wrap (i - 1))) (br (xlt b k) (br (decide (xel k<a.length)&&((xek k a).length==2&&hasShs [Sh.list 3,Sh.list 2] (xek k a) 0)) (br (decide (0≤k)&&decide (k<(↑b:Int))) (br (xlu k a&&((a.getD (0+k.toNat) .top).cells.length==2&&hasShs [Sh.list 3,Sh.list 2] (a.getD (0+k.toNat) .top).cells 0)) (br (decide (0≤k)&&decide (k<(↑b:Int))) (br (xlu k a) (br (xlt b k) (br (decide (xel k<(xls k a).length)) (κl (i64.wrap (k+1),(xls k a).set (xel k) (AV.agg [AV.list 3 ((a.getD (0+k.toNat) .top).cells.getD 0 .top).toList,AV.list 2 ((a.getD (0+k.toNat) .top).cells.getD 1 .top).toList]))) δ) δ) δ) δ) δ) δ) δ) δ) (κr (a))
def xbN (b:Nat) (i:Int):(Int×LA)→Option ((Int×LA)⊕(LA)):=fun (k,a)=>xhG b i k a none (fun s=>some (.inl s)) (fun p=>some (.inr p))
def xcy (b:Nat) (i:Int):(Int×LA)→LA×List Box:=fun (k,a)=>([AV.osl 0 0 0 b,AV.int .i64 i,AV.int .i64 k],[⟨0,2,83,a,false,true⟩])
def xbx (a:Nat) (i:Int):(LA)→LR:=fun p=>(.leaf (.exit 2) [] [⟨0,2,83,p,false,true⟩])
abbrev xsW (a:LA) (H:List Box):=XR Tryz.prog xc0 [0,10,13] [] [] (loopAt Tryz.f142 1) a H
theorem xsX (a:Nat) (i:Int) (s:Int×LA):Enc (encR (xcy a i) (xbx a i)) (xbN a i s) (xsW (xcy a i s).1 (xcy a i s).2):=by
 obtain ⟨k,b⟩:=s
 refine eV (xhG a i k b none (fun s=>some (encR (xcy a i) (xbx a i) (.inl s))) (fun p=>some (encR (xcy a i) (xbx a i) (.inr p)))) (by kernel_rfl) ?_;unfold xbN xhG;repeat' first|exact eN|exact eS rfl|apply eB
def xcj:Lp:=lpOf [0,10,13] [] [] (pCons (pOsl 0 0 0) (pCons (pInt .i64) (pCons (pInt .i64) pNil))) (pCons (pBox 0 2 83 false true pAny) pNil) fun (a,(i,(k,_))) (b,_)=>((Iter (xbN a i) (k,b)).isSome,xbx a i ((Iter (xbN a i) (k,b)).getD []))
theorem xrv:LoopOk Tryz.prog (ITryz.at xc0.pin) xc0.nt (loopAt Tryz.f142 1) xcj:=xaP fun d e g f=>by
 obtain ⟨a,⟨i,⟨k,_⟩⟩⟩:=d
 obtain ⟨b,_⟩:=e
 obtain ⟨c,rfl⟩:=Prod.mk.inj f
 exact xar mxTryz (inv0Ok Tryz.prog _) rfl xsu xpC (xcy a i) (xbx a i) (fun p=>by simp only [xbx,LR.eval];first|(simp;done)|(repeat' split<;>simp)) (xsX a i) (s:=(k,b)) (xab c)
def xc1:Env:=xwt.fn 220 1 (lsOf [83]) (lpsOf [(3,xbB),(9,xcj)])
theorem xsv:OrcOk Tryz.prog (ITryz.at 1) xc1:=xqI.fn
theorem xpD:LoOk Tryz.prog (ITryz.at xc1.pin) xc1 (loopAt Tryz.f142 2):=xaq (by kernel_rfl)
def xck (i j:Int):=i64.wrap ((u64.wrap (i64.wrap (i+j))).fdiv 2)
def xem (i j:Int) (a:LA):=(a.getD (0+(xck i j).toNat) .top).cells
def xlv (m i j:Int) (a:LA):=xcQ ((a.getD (0+m.toNat) .top).cells.getD 0 .top).toList ((a.getD (0+m.toNat) .top).cells.getD 1 .top).toList ((xem i j a).getD 0 .top).toList ((xem i j a).getD 1 .top).toList
def xhH {T:Type} (b:Nat) (m i j:Int) (a:LA) (δ:T) (κl:(Int×Int×LA)→T) (κr:(Int×LA)→T):T:=br (decide (i<j)) (br (decide (0≤m)&&decide (m<(↑b:Int))) (br (decide (0+m.toNat<a.length)&&((a.getD (0+m.toNat) .top).cells.length==2&&hasShs [Sh.list 3,Sh.list 2] (a.getD (0+m.toNat) .top).cells 0)) (br (decide (0≤xck i j)&&decide (xck i j<(↑b:Int))) (br (decide (0+(xck i j).toNat<a.length)&&((xem i j a).length==2&&hasShs [Sh.list 3,Sh.list 2] (xem i j a) 0)) (br ((xlv m i j a).isSome) (br (!decide ((xlv m i j a).getD 0<0)) (κl (i64.wrap (xck i j+1),j,a)) (κl (i,xck i j,a))) δ) δ) δ) δ) δ) (κr (i,a))
def xa6 (b:Nat) (m:Int):(Int×Int×LA)→Option ((Int×Int×LA)⊕(Int×LA)):=fun (i,j,a)=>xhH b m i j a none (fun s=>some (.inl s)) (fun p=>some (.inr p))
def xcz (b:Nat) (m:Int):(Int×Int×LA)→LA×List Box:=fun (i,j,a)=>([AV.osl 0 0 0 b,AV.int .i64 m,AV.func 93 [],AV.int .i64 i,AV.int .i64 j],[⟨0,2,83,a,false,true⟩])
def xb0 (a:Nat) (m:Int):(Int×LA)→LR:=fun p=>(.leaf (.exit 4) [AV.osl 0 0 0 a,AV.int .i64 m,AV.int .i64 p.1] [⟨0,2,83,p.2,false,true⟩])
abbrev xsY (a:LA) (H:List Box):=XR Tryz.prog xc1 [0,2,4,14,15] [0,2,14] [] (loopAt Tryz.f142 2) a H
theorem xsZ (a:Nat) (m:Int) (s:Int×Int×LA):Enc (encR (xcz a m) (xb0 a m)) (xa6 a m s) (xsY (xcz a m s).1 (xcz a m s).2):=by
 obtain ⟨i,j,b⟩:=s
 refine eV (xhH a m i j b none (fun s=>some (encR (xcz a m) (xb0 a m) (.inl s))) (fun p=>some (encR (xcz a m) (xb0 a m) (.inr p)))) (by kernel_rfl) ?_;unfold xa6 xhH;repeat' first|exact eN|exact eS rfl|apply eB
def xdf:Lp:=lpOf [0,2,4,14,15] [0,2,14] [] (pCons (pOsl 0 0 0) (pCons (pInt .i64) (pCons (pFunc 93 pNil) (pCons (pInt .i64) (pCons (pInt .i64) pNil))))) (pCons (pBox 0 2 83 false true pAny) pNil) fun (a,(m,(_,(i,(j,_))))) (b,_)=>((Iter (xa6 a m) (i,j,b)).isSome,xb0 a m ((Iter (xa6 a m) (i,j,b)).getD (0,[])))
theorem xrw:LoopOk Tryz.prog (ITryz.at xc1.pin) xc1.nt (loopAt Tryz.f142 2) xdf:=xaP fun d e g f=>by
 obtain ⟨a,⟨m,⟨_,⟨i,⟨j,_⟩⟩⟩⟩⟩:=d
 obtain ⟨b,_⟩:=e
 obtain ⟨c,rfl⟩:=Prod.mk.inj f
 exact xar mxTryz (inv0Ok Tryz.prog _) rfl xsv xpD (xcz a m) (xb0 a m) (fun p=>by simp only [xb0,LR.eval];first|(simp;done)|(repeat' split<;>simp)) (xsZ a m) (s:=(i,j,b)) (xab c)
def xc2:Env:=xwt.fn 220 1 (lsOf [83]) (lpsOf [(3,xbB),(9,xcj),(15,xdf)])
theorem xsw:OrcOk Tryz.prog (ITryz.at 1) xc2:=xqI.fn
theorem xpE:LoOk Tryz.prog (ITryz.at xc2.pin) xc2 (loopAt Tryz.f142 3):=xaq (by kernel_rfl)
def xly (a:Nat) (k:Int):=decide (0≤i64.wrap (k - 1))&&decide (i64.wrap (k - 1)<(↑a:Int))
def xep (k:Int):Nat:=0+(i64.wrap (k - 1)).toNat
def xlz (k:Int) (a:LA):=decide (0+k.toNat<a.length)
def xeo (k:Int) (a:LA):=(a.getD (xep k) .top).cells
def xlw (k:Int) (a:LA):=a.set (0+k.toNat) (AV.agg [AV.list 3 ((xeo k a).getD 0 .top).toList,AV.list 2 ((xeo k a).getD 1 .top).toList])
def xhI {T:Type} (b:Nat) (i k:Int) (a:LA) (δ:T) (κl:(Int×LA)→T) (κr:(LA)→T):T:=br (decide (k>i)) (br (xly b k) (br (decide (xep k<a.length)&&((xeo k a).length==2&&hasShs [Sh.list 3,Sh.list 2] (xeo k a) 0)) (br (decide (0≤k)&&decide (k<(↑b:Int))) (br (xlz k a&&((a.getD (0+k.toNat) .top).cells.length==2&&hasShs [Sh.list 3,Sh.list 2] (a.getD (0+k.toNat) .top).cells 0)) (br (decide (0≤k)&&decide (k<(↑b:Int))) (br (xlz k a) (br (xly b k) (br (decide (xep k<(xlw k a).length)) (κl (i64.wrap (k - 1),(xlw k a).set (xep k) (AV.agg [AV.list 3 ((a.getD (0+k.toNat) .top).cells.getD 0 .top).toList,AV.list 2 ((a.getD (0+k.toNat) .top).cells.getD 1 .top).toList]))) δ) δ) δ) δ) δ) δ) δ) δ) (κr (a))
def xbO (b:Nat) (i:Int):(Int×LA)→Option ((Int×LA)⊕(LA)):=fun (k,a)=>xhI b i k a none (fun s=>some (.inl s)) (fun p=>some (.inr p))
def xcA (b:Nat) (i:Int):(Int×LA)→LA×List Box:=fun (k,a)=>([AV.osl 0 0 0 b,AV.int .i64 i,AV.int .i64 k],[⟨0,2,83,a,false,true⟩])
def xb1 (a:Nat) (i:Int):(LA)→LR:=fun p=>(.leaf (.exit 6) [] [⟨0,2,83,p,false,true⟩])
abbrev xsx (a:LA) (H:List Box):=XR Tryz.prog xc2 [0,14,17] [] [] (loopAt Tryz.f142 3) a H
theorem xs0 (a:Nat) (i:Int) (s:Int×LA):Enc (encR (xcA a i) (xb1 a i)) (xbO a i s) (xsx (xcA a i s).1 (xcA a i s).2):=by
 obtain ⟨k,b⟩:=s
 refine eV (xhI a i k b none (fun s=>some (encR (xcA a i) (xb1 a i) (.inl s))) (fun p=>some (encR (xcA a i) (xb1 a i) (.inr p)))) (by kernel_rfl) ?_;unfold xbO xhI;repeat' first|exact eN|exact eS rfl|apply eB
def xen:Lp:=lpOf [0,14,17] [] [] (pCons (pOsl 0 0 0) (pCons (pInt .i64) (pCons (pInt .i64) pNil))) (pCons (pBox 0 2 83 false true pAny) pNil) fun (a,(i,(k,_))) (b,_)=>((Iter (xbO a i) (k,b)).isSome,xb1 a i ((Iter (xbO a i) (k,b)).getD []))
theorem xry:LoopOk Tryz.prog (ITryz.at xc2.pin) xc2.nt (loopAt Tryz.f142 3) xen:=xaP fun d e g f=>by
 obtain ⟨a,⟨i,⟨k,_⟩⟩⟩:=d
 obtain ⟨b,_⟩:=e
 obtain ⟨c,rfl⟩:=Prod.mk.inj f
 exact xar mxTryz (inv0Ok Tryz.prog _) rfl xsw xpE (xcA a i) (xb1 a i) (fun p=>by simp only [xb1,LR.eval];first|(simp;done)|(repeat' split<;>simp)) (xs0 a i) (s:=(k,b)) (xab c)
def xc3:Env:=xwt.fn 220 1 (lsOf [83]) (lpsOf [(3,xbB),(9,xcj),(15,xdf),(21,xen)])
theorem xsy:OrcOk Tryz.prog (ITryz.at 1) xc3:=xqI.fn
theorem xpF:LoOk Tryz.prog (ITryz.at xc3.pin) xc3 (loopAt Tryz.f142 4):=xaq (by kernel_rfl)
def xaV (a r:Int):=i64.wrap ((u64.wrap (i64.wrap (a+r))).fdiv 2)
def xeq (c b r:Int) (a:LA):=(a.getD (0+(i64.wrap (c - xaV b r)).toNat) .top).cells
def xer (b r:Int) (a:LA):=(a.getD (0+(xaV b r).toNat) .top).cells
def xlA (c b r:Int) (a:LA):=xcQ ((xeq c b r a).getD 0 .top).toList ((xeq c b r a).getD 1 .top).toList ((xer b r a).getD 0 .top).toList ((xer b r a).getD 1 .top).toList
def xhJ {T:Type} (e:Nat) (a m b g n f c r:Int) (d:LA) (δ:T) (κl:(Int×Int×LA)→T) (κr:(Int×LA)→T):T:=br (decide (c<r)) (br (decide (0≤i64.wrap (f - xaV c r))&&decide (i64.wrap (f - xaV c r)<(↑e:Int))) (br (decide (0+(i64.wrap (f - xaV c r)).toNat<d.length)&&((xeq f c r d).length==2&&hasShs [Sh.list 3,Sh.list 2] (xeq f c r d) 0)) (br (decide (0≤xaV c r)&&decide (xaV c r<(↑e:Int))) (br (decide (0+(xaV c r).toNat<d.length)&&((xer c r d).length==2&&hasShs [Sh.list 3,Sh.list 2] (xer c r d) 0)) (br ((xlA f c r d).isSome) (br (!decide ((xlA f c r d).getD 0<0)) (κl (i64.wrap (xaV c r+1),r,d)) (κl (c,xaV c r,d))) δ) δ) δ) δ) δ) (κr (c,d))
def xbk (d:Nat) (a m b f n g:Int):(Int×Int×LA)→Option ((Int×Int×LA)⊕(Int×LA)):=fun (e,r,c)=>xhJ d a m b f n g e r c none (fun s=>some (.inl s)) (fun p=>some (.inr p))
def xcB (d:Nat) (a m b f n g:Int):(Int×Int×LA)→LA×List Box:=fun (e,r,c)=>([AV.osl 0 0 0 d,AV.int .i64 a,AV.int .i64 m,AV.int .i64 b,AV.func 93 [],AV.int .i64 f,AV.int .i64 n,AV.int .i64 e,AV.int .i64 r,AV.int .i64 g],[⟨0,2,83,c,false,true⟩])
def xb2 (c:Nat) (a m b d n e:Int):(Int×LA)→LR:=fun p=>(.leaf (.exit 8) [AV.osl 0 0 0 c,AV.int .i64 a,AV.int .i64 m,AV.int .i64 b,AV.func 93 [],AV.int .i64 d,AV.int .i64 n,AV.int .i64 p.1] [⟨0,2,83,p.2,false,true⟩])
abbrev xs1 (a:LA) (H:List Box):=XR Tryz.prog xc3 [0,1,2,3,4,18,19,20,21,22] [0,1,2,3,4,18,19,20] [] (loopAt Tryz.f142 4) a H
theorem xs2 (c:Nat) (a m b d n e:Int) (s:Int×Int×LA):Enc (encR (xcB c a m b d n e) (xb2 c a m b d n e)) (xbk c a m b d n e s) (xs1 (xcB c a m b d n e s).1 (xcB c a m b d n e s).2):=by
 obtain ⟨g,r,f⟩:=s
 refine eV (xhJ c a m b d n e g r f none (fun s=>some (encR (xcB c a m b d n e) (xb2 c a m b d n e) (.inl s))) (fun p=>some (encR (xcB c a m b d n e) (xb2 c a m b d n e) (.inr p)))) (by kernel_rfl) ?_;unfold xbk xhJ;repeat' first|exact eN|exact eS rfl|apply eB
def xgx:Lp:=lpOf [0,1,2,3,4,18,19,20,21,22] [0,1,2,3,4,18,19,20] [] (pCons (pOsl 0 0 0) (pCons (pInt .i64) (pCons (pInt .i64) (pCons (pInt .i64) (pCons (pFunc 93 pNil) (pCons (pInt .i64) (pCons (pInt .i64) (pCons (pInt .i64) (pCons (pInt .i64) (pCons (pInt .i64) pNil)))))))))) (pCons (pBox 0 2 83 false true pAny) pNil) fun (c,(a,(m,(b,(_,(f,(n,(e,(r,(g,_)))))))))) (d,_)=>((Iter (xbk c a m b f n g) (e,r,d)).isSome,xb2 c a m b f n g ((Iter (xbk c a m b f n g) (e,r,d)).getD (0,[])))
theorem xrz:LoopOk Tryz.prog (ITryz.at xc3.pin) xc3.nt (loopAt Tryz.f142 4) xgx:=xaP fun i j l k=>by
 obtain ⟨c,⟨a,⟨m,⟨b,⟨_,⟨e,⟨n,⟨f,⟨r,⟨g,_⟩⟩⟩⟩⟩⟩⟩⟩⟩⟩:=i
 obtain ⟨d,_⟩:=j
 obtain ⟨h,rfl⟩:=Prod.mk.inj k
 exact xar mxTryz (inv0Ok Tryz.prog _) rfl xsy xpF (xcB c a m b e n g) (xb2 c a m b e n g) (fun p=>by simp only [xb2,LR.eval];first|(simp;done)|(repeat' split<;>simp)) (xs2 c a m b e n g) (s:=(f,r,d)) (xab h)
def xhK (R:Nat→Int→Int→Int→LA→Option (LA)):LA→List Box→Option (Bool×AV×List Box):=omOf (sCons (sEq (pOsl 0 0 0)) (sCons (sEq (pInt .i64)) (sCons (sEq (pInt .i64)) (sCons (sEq (pInt .i64)) (sCons (sEq (pFunc (93:FuncId) pNil)) sNil))))) (pCons (pBox 0 2 (83:TypeId) false true pAny) pNil) fun (n,(a,(m,(b,(_,_))))) (c,_)=>((R n a m b c).isSome,(AV.tuple [],([⟨0,2,83,((R n a m b c).getD []),false,true⟩]:List Box)))
def xa0 (R:Nat→Int→Int→Int→LA→Option (LA)):Env:=(xwt.withM 142 (xhK R)).fn 220 1 (lsOf [83]) (lpsOf [(3,xbB),(9,xcj),(15,xdf),(21,xen),(33,xgx)])
def xgZ (R:Nat→Int→Int→Int→LA→Option (LA)):Prop:=OmOk Tryz.prog ITryz 142 (xhK R)
theorem xsz (R:Nat→Int→Int→Int→LA→Option (LA)) (a:xgZ R):OrcOk Tryz.prog (ITryz.at 1) (xa0 R):=(xqI.withM a).fn
theorem xqj (R:Nat→Int→Int→Int→LA→Option (LA)):LoOk Tryz.prog (ITryz.at (xa0 R).pin) (xa0 R) (Tryz.f142.body.getD .skip):=xaM (ls:=[loopAt Tryz.f142 0,loopAt Tryz.f142 1,loopAt Tryz.f142 2,loopAt Tryz.f142 3,loopAt Tryz.f142 4]) (by kernel_rfl) (fun l b lp a=>by
 simp only [List.mem_cons,List.not_mem_nil,or_false] at b
 rcases b with rfl|rfl|rfl|rfl|rfl
 · rw [show (xa0 R).lp (codeId (loopAt Tryz.f142 0))=some xbB by kernel_rfl] at a
   simp only [Option.some.injEq] at a;subst a;exact xru
 · rw [show (xa0 R).lp (codeId (loopAt Tryz.f142 1))=some xcj by kernel_rfl] at a
   simp only [Option.some.injEq] at a;subst a;exact xrv
 · rw [show (xa0 R).lp (codeId (loopAt Tryz.f142 2))=some xdf by kernel_rfl] at a
   simp only [Option.some.injEq] at a;subst a;exact xrw
 · rw [show (xa0 R).lp (codeId (loopAt Tryz.f142 3))=some xen by kernel_rfl] at a
   simp only [Option.some.injEq] at a;subst a;exact xry
 · rw [show (xa0 R).lp (codeId (loopAt Tryz.f142 4))=some xgx by kernel_rfl] at a
   simp only [Option.some.injEq] at a;subst a;exact xrz)
def xaa (a b:Int):=i64.wrap ((u64.wrap (i64.wrap (a+b))).fdiv 2)
def xaz (n:Nat) (a m:Int) (b:LA):=Iter (xbO n ((Iter (xa6 n m) (a,m,b)).getD (0,[])).fst) (m,((Iter (xa6 n m) (a,m,b)).getD (0,[])).snd)
def xaA (n:Nat) (a m b:Int) (c:LA):=Iter (xbN n ((Iter (xa5 n a) (m,b,c)).getD (0,[])).fst) (a,((Iter (xa5 n a) (m,b,c)).getD (0,[])).snd)
def xaB (n:Nat) (a m b:Int) (c:LA):=Iter (xbk n a m b (xaa a b) (i64.wrap (xaa a b+m)) (i64.wrap (i64.wrap (xaa a b+m) - 1))) (i64.wrap (i64.wrap (xaa a b+m) - b),xaa a b,c)
def xaD (n:Nat) (a m b:Int) (c:LA):=Iter (xbk n a m b (xaa a b) (i64.wrap (xaa a b+m)) (i64.wrap (i64.wrap (xaa a b+m) - 1))) (a,m,c)
def xay (n:Nat) (a m b:Int) (c:LA):=(xaB n a m b c).getD (0,[])
def xaC (n:Nat) (a m b:Int) (c:LA):=(xaD n a m b c).getD (0,[])
def xag (n:Nat) (a m b:Int) (c:LA):=(xay n a m b c).fst
def xah (n:Nat) (a m b:Int) (c:LA):=(xaC n a m b c).fst
def xac (n:Nat) (a m b:Int) (c:LA):=(xay n a m b c).snd
def xad (n:Nat) (a m b:Int) (c:LA):=(xaC n a m b c).snd
def xae (n:Nat) (a m b:Int) (c:LA):=i64.wrap (i64.wrap (xaa a b+m) - xag n a m b c)
def xaf (n:Nat) (a m b:Int) (c:LA):=i64.wrap (i64.wrap (xaa a b+m) - xah n a m b c)
def xas (n:Nat) (a m b:Int) (c:LA):=decide (xag n a m b c<xaa a b)
def xat (n:Nat) (a m b:Int) (c:LA):=decide (a<xag n a m b c)
def xau (n:Nat) (a m b:Int) (c:LA):=decide (xah n a m b c<xaa a b)
def xav (n:Nat) (a m b:Int) (c:LA):=decide (a<xah n a m b c)
def xam (n:Nat) (a m b:Int) (c:LA):=decide (xaa a b<xae n a m b c)
def xan (n:Nat) (a m b:Int) (c:LA):=decide (xae n a m b c<b)
def xao (n:Nat) (a m b:Int) (c:LA):=decide (xaa a b<xaf n a m b c)
def xap (n:Nat) (a m b:Int) (c:LA):=decide (xaf n a m b c<b)
def xak (n:Nat) (a m b:Int) (c:LA):=(xbe n (xag n a m b c) m (xae n a m b c) (xac n a m b c)).getD []
def xal (n:Nat) (a m b:Int) (c:LA):=(xbe n (xah n a m b c) m (xaf n a m b c) (xad n a m b c)).getD []
def xaE (R:Nat→Int→Int→Int→LA→Option (LA)) (n:Nat) (a m b:Int) (c:LA):Option (LA):=R n (xaa a b) (xae n a m b c) b ((R n a (xag n a m b c) (xaa a b) (xak n a m b c)).getD [])
def xaF (R:Nat→Int→Int→Int→LA→Option (LA)) (n:Nat) (a m b:Int) (c:LA):Option (LA):=R n (xaa a b) (xaf n a m b c) b ((R n a (xah n a m b c) (xaa a b) (xal n a m b c)).getD [])
def xaG {T:Type} (R:Nat→Int→Int→Int→LA→Option (LA)) (n:Nat) (a m b:Int) (c:LA) (δ:T) (κ:LA→T):T:=br (i64.wrap (m - a)==1) (br ((Iter (xa5 n a) (m,b,c)).isSome) (br ((xaA n a m b c).isSome) (κ ((xaA n a m b c).getD [])) δ) δ) (br (i64.wrap (b - m)==1) (br ((Iter (xa6 n m) (a,m,c)).isSome) (br ((xaz n a m c).isSome) (κ ((xaz n a m c).getD [])) δ) δ) (br (decide (m>xaa a b)) (br ((xaB n a m b c).isSome) (br (decide (xag n a m b c<m)) (br (decide (m<xae n a m b c)) (br ((xbe n (xag n a m b c) m (xae n a m b c) (xac n a m b c)).isSome) (br (xat n a m b c) (br (xas n a m b c) (br ((R n a (xag n a m b c) (xaa a b) (xak n a m b c)).isSome) (br (xam n a m b c) (br (xan n a m b c) (br ((xaE R n a m b c).isSome) (κ ((xaE R n a m b c).getD [])) δ) (κ ((R n a (xag n a m b c) (xaa a b) (xak n a m b c)).getD []))) (κ ((R n a (xag n a m b c) (xaa a b) (xak n a m b c)).getD []))) δ) (br (xam n a m b c) (br (xan n a m b c) (br ((R n (xaa a b) (xae n a m b c) b (xak n a m b c)).isSome) (κ ((R n (xaa a b) (xae n a m b c) b (xak n a m b c)).getD [])) δ) (κ (xak n a m b c))) (κ (xak n a m b c)))) (br (xam n a m b c) (br (xan n a m b c) (br ((R n (xaa a b) (xae n a m b c) b (xak n a m b c)).isSome) (κ ((R n (xaa a b) (xae n a m b c) b (xak n a m b c)).getD [])) δ) (κ (xak n a m b c))) (κ (xak n a m b c)))) δ) (br (xat n a m b c) (br (xas n a m b c) (br ((R n a (xag n a m b c) (xaa a b) (xac n a m b c)).isSome) (br (xam n a m b c) (br (xan n a m b c) (br ((R n (xaa a b) (xae n a m b c) b ((R n a (xag n a m b c) (xaa a b) (xac n a m b c)).getD [])).isSome) (κ ((R n (xaa a b) (xae n a m b c) b ((R n a (xag n a m b c) (xaa a b) (xac n a m b c)).getD [])).getD [])) δ) (κ ((R n a (xag n a m b c) (xaa a b) (xac n a m b c)).getD []))) (κ ((R n a (xag n a m b c) (xaa a b) (xac n a m b c)).getD []))) δ) (br (xam n a m b c) (br (xan n a m b c) (br ((R n (xaa a b) (xae n a m b c) b (xac n a m b c)).isSome) (κ ((R n (xaa a b) (xae n a m b c) b (xac n a m b c)).getD [])) δ) (κ (xac n a m b c))) (κ (xac n a m b c)))) (br (xam n a m b c) (br (xan n a m b c) (br ((R n (xaa a b) (xae n a m b c) b (xac n a m b c)).isSome) (κ ((R n (xaa a b) (xae n a m b c) b (xac n a m b c)).getD [])) δ) (κ (xac n a m b c))) (κ (xac n a m b c))))) (br (xat n a m b c) (br (xas n a m b c) (br ((R n a (xag n a m b c) (xaa a b) (xac n a m b c)).isSome) (br (xam n a m b c) (br (xan n a m b c) (br ((R n (xaa a b) (xae n a m b c) b ((R n a (xag n a m b c) (xaa a b) (xac n a m b c)).getD [])).isSome) (κ ((R n (xaa a b) (xae n a m b c) b ((R n a (xag n a m b c) (xaa a b) (xac n a m b c)).getD [])).getD [])) δ) (κ ((R n a (xag n a m b c) (xaa a b) (xac n a m b c)).getD []))) (κ ((R n a (xag n a m b c) (xaa a b) (xac n a m b c)).getD []))) δ) (br (xam n a m b c) (br (xan n a m b c) (br ((R n (xaa a b) (xae n a m b c) b (xac n a m b c)).isSome) (κ ((R n (xaa a b) (xae n a m b c) b (xac n a m b c)).getD [])) δ) (κ (xac n a m b c))) (κ (xac n a m b c)))) (br (xam n a m b c) (br (xan n a m b c) (br ((R n (xaa a b) (xae n a m b c) b (xac n a m b c)).isSome) (κ ((R n (xaa a b) (xae n a m b c) b (xac n a m b c)).getD [])) δ) (κ (xac n a m b c))) (κ (xac n a m b c))))) δ) (br ((xaD n a m b c).isSome) (br (decide (xah n a m b c<m)) (br (decide (m<xaf n a m b c)) (br ((xbe n (xah n a m b c) m (xaf n a m b c) (xad n a m b c)).isSome) (br (xav n a m b c) (br (xau n a m b c) (br ((R n a (xah n a m b c) (xaa a b) (xal n a m b c)).isSome) (br (xao n a m b c) (br (xap n a m b c) (br ((xaF R n a m b c).isSome) (κ ((xaF R n a m b c).getD [])) δ) (κ ((R n a (xah n a m b c) (xaa a b) (xal n a m b c)).getD []))) (κ ((R n a (xah n a m b c) (xaa a b) (xal n a m b c)).getD []))) δ) (br (xao n a m b c) (br (xap n a m b c) (br ((R n (xaa a b) (xaf n a m b c) b (xal n a m b c)).isSome) (κ ((R n (xaa a b) (xaf n a m b c) b (xal n a m b c)).getD [])) δ) (κ (xal n a m b c))) (κ (xal n a m b c)))) (br (xao n a m b c) (br (xap n a m b c) (br ((R n (xaa a b) (xaf n a m b c) b (xal n a m b c)).isSome) (κ ((R n (xaa a b) (xaf n a m b c) b (xal n a m b c)).getD [])) δ) (κ (xal n a m b c))) (κ (xal n a m b c)))) δ) (br (xav n a m b c) (br (xau n a m b c) (br ((R n a (xah n a m b c) (xaa a b) (xad n a m b c)).isSome) (br (xao n a m b c) (br (xap n a m b c) (br ((R n (xaa a b) (xaf n a m b c) b ((R n a (xah n a m b c) (xaa a b) (xad n a m b c)).getD [])).isSome) (κ ((R n (xaa a b) (xaf n a m b c) b ((R n a (xah n a m b c) (xaa a b) (xad n a m b c)).getD [])).getD [])) δ) (κ ((R n a (xah n a m b c) (xaa a b) (xad n a m b c)).getD []))) (κ ((R n a (xah n a m b c) (xaa a b) (xad n a m b c)).getD []))) δ) (br (xao n a m b c) (br (xap n a m b c) (br ((R n (xaa a b) (xaf n a m b c) b (xad n a m b c)).isSome) (κ ((R n (xaa a b) (xaf n a m b c) b (xad n a m b c)).getD [])) δ) (κ (xad n a m b c))) (κ (xad n a m b c)))) (br (xao n a m b c) (br (xap n a m b c) (br ((R n (xaa a b) (xaf n a m b c) b (xad n a m b c)).isSome) (κ ((R n (xaa a b) (xaf n a m b c) b (xad n a m b c)).getD [])) δ) (κ (xad n a m b c))) (κ (xad n a m b c))))) (br (xav n a m b c) (br (xau n a m b c) (br ((R n a (xah n a m b c) (xaa a b) (xad n a m b c)).isSome) (br (xao n a m b c) (br (xap n a m b c) (br ((R n (xaa a b) (xaf n a m b c) b ((R n a (xah n a m b c) (xaa a b) (xad n a m b c)).getD [])).isSome) (κ ((R n (xaa a b) (xaf n a m b c) b ((R n a (xah n a m b c) (xaa a b) (xad n a m b c)).getD [])).getD [])) δ) (κ ((R n a (xah n a m b c) (xaa a b) (xad n a m b c)).getD []))) (κ ((R n a (xah n a m b c) (xaa a b) (xad n a m b c)).getD []))) δ) (br (xao n a m b c) (br (xap n a m b c) (br ((R n (xaa a b) (xaf n a m b c) b (xad n a m b c)).isSome) (κ ((R n (xaa a b) (xaf n a m b c) b (xad n a m b c)).getD [])) δ) (κ (xad n a m b c))) (κ (xad n a m b c)))) (br (xao n a m b c) (br (xap n a m b c) (br ((R n (xaa a b) (xaf n a m b c) b (xad n a m b c)).isSome) (κ ((R n (xaa a b) (xaf n a m b c) b (xad n a m b c)).getD [])) δ) (κ (xad n a m b c))) (κ (xad n a m b c))))) δ)))
def xaw (R:Nat→Int→Int→Int→LA→Option (LA)) (n:Nat) (a m b:Int) (c:LA):Option (LA):=xaG R n a m b c none some
theorem xuQ (R:Nat→Int→Int→Int→LA→Option (LA)) (n:Nat) (a m b:Int) (xs:LA):Enc (fun (p:LA)=>(((AV.tuple [],([⟨0,2,83,p,false,true⟩]:List Box))):(AV×List Box))) (xaw R n a m b xs) (XFM Tryz.prog (xa0 R) Tryz.f142 (Tryz.f142.body.getD .skip) [AV.osl (0:Id) 0 0 n,AV.int .i64 a,AV.int .i64 m,AV.int .i64 b,AV.func (93:FuncId) []] [{ ver:=0,sz:=2,ty:=(83:TypeId),xs:=xs,frz:=false,pm:=true }]):=by
 refine eV (xaG R n a m b xs none (fun (p:LA)=>some (((AV.tuple [],([⟨0,2,83,p,false,true⟩]:List Box))):(AV×List Box)))) (by kernel_rfl) ?_;unfold xaw xaG;repeat' first|exact eN|exact eS rfl|apply eB
def xuP (R:Nat→Int→Int→Int→LA→Option (LA)):LA→List Box→Option (Bool×AV×List Box):=omOf (sCons (sEq (pOsl 0 0 0)) (sCons (sEq (pInt .i64)) (sCons (sEq (pInt .i64)) (sCons (sEq (pInt .i64)) (sCons (sEq (pFunc (93:FuncId) pNil)) sNil))))) (pCons (pBox 0 2 (83:TypeId) false true pAny) pNil) fun (n,(a,(m,(b,(_,_))))) (c,_)=>((xaw R n a m b c).isSome,((AV.tuple [],([⟨0,2,83,((xaw R n a m b c).getD []),false,true⟩]:List Box))))
theorem xuO (R:Nat→Int→Int→Int→LA→Option (LA)) (f:xgZ R):OmOk Tryz.prog ITryz 142 (xuP R):=xfA fun g h k j i=>by
 obtain ⟨n,⟨a,⟨m,⟨b,⟨_,_⟩⟩⟩⟩⟩:=g
 obtain ⟨l,_⟩:=h
 obtain ⟨c,e⟩:=Prod.mk.inj i
 refine xdr (p:=(xa0 R).pin) (xdI mxTryz (inv0Ok Tryz.prog _) rfl (xsz R f) rfl Tryz.func142 rfl (by kernel_rfl) (xqj R) ((xuQ R _ _ _ _ _ _ (xab (d:=[]) c)).trans ?_))
 exact congrArg some e
def xaT:Nat→Nat→Int→Int→Int→LA→Option (LA)
 | 0=>fun _ _ _ _ _=>none
 | fu_+1=>fun n a m b c=>xaw (xaT fu_) n a m b c
theorem xl0:∀ n,xgZ (xaT n)
 | 0=>xfA fun _ _ _ _ h=>absurd (Prod.mk.inj h).1 Bool.false_ne_true
 | fu_+1=>fun a H r b h=>xuO (xaT fu_) (xl0 fu_) a H r b h
def xEd:Env:=xwt.withM 142 (xhK (xaT 1000))
theorem xvn:OrcOk Tryz.prog ITryz xEd:=xqI.withM (xl0 _)
def xdo:Env:=xEd.fn 63 1 (lsOf [83]) (lpsOf [])
theorem xtw:OrcOk Tryz.prog (ITryz.at 1) xdo:=xvn.fn
theorem xqg:LoOk Tryz.prog (ITryz.at xdo.pin) xdo (loopAt Tryz.f119 0):=xaq (by kernel_rfl)
def xir {T:Type} (d:Nat) (n e a b:Int) (c:LA) (δ:T) (κl:(Int×Int×LA)→T) (κr:(Int×LA)→T):T:=br (decide (b≤n)) (br ((xaY d a b c).isSome) (κl (b,i64.wrap (b+e),(xaY d a b c).getD [])) δ) (κr (a,c))
def xa9 (e:Nat) (n c:Int):(Int×Int×LA)→Option ((Int×Int×LA)⊕(Int×LA)):=fun (a,b,d)=>xir e n c a b d none (fun s=>some (.inl s)) (fun p=>some (.inr p))
def xcW (e:Nat) (n c:Int):(Int×Int×LA)→LA×List Box:=fun (a,b,d)=>([AV.osl 0 0 0 e,AV.int .i64 n,AV.func 93 [],AV.int .i64 c,AV.int .i64 a,AV.int .i64 b],[⟨0,2,83,d,false,true⟩])
def xct (b:Nat) (n a:Int):(Int×LA)→LR:=fun p=>(.leaf (.exit 0) [AV.osl 0 0 0 b,AV.int .i64 n,AV.func 93 [],AV.int .i64 a,AV.int .i64 p.1] [⟨0,2,83,p.2,false,true⟩])
abbrev xuh (a:LA) (H:List Box):=XR Tryz.prog xdo [0,1,2,6,7,8] [0,1,2,6,7] [] (loopAt Tryz.f119 0) a H
theorem xui (d:Nat) (n c:Int) (s:Int×Int×LA):Enc (encR (xcW d n c) (xct d n c)) (xa9 d n c s) (xuh (xcW d n c s).1 (xcW d n c s).2):=by
 obtain ⟨a,b,e⟩:=s
 refine eV (xir d n c a b e none (fun s=>some (encR (xcW d n c) (xct d n c) (.inl s))) (fun p=>some (encR (xcW d n c) (xct d n c) (.inr p)))) (by kernel_rfl) ?_;unfold xa9 xir;repeat' first|exact eN|exact eS rfl|apply eB
def xe9:Lp:=lpOf [0,1,2,6,7,8] [0,1,2,6,7] [] (pCons (pOsl 0 0 0) (pCons (pInt .i64) (pCons (pFunc 93 pNil) (pCons (pInt .i64) (pCons (pInt .i64) (pCons (pInt .i64) pNil)))))) (pCons (pBox 0 2 83 false true pAny) pNil) fun (d,(n,(_,(c,(a,(b,_)))))) (e,_)=>((Iter (xa9 d n c) (a,b,e)).isSome,xct d n c ((Iter (xa9 d n c) (a,b,e)).getD (0,[])))
theorem xsS:LoopOk Tryz.prog (ITryz.at xdo.pin) xdo.nt (loopAt Tryz.f119 0) xe9:=xaP fun g h j i=>by
 obtain ⟨d,⟨n,⟨_,⟨c,⟨a,⟨b,_⟩⟩⟩⟩⟩⟩:=g
 obtain ⟨e,_⟩:=h
 obtain ⟨f,rfl⟩:=Prod.mk.inj i
 exact xar mxTryz (inv0Ok Tryz.prog _) rfl xtw xqg (xcW d n c) (xct d n c) (fun p=>by simp only [xct,LR.eval];first|(simp;done)|(repeat' split<;>simp)) (xui d n c) (s:=(a,b,e)) (xab f)
def xdp:Env:=xEd.fn 63 1 (lsOf [83]) (lpsOf [(2,xe9)])
theorem xty:OrcOk Tryz.prog (ITryz.at 1) xdp:=xvn.fn
theorem xqh:LoOk Tryz.prog (ITryz.at xdp.pin) xdp (loopAt Tryz.f119 2):=xaq (by kernel_rfl)
def xis {T:Type} (e:Nat) (n c a b:Int) (d:LA) (δ:T) (κl:(Int×Int×LA)→T) (κr:(Int×LA)→T):T:=br (decide (b≤n)) (br ((xaT 1000 e a (i64.wrap (a+c)) b d).isSome) (κl (b,i64.wrap (b+i64.wrap (2*c)),(xaT 1000 e a (i64.wrap (a+c)) b d).getD [])) δ) (κr (a,d))
def xbA (e:Nat) (n c:Int):(Int×Int×LA)→Option ((Int×Int×LA)⊕(Int×LA)):=fun (a,b,d)=>xis e n c a b d none (fun s=>some (.inl s)) (fun p=>some (.inr p))
def xcZ (e:Nat) (n c:Int):(Int×Int×LA)→LA×List Box:=fun (a,b,d)=>([AV.osl 0 0 0 e,AV.int .i64 n,AV.func 93 [],AV.int .i64 c,AV.int .i64 a,AV.int .i64 b],[⟨0,2,83,d,false,true⟩])
def xcv (b:Nat) (n a:Int):(Int×LA)→LR:=fun p=>(.leaf (.exit 4) [AV.osl 0 0 0 b,AV.int .i64 n,AV.func 93 [],AV.int .i64 a,AV.int .i64 p.1] [⟨0,2,83,p.2,false,true⟩])
abbrev xul (a:LA) (H:List Box):=XR Tryz.prog xdp [0,1,2,6,7,8] [0,1,2,6,7] [] (loopAt Tryz.f119 2) a H
theorem xum (d:Nat) (n c:Int) (s:Int×Int×LA):Enc (encR (xcZ d n c) (xcv d n c)) (xbA d n c s) (xul (xcZ d n c s).1 (xcZ d n c s).2):=by
 obtain ⟨a,b,e⟩:=s
 refine eV (xis d n c a b e none (fun s=>some (encR (xcZ d n c) (xcv d n c) (.inl s))) (fun p=>some (encR (xcZ d n c) (xcv d n c) (.inr p)))) (by kernel_rfl) ?_;unfold xbA xis;repeat' first|exact eN|exact eS rfl|apply eB
def xic:Lp:=lpOf [0,1,2,6,7,8] [0,1,2,6,7] [] (pCons (pOsl 0 0 0) (pCons (pInt .i64) (pCons (pFunc 93 pNil) (pCons (pInt .i64) (pCons (pInt .i64) (pCons (pInt .i64) pNil)))))) (pCons (pBox 0 2 83 false true pAny) pNil) fun (d,(n,(_,(c,(a,(b,_)))))) (e,_)=>((Iter (xbA d n c) (a,b,e)).isSome,xcv d n c ((Iter (xbA d n c) (a,b,e)).getD (0,[])))
theorem xlx:LoopOk Tryz.prog (ITryz.at xdp.pin) xdp.nt (loopAt Tryz.f119 2) xic:=xaP fun g h j i=>by
 obtain ⟨d,⟨n,⟨_,⟨c,⟨a,⟨b,_⟩⟩⟩⟩⟩⟩:=g
 obtain ⟨e,_⟩:=h
 obtain ⟨f,rfl⟩:=Prod.mk.inj i
 exact xar mxTryz (inv0Ok Tryz.prog _) rfl xty xqh (xcZ d n c) (xcv d n c) (fun p=>by simp only [xcv,LR.eval];first|(simp;done)|(repeat' split<;>simp)) (xum d n c) (s:=(a,b,e)) (xab f)
def xdq:Env:=xEd.fn 63 1 (lsOf [83]) (lpsOf [(2,xe9),(9,xic)])
theorem xtz:OrcOk Tryz.prog (ITryz.at 1) xdq:=xvn.fn
theorem xqi:LoOk Tryz.prog (ITryz.at xdq.pin) xdq (loopAt Tryz.f119 1):=xaM (ls:=[loopAt Tryz.f119 2]) (by kernel_rfl) (lkC xlx lkN)
def xff (c:Nat) (n a:Int) (b:LA):=Iter (xbA c n a) (0,i64.wrap (2*a),b)
def xfe (c:Nat) (n a:Int) (b:LA):=(xff c n a b).getD (0,[])
def xfc (c:Nat) (n a:Int) (b:LA):=(xfe c n a b).snd
def xfd (c:Nat) (n a:Int) (b:LA):=(xfe c n a b).fst
def xfb (c:Nat) (n a:Int) (b:LA):=i64.wrap (xfd c n a b+a)
def xfa (b:Nat) (n a:Int) (c:LA):=xaT 1000 b (xfd b n a c) (xfb b n a c) n (xfc b n a c)
def xcY {T:Type} (c:Nat) (n a:Int) (b:LA) (δ:T) (κl:(Int×LA)→T) (κr:(LA)→T):T:=br (decide (a<n)) (br ((xff c n a b).isSome) (br (decide (xfb c n a b<n)) (br ((xfa c n a b).isSome) (κl (i64.wrap (a*2),(xfa c n a b).getD [])) δ) (κl (i64.wrap (a*2),xfc c n a b))) δ) (κr (b))
def xaU (c:Nat) (n:Int):(Int×LA)→Option ((Int×LA)⊕(LA)):=fun (a,b)=>xcY c n a b none (fun s=>some (.inl s)) (fun p=>some (.inr p))
def xcX (c:Nat) (n:Int):(Int×LA)→LA×List Box:=fun (a,b)=>([AV.osl 0 0 0 c,AV.int .i64 n,AV.func 93 [],AV.int .i64 a],[⟨0,2,83,b,false,true⟩])
def xcu (a:Nat) (n:Int):(LA)→LR:=fun p=>(.leaf (.exit 2) [] [⟨0,2,83,p,false,true⟩])
abbrev xuj (a:LA) (H:List Box):=XR Tryz.prog xdq [0,1,2,6] [] [] (loopAt Tryz.f119 1) a H
theorem xuk (a:Nat) (n:Int) (s:Int×LA):Enc (encR (xcX a n) (xcu a n)) (xaU a n s) (xuj (xcX a n s).1 (xcX a n s).2):=by
 obtain ⟨b,c⟩:=s
 refine eV (xcY a n b c none (fun s=>some (encR (xcX a n) (xcu a n) (.inl s))) (fun p=>some (encR (xcX a n) (xcu a n) (.inr p)))) (by kernel_rfl) ?_;unfold xaU xcY;repeat' first|exact eN|exact eS rfl|apply eB
def xmF:Lp:=lpOf [0,1,2,6] [] [] (pCons (pOsl 0 0 0) (pCons (pInt .i64) (pCons (pFunc 93 pNil) (pCons (pInt .i64) pNil)))) (pCons (pBox 0 2 83 false true pAny) pNil) fun (b,(n,(_,(a,_)))) (c,_)=>((Iter (xaU b n) (a,c)).isSome,xcu b n ((Iter (xaU b n) (a,c)).getD []))
theorem xsT:LoopOk Tryz.prog (ITryz.at xdq.pin) xdq.nt (loopAt Tryz.f119 1) xmF:=xaP fun e f h g=>by
 obtain ⟨a,⟨n,⟨_,⟨b,_⟩⟩⟩⟩:=e
 obtain ⟨c,_⟩:=f
 obtain ⟨d,rfl⟩:=Prod.mk.inj g
 exact xar mxTryz (inv0Ok Tryz.prog _) rfl xtz xqi (xcX a n) (xcu a n) (fun p=>by simp only [xcu,LR.eval];first|(simp;done)|(repeat' split<;>simp)) (xuk a n) (s:=(b,c)) (xab d)
def xei:Env:=xEd.fn 63 1 (lsOf [83]) (lpsOf [(2,xe9),(9,xic),(7,xmF)])
theorem xtA:OrcOk Tryz.prog (ITryz.at 1) xei:=xvn.fn
theorem xrr:LoOk Tryz.prog (ITryz.at xei.pin) xei (Tryz.f119.body.getD .skip):=xaM (ls:=[loopAt Tryz.f119 0,loopAt Tryz.f119 1,loopAt Tryz.f119 2]) (by kernel_rfl) (lkC xsS (lkC xsT (lkC xlx lkN)))
def xjO (n:Nat) (k:Int) (a:LA):=(Iter (xa9 n k 20) (0,20,a)).getD (0,[])
def xjN (n:Nat) (k:Int) (a:LA):=xaY n (xjO n k a).fst k (xjO n k a).snd
def xjM (n:Nat) (k:Int) (a:LA):=Iter (xaU n k) (20,(xjN n k a).getD [])
def xgX {T:Type} (n:Nat) (k:Int) (a:LA) (δ:T) (κ:LA→T):T:=br ((Iter (xa9 n k 20) (0,20,a)).isSome) (br ((xjN n k a).isSome) (br ((xjM n k a).isSome) (κ ((xjM n k a).getD [])) δ) δ) δ
def xcM (n:Nat) (k:Int) (a:LA):Option (LA):=xgX n k a none some
theorem xv6 (n:Nat) (k:Int) (xs:LA):Enc (fun (p:LA)=>(((AV.tuple [],([⟨0,2,83,p,false,true⟩]:List Box))):(AV×List Box))) (xcM n k xs) (XFM Tryz.prog xei Tryz.f119 (Tryz.f119.body.getD .skip) [AV.osl (0:Id) 0 0 n,AV.int .i64 k,AV.func (93:FuncId) []] [{ ver:=0,sz:=2,ty:=(83:TypeId),xs:=xs,frz:=false,pm:=true }]):=by
 refine eV (xgX n k xs none (fun (p:LA)=>some (((AV.tuple [],([⟨0,2,83,p,false,true⟩]:List Box))):(AV×List Box)))) (by kernel_rfl) ?_;unfold xcM xgX;repeat' first|exact eN|exact eS rfl|apply eB
def xoO:LA→List Box→Option (Bool×AV×List Box):=omOf (sCons (sEq (pOsl 0 0 0)) (sCons (sEq (pInt .i64)) (sCons (sEq (pFunc (93:FuncId) pNil)) sNil))) (pCons (pBox 0 2 (83:TypeId) false true pAny) pNil) fun (n,(k,(_,_))) (a,_)=>((xcM n k a).isSome,((AV.tuple [],([⟨0,2,83,((xcM n k a).getD []),false,true⟩]:List Box))))
theorem xv5:OmOk Tryz.prog ITryz 119 (xoO):=xfA fun c e h g f=>by
 obtain ⟨n,⟨k,⟨_,_⟩⟩⟩:=c
 obtain ⟨i,_⟩:=e
 obtain ⟨a,b⟩:=Prod.mk.inj f
 refine xdr (p:=xei.pin) (xdI mxTryz (inv0Ok Tryz.prog _) rfl xtA rfl Tryz.func119 rfl (by kernel_rfl) xrr ((xv6 _ _ _ _ (xab (d:=[]) a)).trans ?_))
 exact congrArg some b
def xPf:Env:=xEd.withM 119 xoO
theorem xLx:OrcOk Tryz.prog ITryz xPf:=xvn.withM xv5
def xd2:Env:=xPf.fn 9 1 (lsOf [83]) (lpsOf [])
theorem xsQ:OrcOk Tryz.prog (ITryz.at 1) xd2:=xLx.fn
theorem xrn:LoOk Tryz.prog (ITryz.at xd2.pin) xd2 (Tryz.f92.body.getD .skip):=xaq (by kernel_rfl)
def xgH {T:Type} (n:Nat) (a:LA) (δ:T) (κ:LA→T):T:=br ((xcM n (↑n:Int) a).isSome) (κ ((xcM n (↑n:Int) a).getD [])) δ
def xc7 (n:Nat) (a:LA):Option (LA):=xgH n a none some
theorem xvg (n:Nat) (xs:LA):Enc (fun (p:LA)=>(((AV.tuple [],([⟨0,2,83,p,false,true⟩]:List Box))):(AV×List Box))) (xc7 n xs) (XFM Tryz.prog xd2 Tryz.f92 (Tryz.f92.body.getD .skip) [AV.osl (0:Id) 0 0 n,AV.func (93:FuncId) []] [{ ver:=0,sz:=2,ty:=(83:TypeId),xs:=xs,frz:=false,pm:=true }]):=by
 refine eV (xgH n xs none (fun (p:LA)=>some (((AV.tuple [],([⟨0,2,83,p,false,true⟩]:List Box))):(AV×List Box)))) (by kernel_rfl) ?_;unfold xc7 xgH;repeat' first|exact eN|exact eS rfl|apply eB
def xnx:LA→List Box→Option (Bool×AV×List Box):=omOf (sCons (sEq (pOsl 0 0 0)) (sCons (sEq (pFunc (93:FuncId) pNil)) sNil)) (pCons (pBox 0 2 (83:TypeId) false true pAny) pNil) fun (n,(_,_)) (a,_)=>((xc7 n a).isSome,((AV.tuple [],([⟨0,2,83,((xc7 n a).getD []),false,true⟩]:List Box))))
theorem xvf:OmOk Tryz.prog ITryz 92 (xnx):=xfA fun c e h g f=>by
 obtain ⟨n,⟨_,_⟩⟩:=c
 obtain ⟨i,_⟩:=e
 obtain ⟨a,b⟩:=Prod.mk.inj f
 refine xdr (p:=xd2.pin) (xdI mxTryz (inv0Ok Tryz.prog _) rfl xsQ rfl Tryz.func92 rfl (by kernel_rfl) xrn ((xvg _ _ _ (xab (d:=[]) a)).trans ?_))
 exact congrArg some b
def xLK:Env:=xPf.withM 92 xnx
theorem xF7:OrcOk Tryz.prog ITryz xLK:=xLx.withM xvf
def xhT:Env:=xLK.fn 60 0 (lsOf []) (lpsOf [])
theorem xBI:OrcOk Tryz.prog (ITryz.at 0) xhT:=xF7.fn
theorem xwi:LoOk Tryz.prog (ITryz.at xhT.pin) xhT (loopAt Tryz.f67 0):=xaq (by kernel_rfl)
def xgN (b:LA) (c:Int) (a:LA):=a++[AV.agg [AV.list 3 ((b.getD c.toNat .top).cells.getD 0 .top).toList,AV.list 2 []]]
def xc8 (a:Nat):Nat:=0+(↑a:Int).toNat
def xdS (a:LA) (b:Int):=(xgM ((a.getD b.toNat .top).cells.getD 0 .top).toList).getD []
def xkk (d:LA) (f:Int) (b:Nat) (e:Int) (c a:LA):=decide (xc8 b<(xgN d e a).length)
def xkl (d:LA) (e:Int) (a:Nat) (f:Int) (b c:LA):=decide ((↑a:Int)<(↑(a+1):Int))
def xbS (c:LA) (b:Nat) (d:Int) (a:LA):=((xgN c d a).getD (xc8 b) .top).cells
def xjB (a:LA) (b:Int):=decide ((xdS a b).length≤4611686018427387904)
def xgO (b:LA) (c:Int) (a:LA):=(mapGet (AV.int .i64 0) a (xdS b c)).toInt
def xkm (c:LA) (b:Nat) (d:Int) (a:LA):=decide (0≤xgO c d a)&&decide (xgO c d a<(↑b:Int))
def xba (c:LA) (b:Nat) (d:Int) (a:LA):=((xbS c b d a).getD 1 .top).toList.length
def xaX (b:LA) (c:Int) (a:LA):Nat:=0+(xgO b c a).toNat
def xjA (a:LA) (d:Nat) (b:Int) (c:LA):=((xbS a d b c).getD 1 .top).toList++[AV.agg [AV.int .i64 ((a.getD b.toNat .top).cells.getD 1 .top).toInt,AV.int .i64 ((a.getD b.toNat .top).cells.getD 2 .top).toInt]]
def xhO (c:LA) (b:Nat) (d:Int) (a:LA):=(xgN c d a).set (xc8 b) (AV.agg (List.take 1 (xbS c b d a)++[AV.int .i64 (↑(xba c b d a):Int)]++List.drop 2 (xbS c b d a)))
def xkn (c:LA) (d:Int) (a b:LA):=decide (xaX c d a<b.length)
def xbb (c:LA) (d:Int) (a b:LA):=((b.getD (xaX c d a) .top).cells.getD 1 .top).toList.length
def xjz (b:LA) (c:Int) (a d:LA):=((d.getD (xaX b c a) .top).cells.getD 1 .top).toList++[AV.agg [AV.int .i64 ((b.getD c.toNat .top).cells.getD 1 .top).toInt,AV.int .i64 ((b.getD c.toNat .top).cells.getD 2 .top).toInt]]
def xfy (c:LA) (a:Nat) (d:Int) (b:LA):=((xhO c a d b).getD (xc8 a) .top).cells
def xhP (c:LA) (d:Int) (a b:LA):=b.set (xaX c d a) (AV.agg (List.take 1 (b.getD (xaX c d a) .top).cells++[AV.int .i64 (↑(xbb c d a b):Int)]++List.drop 2 (b.getD (xaX c d a) .top).cells))
def xfz (c:LA) (d:Int) (a b:LA):=((xhP c d a b).getD (xaX c d a) .top).cells
def xeH {T:Type} (d:LA) (f:Int) (e:Nat) (c:Int) (b a:LA) (δ:T) (κl:(Nat×Int×LA×LA)→T) (κr:(Nat×LA)→T):T:=br (decide (c<f)) (br (decide (0≤c)&&decide (c<d.length)) (br (decide (c.toNat<d.length)&&((d.getD c.toNat .top).cells.length==3&&hasShs [Sh.list 3,Sh.int .i64,Sh.int .i64] (d.getD c.toNat .top).cells 0)) (br (!xgd ((d.getD c.toNat .top).cells.getD 1 .top).toInt ((d.getD c.toNat .top).cells.getD 2 .top).toInt) (κl (e,i64.wrap (c+1),b,a)) (br ((xgM ((d.getD c.toNat .top).cells.getD 0 .top).toList).isSome) (br (xjB d c&&hasSh1 (Sh.int .i64) (mapGet (AV.int .i64 0) b (xdS d c))) (br (!mapHas b (xdS d c)) (br (decide (b.length<4611686018427387904)&&xjB d c) (br (e==a.length&&(decide ((e+1)*48≤140737488355328)&&decide (e+1≤4611686018427387904))) (br (xkl d f e c b a) (br (xkk d f e c b a&&(isRow 2 ((xbS d e c a).getD 1 .top)&&(xbS d e c a).length==2)) (br (xkk d f e c b a&&(isRow 2 ((xbS d e c a).getD 1 .top)&&((xbS d e c a).length==2&&(2*xba d e c a==2*xba d e c a&&(xba d e c a==xba d e c a&&(xba d e c a==xba d e c a&&(decide ((xba d e c a+1)*16≤140737488355328)&&decide (xba d e c a+1≤4611686018427387904)))))))) (br (xkl d f e c b a) (br (decide (xc8 e<(xhO d e c a).length)&&((xfy d e c a).length==2&&(xba d e c a+1==(xjA d e c a).length&&deadLt ((xfy d e c a).getD 1 .top) (xba d e c a+1)))) (κl (e+1,i64.wrap (c+1),mapPut b (xdS d c) (AV.int .i64 (↑e:Int)),(xhO d e c a).set (xc8 e) (AV.agg (List.take 1 (xfy d e c a)++[AV.list 2 (xjA d e c a)]++List.drop 2 (xfy d e c a))))) δ) δ) δ) δ) δ) δ) δ) (br (xkm d e c b) (br (xkn d c b a&&(isRow 2 ((a.getD (xaX d c b) .top).cells.getD 1 .top)&&(a.getD (xaX d c b) .top).cells.length==2)) (br (xkn d c b a&&(isRow 2 ((a.getD (xaX d c b) .top).cells.getD 1 .top)&&((a.getD (xaX d c b) .top).cells.length==2&&(2*xbb d c b a==2*xbb d c b a&&(xbb d c b a==xbb d c b a&&(xbb d c b a==xbb d c b a&&(decide ((xbb d c b a+1)*16≤140737488355328)&&decide (xbb d c b a+1≤4611686018427387904)))))))) (br (xkm d e c b) (br (decide (xaX d c b<(xhP d c b a).length)&&((xfz d c b a).length==2&&(xbb d c b a+1==(xjz d c b a).length&&deadLt ((xfz d c b a).getD 1 .top) (xbb d c b a+1)))) (κl (e,i64.wrap (c+1),b,(xhP d c b a).set (xaX d c b) (AV.agg (List.take 1 (xfz d c b a)++[AV.list 2 (xjz d c b a)]++List.drop 2 (xfz d c b a))))) δ) δ) δ) δ) δ)) δ) δ)) δ) δ) (κr (e,a))
def xbn (d:LA) (e:Int):(Nat×Int×LA×LA)→Option ((Nat×Int×LA×LA)⊕(Nat×LA)):=fun (c,f,a,b)=>xeH d e c f a b none (fun s=>some (.inl s)) (fun p=>some (.inr p))
def xgv (d:LA) (e:Int):(Nat×Int×LA×LA)→LA×List Box:=fun (c,f,a,b)=>([AV.own 0 0 0 0,AV.osl 1 0 0 c,AV.list 3 d,AV.int .i64 e,AV.int .i64 f],[⟨0,2,1208925819615080213381120,a,false,true⟩,⟨0,2,133280301139,b,false,true⟩])
def xeY (a:LA) (b:Int):(Nat×LA)→LR:=fun p=>(.leaf (.exit 0) [AV.osl 0 0 0 p.1] [⟨0,2,133280301139,p.2,false,true⟩])
abbrev xCU (a:LA) (H:List Box):=XR Tryz.prog xhT [3,4,11,12,13] [4] [(4,2,133280301139)] (loopAt Tryz.f67 0) a H
theorem xCV (a:LA) (b:Int) (s:Nat×Int×LA×LA):Enc (encR (xgv a b) (xeY a b)) (xbn a b s) (xCU (xgv a b s).1 (xgv a b s).2):=by
 obtain ⟨e,f,c,d⟩:=s
 refine eV (xeH a b e f c d none (fun s=>some (encR (xgv a b) (xeY a b) (.inl s))) (fun p=>some (encR (xgv a b) (xeY a b) (.inr p)))) (by kernel_rfl) ?_;unfold xbn xeH;repeat' first|exact eN|exact eS rfl|apply eB
def xs8:Lp:=lpOf [3,4,11,12,13] [4] [(4,2,133280301139)] (pCons (pOwn 0 0 0 0) (pCons (pOsl 1 0 0) (pCons (pList 3 pAny) (pCons (pInt .i64) (pCons (pInt .i64) pNil))))) (pCons (pBox 0 2 1208925819615080213381120 false true pAny) (pCons (pBox 0 2 133280301139 false true pAny) pNil)) fun (_,(c,(d,(e,(f,_))))) (a,(b,_))=>((Iter (xbn d e) (c,f,a,b)).isSome,xeY d e ((Iter (xbn d e) (c,f,a,b)).getD (0,[])))
theorem xAy:LoopOk Tryz.prog (ITryz.at xhT.pin) xhT.nt (loopAt Tryz.f67 0) xs8:=xaP fun h i k j=>by
 obtain ⟨_,⟨e,⟨b,⟨c,⟨f,_⟩⟩⟩⟩⟩:=h
 obtain ⟨a,⟨d,_⟩⟩:=i
 obtain ⟨g,rfl⟩:=Prod.mk.inj j
 exact xar mxTryz (inv0Ok Tryz.prog _) rfl xBI xwi (xgv b c) (xeY b c) (fun p=>by simp only [xeY,LR.eval];first|(simp;done)|(repeat' split<;>simp)) (xCV b c) (s:=(e,f,a,d)) (xab g)
def xj4:Env:=xLK.fn 60 0 (lsOf []) (lpsOf [(4,xs8)])
theorem xBJ:OrcOk Tryz.prog (ITryz.at 0) xj4:=xF7.fn
theorem xzz:LoOk Tryz.prog (ITryz.at xj4.pin) xj4 (Tryz.f67.body.getD .skip):=xaM (ls:=[loopAt Tryz.f67 0]) (by kernel_rfl) (lkC xAy lkN)
def xqO (l:LA):=Iter (xbn l (↑l.length:Int)) (0,0,[],[])
def xqN (l:LA):=(xqO l).getD (0,[])
def xmx (l:LA):=(xqN l).fst
def xqM (l:LA):=(xqN l).snd
def xqL (l:LA):=xc7 (xmx l) (xqM l)
def xqK (l:LA):=(xqL l).getD []
def xnV {T:Type} (l:LA) (δ:T) (κ:LA→T):T:=br ((xqO l).isSome) (br (rowsAll 2 1 (xqM l)) (br ((xqL l).isSome) (br (decide (0+xmx l≤(xqK l).length)&&true) (κ (List.take (xmx l) (List.drop 0 (xqK l)))) δ) δ) δ) δ
def xdv (l:LA):Option (LA):=xnV l none some
theorem xHq (l:LA):Enc (fun (p:LA)=>((AV.list 2 p):AV)) (xdv l) (XF Tryz.prog xj4 Tryz.f67 (Tryz.f67.body.getD .skip) [AV.list 3 l]):=by
 refine eV (xnV l none (fun (p:LA)=>some ((AV.list 2 p):AV))) (by kernel_rfl) ?_;unfold xdv xnV;repeat' first|exact eN|exact eS rfl|apply eB
def xwD:LA→Option (Bool×AV):=ocOf (sCons (sList 3 pAny) sNil) fun (l,_)=>((xdv l).isSome,(AV.list 2 ((xdv l).getD [])))
theorem xHp:OcOk Tryz.prog ITryz 67 (xwD):=xaL fun c f e=>by
 obtain ⟨l,_⟩:=c
 obtain ⟨a,b⟩:=Prod.mk.inj e
 refine xaI (p:=xj4.pin) (xaK mxTryz (inv0Ok Tryz.prog _) rfl xBJ Tryz.func67 rfl (by kernel_rfl) xzz ((xHq _ _ (xab (d:=[]) a)).trans ?_))
 exact congrArg some b
def xTg:Env:=xLK.with 67 xwD
theorem xR9:OrcOk Tryz.prog ITryz xTg:=xF7.with xHp
abbrev EKG:Env:=xTg
theorem xUs:OrcOk Tryz.prog ITryz EKG:=xR9
end Go.Sim.M
end
