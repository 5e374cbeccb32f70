/- Part 9 of the proof of the law. -/
import Derived.Test.YtoemghmemdnelaaGreatDoorGT8
import Derived.Shelf.Strings.Builder1
import Derived.Shelf.Small.Bits
import Derived.Shelf.Small.Strs
import Derived.Shelf.Small.Wraps
import Derived.Shelf.Strings.BuilderF
import Derived.Shelf.Strings.BuilderK
import Derived.Shelf.Strconv.Itoa0
import Derived.Shelf.Strconv.Itoa1
import Derived.Shelf.LaysM
import Derived.Shelf.Strconv.Itoa2
import Derived.Shelf.Strconv.Itoa3
import Derived.Shelf.Strings.BuilderCap
import Derived.Ground.SlsfProg
import Derived.Shelf.SlSortCmp.Insertion
set_option linter.unusedVariables false
set_option linter.unusedSimpArgs false
set_option linter.unnecessarySimpa false
noncomputable section
namespace Go.Proofs
open Go.Shelf
def Tryz.lays106_ren:Go.Shelf.Ren:=⟨fun|106=>136|213=>167|265=>191|n=>n,fun|9=>9|3=>3|n=>n,fun|n=>n⟩
theorem Tryz.lays106:Go.Proofs.Lays.n106 Tryz.prog Tryz.lays106_ren:={
 mixed:=by kernel_rfl
 f106:=Tryz.func136.trans (congrArg some (by kernel_rfl))
 f213:=Tryz.func167.trans (congrArg some (by kernel_rfl))
 f265:=Tryz.func191.trans (congrArg some (by kernel_rfl))
 t3:=Tryz.underlying3
 a3:=Tryz.isAgg3
 z3:=Tryz.sizeOf3
 v3:=Tryz.zeroValue3
 t9:=Tryz.underlying9
 a9:=Tryz.isAgg9
 z9:=Tryz.sizeOf9
 v9:=Tryz.zeroValue9 }
open Go.RowKit in
theorem Tryz.strings_Compare (a b:ByteArray) (w:World) :
 Calls Tryz.prog 136 #[.string a,.string b] w fun e w'=>e=.returned (.int .i64 (Lib.compareBytes a.data.toList b.data.toList))∧w'=w:=Any.strings_Compare Tryz.lays106 a b w
def Tryz.laysM171_ren:Go.Shelf.Ren:=⟨fun|171=>98|243=>130|246=>154|283=>182|284=>183|285=>184|286=>185|129=>150|317=>198|318=>199|319=>200|320=>201|337=>207|338=>208|n=>n,fun|3=>3|9=>9|2=>2|4=>4|171=>221|0=>0|53=>194|37=>140|5=>5|173=>223|212=>236|51=>192|20=>20|213=>237|46=>170|232=>242|233=>243|n=>n,fun|17=>1|18=>2|19=>3|n=>n⟩
theorem Tryz.laysM171:Go.Proofs.LaysM.n171 Tryz.prog Tryz.laysM171_ren:={
 mixed:=by kernel_rfl
 f129:=Tryz.func150.trans (congrArg some (by kernel_rfl))
 f171:=Tryz.func98.trans (congrArg some (by kernel_rfl))
 f243:=Tryz.func130.trans (congrArg some (by kernel_rfl))
 f246:=Tryz.func154.trans (congrArg some (by kernel_rfl))
 f283:=Tryz.func182.trans (congrArg some (by kernel_rfl))
 f284:=Tryz.func183.trans (congrArg some (by kernel_rfl))
 f285:=Tryz.func184.trans (congrArg some (by kernel_rfl))
 f286:=Tryz.func185.trans (congrArg some (by kernel_rfl))
 f317:=Tryz.func198.trans (congrArg some (by kernel_rfl))
 f318:=Tryz.func199.trans (congrArg some (by kernel_rfl))
 f319:=Tryz.func200.trans (congrArg some (by kernel_rfl))
 f320:=Tryz.func201.trans (congrArg some (by kernel_rfl))
 f337:=Tryz.func207.trans (congrArg some (by kernel_rfl))
 f338:=Tryz.func208.trans (congrArg some (by kernel_rfl))
 t0:=Tryz.underlying0
 a0:=Tryz.isAgg0
 z0:=Tryz.sizeOf0
 v0:=Tryz.zeroValue0
 t2:=Tryz.underlying2
 a2:=Tryz.isAgg2
 z2:=Tryz.sizeOf2
 v2:=Tryz.zeroValue2
 t3:=Tryz.underlying3
 a3:=Tryz.isAgg3
 z3:=Tryz.sizeOf3
 v3:=Tryz.zeroValue3
 t4:=Tryz.underlying4
 a4:=Tryz.isAgg4
 z4:=Tryz.sizeOf4
 v4:=Tryz.zeroValue4
 t5:=Tryz.underlying5
 a5:=Tryz.isAgg5
 z5:=Tryz.sizeOf5
 v5:=Tryz.zeroValue5
 t9:=Tryz.underlying9
 a9:=Tryz.isAgg9
 z9:=Tryz.sizeOf9
 v9:=Tryz.zeroValue9
 t20:=Tryz.underlying20
 a20:=Tryz.isAgg20
 z20:=Tryz.sizeOf20
 v20:=Tryz.zeroValue20
 t37:=Tryz.underlying140
 a37:=Tryz.isAgg140
 z37:=Tryz.sizeOf140
 v37:=Tryz.zeroValue140
 t46:=Tryz.underlying170
 a46:=Tryz.isAgg170
 z46:=Tryz.sizeOf170
 v46:=Tryz.zeroValue170
 t51:=Tryz.underlying192
 a51:=Tryz.isAgg192
 z51:=Tryz.sizeOf192
 v51:=Tryz.zeroValue192
 t53:=Tryz.underlying194
 a53:=Tryz.isAgg194
 z53:=Tryz.sizeOf194
 v53:=Tryz.zeroValue194
 t171:=Tryz.underlying221
 a171:=Tryz.isAgg221
 z171:=Tryz.sizeOf221
 v171:=Tryz.zeroValue221
 t173:=Tryz.underlying223
 a173:=Tryz.isAgg223
 z173:=Tryz.sizeOf223
 v173:=Tryz.zeroValue223
 t212:=Tryz.underlying236
 a212:=Tryz.isAgg236
 z212:=Tryz.sizeOf236
 v212:=Tryz.zeroValue236
 t213:=Tryz.underlying237
 a213:=Tryz.isAgg237
 z213:=Tryz.sizeOf237
 t232:=Tryz.underlying242
 a232:=Tryz.isAgg242
 z232:=Tryz.sizeOf242
 v232:=Tryz.zeroValue242
 t233:=Tryz.underlying243
 a233:=Tryz.isAgg243
 z233:=Tryz.sizeOf243
 v233:=Tryz.zeroValue243
 g17:=by kernel_rfl
 g18:=by kernel_rfl
 g19:=by kernel_rfl
 i0:=by kernel_rfl
 i2:=by kernel_rfl
 i3:=by kernel_rfl
 i4:=by kernel_rfl
 i5:=by kernel_rfl
 i9:=by kernel_rfl
 i20:=by kernel_rfl
 i37:=by kernel_rfl
 i46:=by kernel_rfl
 i51:=by kernel_rfl
 i53:=by kernel_rfl
 i171:=by kernel_rfl
 i173:=by kernel_rfl
 i212:=by kernel_rfl
 i232:=by kernel_rfl
 i233:=by kernel_rfl
 m17:=by kernel_rfl
 m18:=by kernel_rfl
 m19:=by kernel_rfl }
open Go.RowKit Go.Sort Go.Lib in
theorem Tryz.strconv_Itoa (n:Int) (h0:-9223372036854775808≤n) (h1:n≤9223372036854775807) (w:World) (htab:Lib.TabIs Tryz.prog w "internal/strconv.uint64pow10" .u64 Lib.pow10Tab) :
 Calls Tryz.prog 98 #[.int .i64 n] w fun e w'=>e=.returned (.string ⟨(Lib.itoa n).toArray⟩)∧∃ k os,w'=grow (w.drewN k) os:=Any.strconv_Itoa Tryz.laysM171 n h0 h1 w htab
end Go.Proofs
end
noncomputable section
namespace Go.Sim
open Go.RowKit Go.Proofs
theorem xls {w:World} {k:Nat} {os:Array Obj}:Below w.heap.size w (Sort.grow (w.drewN k) os):=by
 refine ⟨rfl,rfl,rfl,?_,fun i hi=>?_⟩
 · show w.heap.size≤(w.heap++os).size
   simp
 · show (w.heap++os)[i]?=_
   rw [Array.getElem?_append,if_pos hi]
def xcV:List AV→Option (Bool×AV)
 | [.str a,.str b]=>some (true,.int .i64 (Lib.compareBytes a b))
 | _=>none
theorem xgV:OcOk Tryz.prog ITryz 136 xcV:=fun xs r h=>by
 unfold xcV at h;split at h
 · rename_i a b
   simp only [Option.some.injEq,Prod.mk.injEq,true_and] at h;subst h
   refine ⟨xbW Tryz.func136 rfl (by kernel_rfl),fun w A vs hI hA hrc=>?_⟩
   obtain ⟨v,u,rfl,h1,h2⟩:=rc2 hrc
   obtain ⟨s,rfl,rfl⟩:=h1.str_inv
   obtain ⟨t,rfl,rfl⟩:=h2.str_inv
   refine (Tryz.strings_Compare s t w).mono ?_
   rintro e w' ⟨rfl,rfl⟩
   exact ⟨_,rfl,Below.refl _ _,.int _ _⟩
 · simp at h
def xdu:List AV→Option (Bool×AV)
 | [.int .i64 n]=>some (decide (-9223372036854775808≤n)&&decide (n≤9223372036854775807),.str (Lib.itoa n))
 | _=>none
theorem xiJ:OcOk Tryz.prog ITryz 98 xdu:=fun xs r h=>by
 unfold xdu at h;split at h
 · rename_i n
   simp only [Option.some.injEq,Prod.mk.injEq,decide_eq_true_eq,Bool.and_eq_true] at h;obtain ⟨⟨g1,g2⟩,rfl⟩:=h
   refine ⟨xbW Tryz.func98 rfl (by kernel_rfl),fun w A vs hI hA hrc=>?_⟩
   obtain ⟨v,rfl,h1⟩:=rc1 hrc
   obtain rfl:=h1.int_inv
   refine (Tryz.strconv_Itoa n g1 g2 w hI.tab).mono ?_
   rintro e w' ⟨rfl,k,os,rfl⟩
   exact ⟨_,rfl,xls,.str _⟩
 · simp at h
end Go.Sim
end
noncomputable section
namespace Go.Sim
open Go.RowKit
variable {α β γ : Type}
structure Pat (α β:Type) where
 enc:β→α
 dec:α→Option β
 ok:∀ a b,dec a=some b→a=enc b
def pAny:Pat α α:=⟨fun b=>b,some,fun a b h=>by simpa using h⟩
def pInt (k:IntKind):Pat AV Int:=⟨.int k,fun v=>match v with
 | .int k' n=>match decide (k'=k) with
  | true=>some n
  | false=>none
 | _=>none,fun v n h=>by
 split at h
 · split at h
   · rename_i hk;simp only [Option.some.injEq] at h;rw [of_decide_eq_true hk,h]
   · simp at h
 · simp at h⟩
def pList (sz:Nat) (q:Pat (List AV) β):Pat AV β:=⟨fun b=>.list sz (q.enc b),fun v=>match v with
 | .list z xs=>match Nat.beq z sz with
  | true=>q.dec xs
  | false=>none
 | _=>none,fun v n h=>by
 split at h
 · split at h
   · rename_i hz;rw [Nat.eq_of_beq_eq_true hz,q.ok _ _ h]
   · simp at h
 · simp at h⟩
def pOsl (id ver off:Nat):Pat AV Nat:=⟨.osl id ver off,fun v=>match v with
 | .osl (.b i) e o n=>match Nat.beq i id&&(Nat.beq e ver&&Nat.beq o off) with
  | true=>some n
  | false=>none
 | _=>none,fun v n h=>by
 split at h
 · split at h
   · rename_i hz
     simp only [Bool.and_eq_true] at hz
     simp only [Option.some.injEq] at h
     rw [Nat.eq_of_beq_eq_true hz.1,Nat.eq_of_beq_eq_true hz.2.1,Nat.eq_of_beq_eq_true hz.2.2,h]
   · simp at h
 · simp at h⟩
def pOwn (id ver i j:Nat):Pat AV Unit:=⟨fun _=>.own id ver i j,fun v=>match v with
 | .own (.b a) b c d=>match Nat.beq a id&&(Nat.beq b ver&&(Nat.beq c i&&Nat.beq d j)) with
  | true=>some ()
  | false=>none
 | _=>none,fun v n h=>by
 split at h
 · split at h
   · rename_i hz
     simp only [Bool.and_eq_true] at hz
     rw [Nat.eq_of_beq_eq_true hz.1,Nat.eq_of_beq_eq_true hz.2.1,Nat.eq_of_beq_eq_true hz.2.2.1,Nat.eq_of_beq_eq_true hz.2.2.2]
   · simp at h
 · simp at h⟩
def pAgg (q:Pat (List AV) β):Pat AV β:=⟨fun b=>.agg (q.enc b),fun v=>match v with
 | .agg cs=>q.dec cs
 | _=>none,fun v n h=>by
 split at h
 · rw [q.ok _ _ h]
 · simp at h⟩
def pFunc (f:Nat) (q:Pat (List AV) β):Pat AV β:=⟨fun b=>.func f (q.enc b),fun v=>match v with
 | .func g cs=>match Nat.beq g f with
  | true=>q.dec cs
  | false=>none
 | _=>none,fun v n h=>by
 split at h
 · split at h
   · rename_i hz;rw [Nat.eq_of_beq_eq_true hz,q.ok _ _ h]
   · simp at h
 · simp at h⟩
def pNil:Pat (List α) Unit:=⟨fun _=>[],fun v=>match v with
 | []=>some ()
 | _=>none,fun v n h=>by
 split at h
 · rfl
 · simp at h⟩
def pCons (p:Pat α β) (q:Pat (List α) γ):Pat (List α) (β×γ):=⟨fun b=>p.enc b.1::q.enc b.2,fun v=>match v with
 | x::t=>match p.dec x with
  | some b=>match q.dec t with
   | some c=>some (b,c)
   | none=>none
  | none=>none
 | _=>none,fun v n h=>by
 split at h
 · split at h
   · rename_i hp
     split at h
     · rename_i hq
       simp only [Option.some.injEq] at h
       subst h
       rw [p.ok _ _ hp,q.ok _ _ hq]
     · simp at h
   · simp at h
 · simp at h⟩
def pBox (ver sz ty:Nat) (frz pm:Bool) (q:Pat (List AV) β):Pat Box β:=⟨fun b=>⟨ver,sz,ty,q.enc b,frz,pm⟩,fun v=>match v with
 | ⟨a,b,c,xs,f,p⟩=>match Nat.beq a ver&&(Nat.beq b sz&&(Nat.beq c ty&&((f==frz)&&(p==pm)))) with
  | true=>q.dec xs
  | false=>none,fun v n h=>by
 obtain ⟨a,b,c,xs,f,p⟩:=v
 dsimp only at h;split at h
 · rename_i hz
   simp only [Bool.and_eq_true,beq_iff_eq] at hz
   rw [Nat.eq_of_beq_eq_true hz.1,Nat.eq_of_beq_eq_true hz.2.1,Nat.eq_of_beq_eq_true hz.2.2.1,hz.2.2.2.1,hz.2.2.2.2,q.ok _ _ h]
 · simp at h⟩
def Sub (a b:AV):Prop:=∀ (w:World) (A:Nat→Prop) (M:Id→Option MB) (v:Value),Rel w A M v a→Rel w A M v b
def SubL (aS bs:List AV):Prop:=aS.length=bs.length∧∀ i,i<aS.length→Sub (aS.getD i .top) (bs.getD i .top)
theorem Sub.refl (a:AV):Sub a a:=fun _ _ _ _ h=>h
theorem Sub.of_eq {a b:AV} (h:a=b):Sub a b:=h▸Sub.refl a
theorem xnK (sz:Nat):Sub .nils (.list sz []):=fun w A M v h=>by
 cases h;exact .list0 _ _ _
theorem xoA {aS bs:List AV} (h:SubL aS bs):Sub (.agg aS) (.agg bs):=fun w A M v hr=>by
 obtain ⟨vs,rfl,h1,h2⟩:=hr.agg_inv
 exact .agg vs bs (h1.trans h.1) fun i hi=>h.2 i (h.1.symm▸hi) w A M _ (h2 i (h.1.symm▸hi))
theorem xm3 {w:World} {A:Nat→Prop} {M:Id→Option MB} {vs:List Value} {aS bs:List AV} (h:SubL aS bs) (hr:RC w A M vs aS):RC w A M vs bs :=
 ⟨hr.1.trans h.1,fun i hi=>h.2 i (h.1.symm▸hi) w A M _ (hr.2 i (h.1.symm▸hi))⟩
structure SPat (β:Type) where
 enc:β→AV
 dec:AV→Option β
 ok:∀ a b,dec a=some b→Sub a (enc b)
structure SPatL (β:Type) where
 enc:β→List AV
 dec:List AV→Option β
 ok:∀ a b,dec a=some b→SubL a (enc b)
def sEq (p:Pat AV β):SPat β:=⟨p.enc,p.dec,fun a b h=>Sub.of_eq (p.ok a b h)⟩
def sList (sz:Nat) (q:Pat (List AV) β):SPat β:=⟨fun b=>.list sz (q.enc b),fun v=>match v with
 | .nils=>q.dec []
 | .list z xs=>match Nat.beq z sz with
  | true=>q.dec xs
  | false=>none
 | _=>none,fun v n h=>by
 split at h
 · rw [←q.ok _ _ h];exact xnK sz
 · split at h
   · rename_i hz;rw [Nat.eq_of_beq_eq_true hz,q.ok _ _ h];exact Sub.refl _
   · simp at h
 · simp at h⟩
def sAgg (q:SPatL β):SPat β:=⟨fun b=>.agg (q.enc b),fun v=>match v with
 | .agg cs=>q.dec cs
 | _=>none,fun v n h=>by
 split at h
 · exact xoA (q.ok _ _ h)
 · simp at h⟩
def sNil:SPatL Unit:=⟨fun _=>[],fun v=>match v with
 | []=>some ()
 | _=>none,fun v n h=>by
 split at h
 · exact ⟨rfl,fun i hi=>by simp at hi⟩
 · simp at h⟩
def sCons (p:SPat β) (q:SPatL γ):SPatL (β×γ):=⟨fun b=>p.enc b.1::q.enc b.2,fun v=>match v with
 | x::t=>match p.dec x with
  | some b=>match q.dec t with
   | some c=>some (b,c)
   | none=>none
  | none=>none
 | _=>none,fun v n h=>by
 split at h
 · split at h
   · rename_i hp
     split at h
     · rename_i hq
       simp only [Option.some.injEq] at h
       subst h
       obtain ⟨h1,h2⟩:=q.ok _ _ hq
       refine ⟨by simp [h1],fun i hi=>?_⟩
       cases i with
       | zero=>exact p.ok _ _ hp
       | succ i=>exact h2 i (by simpa using hi)
     · simp at h
   · simp at h
 · simp at h⟩
def ocOf (pv:SPatL β) (g:β→Bool×AV):List AV→Option (Bool×AV):=fun xs=>match pv.dec xs with
 | some b=>some (g b)
 | none=>none
def omOf (pv:SPatL β) (pb:Pat (List Box) γ) (g:β→γ→Bool×AV×List Box):List AV→List Box→Option (Bool×AV×List Box):=fun xs H=>match pv.dec xs with
 | some b=>match pb.dec H with
  | some c=>some (g b c)
  | none=>none
 | none=>none
def lpOf (live liveO:List Nat) (conv:List (Nat×Nat×TypeId)) (pv:Pat (List AV) β) (pb:Pat (List Box) γ) (g:β→γ→Bool×LR):Lp:=⟨live,liveO,conv,fun xs H=>match pv.dec xs with
 | some b=>match pb.dec H with
  | some c=>some (g b c)
  | none=>none
 | none=>none⟩
section
variable {P : Program} {Inv : IV}
theorem xcu {n:FuncId} {pv:SPatL β} {g:β→Bool×AV} (h:∀ b r,g b=(true,r)→Good P Inv n (pv.enc b) r):OcOk P Inv n (ocOf pv g):=fun xs r e=>by
 unfold ocOf at e;split at e
 · rename_i b hb
   simp only [Option.some.injEq] at e
   obtain ⟨h1,h2⟩:=h b r e
   exact ⟨h1,fun w A vs hi ha hr=>h2 w A vs hi ha (xm3 (pv.ok _ _ hb) hr)⟩
 · simp at e
theorem xit {n:FuncId} {pv:SPatL β} {pb:Pat (List Box) γ} {g:β→γ→Bool×AV×List Box} (h:∀ b c r H',g b c=(true,r,H')→GoodM P Inv n (pv.enc b) (pb.enc c) r H'):OmOk P Inv n (omOf pv pb g):=fun xs H r H' e=>by
 unfold omOf at e;split at e
 · rename_i b hb
   split at e
   · rename_i c hc
     simp only [Option.some.injEq] at e
     rw [pb.ok _ _ hc]
     obtain ⟨h1,h2⟩:=h b c r H' e
     exact ⟨h1,fun w0 w A M vs hi hb' hR hr=>h2 w0 w A M vs hi hb' hR (xm3 (pv.ok _ _ hb) hr)⟩
   · simp at e
 · simp at e
theorem xei {nt:Nat} {l:Code} {live liveO:List Nat} {conv:List (Nat×Nat×TypeId)} {pv:Pat (List AV) β} {pb:Pat (List Box) γ} {g:β→γ→Bool×LR}
  (h:∀ b c r,g b c=(true,r)→DoesL P Inv l (fun e1 s1=>e1=r.eval.1∧s1=⟨mkTs nt (liveO.zip r.eval.2.1),r.eval.2.2⟩) ⟨mkTs nt (live.zip (pv.enc b)),pb.enc c⟩):LoopOk P Inv nt l (lpOf live liveO conv pv pb g):=fun vals H r e=>by
 unfold lpOf at e;dsimp only at e;split at e
 · rename_i b hb
   split at e
   · rename_i c hc
     simp only [Option.some.injEq] at e
     rw [pv.ok _ _ hb,pb.ok _ _ hc]
     exact h b c r e
   · simp at e
 · simp at e
end
theorem xam {x:Option α} {d:α} (h:x.isSome=true):x=some (x.getD d):=by
 cases x with
 | none=>simp at h
 | some y=>rfl
end Go.Sim
end
noncomputable section
namespace Go.Sim
open Go.RowKit
def EncS {α:Type} (f:α→AV) (a:Option α) (b:Option AV):Prop:=∀ r,a=some r→∃ x,b=some x∧Sub x (f r)
theorem EncS.none {α:Type} {f:α→AV} {b:Option AV}:EncS f .none b:=fun r h=>by simp at h
theorem EncS.some {α:Type} {f:α→AV} {a:α} {b:AV} (h:Sub b (f a)):EncS f (Option.some a) (Option.some b):=fun r e=>by simp only [Option.some.injEq] at e;subst e;exact ⟨b,rfl,h⟩
theorem EncS.br {α:Type} {f:α→AV} {t:Bool} {a a':Option α} {b b':Option AV} (h1:EncS f a b) (h2:EncS f a' b'):EncS f (Sim.br t a a') (Sim.br t b b'):=by cases t<;>assumption
theorem Good.sub {P:Program} {Inv:IV} {f:FuncId} {args:List AV} {r r':AV} (h:Good P Inv f args r) (hs:Sub r r'):Good P Inv f args r' :=
 ⟨h.1,fun w A vs hI hA hrc=>(h.2 w A vs hI hA hrc).mono fun e w' ⟨v,he,hb,hr⟩=>⟨v,he,hb,hs w' A noBox v hr⟩⟩
theorem GoodM.bump1 {P:Program} {Inv:IV} {f:FuncId} {args:List AV} {H:List Box} {v v' k sz:Nat} {ty:TypeId} {xs:List AV} {frz pm:Bool} (hpl:isC ty=false) (hv:v<v')
  (h:GoodM P Inv f args H (.osl (.b 0) v 0 k) [⟨v,sz,ty,xs,frz,pm⟩]):GoodM P Inv f args H (.osl (.b 0) v' 0 k) [⟨v',sz,ty,xs,frz,pm⟩]:=by
 refine ⟨h.1,fun w0 w A M vs hI hB hR hrc=>(h.2 w0 w A M vs hI hB hR hrc).mono ?_⟩
 rintro e w' ⟨u,A',M',rfl,h1,h2,h3,h4,h5⟩
 obtain ⟨m,g1,g2,g3,g4⟩:=Rel.osl_inv h5
 obtain ⟨bx,q1,q2⟩:=h4.box _ m g1
 have:bx=⟨v,sz,ty,xs,frz,pm⟩:=by
  have:=q1
  rw [xaW] at this
  simpa using this.symm
 subst this
 have hver:v=m.ver:=q2.ver
 have hext:MExt M' (MSet M' (.b 0) ⟨m.b,v',m.sz,m.cap,m.ty⟩):=xek g1 (.inr (by simp only;omega))
 have hsame:∀ id m1,MSet M' (.b 0) ⟨m.b,v',m.sz,m.cap,m.ty⟩ id=some m1→∃ m0,M' id=some m0∧m1.b=m0.b∧m1.cap=m0.cap:=fun id m1 hm1=>by
  by_cases hi:id=.b 0
  · subst hi;simp [MSet] at hm1;subst hm1;exact ⟨m,g1,rfl,rfl⟩
  · exact ⟨m1,by simpa [MSet,hi] using hm1,rfl,rfl⟩
 have hR':HR w' A' (MSet M' (.b 0) ⟨m.b,v',m.sz,m.cap,m.ty⟩) w0.heap.size [⟨v',sz,ty,xs,frz,pm⟩]:=by
  refine ⟨fun id m1 hm1=>?_,fun id id' m1 m2 k1 k2 c1 c2 he=>?_,h4.lt⟩
  · by_cases hi:id=.b 0
    · subst hi
      have:m1=⟨m.b,v',m.sz,m.cap,m.ty⟩:=by simp [MSet] at hm1;exact hm1.symm
      subst this
      have q3:=q2.mono (w':=w') (fun _=>rfl) (fun _ _ _=>rfl) (Nat.le_refl _) (fun _ _ h=>h) q2.guard hext
      exact ⟨⟨v',sz,ty,xs,frz,pm⟩,rfl,rfl,q3.sz,q3.ty,q3.capm,q3.fits,q3.ok,q3.low,q3.lt,q3.cells,q3.guard⟩
    · have hm2:M' id=some m1:=by simpa [MSet,hi] using hm1
      obtain ⟨bx,k1,k2⟩:=h4.box id m1 hm2
      have k3:getB [⟨v',sz,ty,xs,frz,pm⟩] id=some bx:=by
       rw [←k1]
       exact xbi (H:=[⟨v,sz,ty,xs,frz,pm⟩]) (n:=0) (bx:=⟨v,sz,ty,xs,frz,pm⟩) (bx':=⟨v',sz,ty,xs,frz,pm⟩) rfl hpl hpl hi
      exact ⟨bx,k3,k2.mono (fun _=>rfl) (fun _ _ _=>rfl) (Nat.le_refl _) (fun _ _ h=>h) k2.guard hext⟩
  · obtain ⟨n1,a1,a2,a3⟩:=hsame id m1 k1
    obtain ⟨n2,b1,b2,b3⟩:=hsame id' m2 k2
    exact h4.inj id id' n1 n2 a1 b1 (by omega) (by omega) (by rw [←a2,←b2,he])
 refine ⟨u,A',MSet M' (.b 0) ⟨m.b,v',m.sz,m.cap,m.ty⟩,rfl,h1,h2,h3.step ⟨Nat.le_refl _,fun _ _ _=>rfl,fun _ _ h=>h,fun _ _ h _=>h,hext,⟨fun _ _ _=>rfl,fun id m1 hm1 h0=>?_⟩⟩,hR',?_⟩
 · obtain ⟨n1,a1,a2,a3⟩:=hsame id m1 hm1
   exact .inl ⟨id,n1,a1,by omega,a2⟩
 · exact .osl u (.b 0) v' 0 k ⟨m.b,v',m.sz,m.cap,m.ty⟩ (by simp [MSet]) (Nat.le_refl _) g3 fun _=>g4 hver
end Go.Sim
end
noncomputable section
namespace Go.Sim.M
open Go.RowKit Go.Proofs
noncomputable def EB:Env:=Env.none
theorem xnR:OrcOk Tryz.prog ITryz EB:=xh0
end Go.Sim.M
end
noncomputable section
set_option maxRecDepth 100000
namespace Go.Sim.M
open Go.IntKind (i64 u64 u8)
open Go.RowKit Go.Proofs
def xbv:Env:=EB.fn 18 0 (lsOf []) (lpsOf [])
theorem xgn:OrcOk Tryz.prog (ITryz.at 0) xbv:=xnR.fn
theorem xfH:LoOk Tryz.prog (ITryz.at xbv.pin) xbv (Tryz.f79.body.getD .skip):=xa0 (by kernel_rfl)
def xaX (a b:Int):Bool:=(br (decide (a≥0)) (br (decide (a<b)) ((decide (b≤1099511627776))) ((false))) ((false)))
def xen (a b:Int):Bool:=true
def xfq {T:Type} (a b:Int) (δ:T) (κ:Bool→T):T:=br (decide (a≥0)) (br (decide (a<b)) (κ (decide (b≤1099511627776))) (κ (false))) (κ (false))
theorem xiz (a b:Int):Pre (xen a b) (XF Tryz.prog xbv Tryz.f79 (Tryz.f79.body.getD .skip) [AV.agg [AV.int .i64 a,AV.int .i64 b]]) (AV.bool (xaX a b)):=by
 have h:XF Tryz.prog xbv Tryz.f79 (Tryz.f79.body.getD .skip) [AV.agg [AV.int .i64 a,AV.int .i64 b]]=xfq a b none (fun (p:Bool)=>some ((AV.bool p):AV)):=by kernel_rfl
 rw [h];unfold xaX xen xfq;repeat' (first|exact Pre.none|exact Pre.tt rfl|exact Pre.some rfl|refine Pre.l ?_|refine Pre.r ?_|refine Pre.br (f:=fun (p:Bool)=>((AV.bool p):AV)) ?_ ?_|refine Pre.brt (f:=fun (p:Bool)=>((AV.bool p):AV)) ?_ ?_)
def xfp:LA→Option (Bool×AV):=ocOf (sCons (sAgg (sCons (sEq (pInt .i64)) (sCons (sEq (pInt .i64)) sNil))) sNil) fun ((a,(b,_)),_)=>(true,(AV.bool (xaX a b)))
theorem xiy:OcOk Tryz.prog ITryz 79 (xfp):=xcu fun b g c=>by
 obtain ⟨⟨d,⟨e,_⟩⟩,_⟩:=b
 obtain ⟨f,a⟩:=Prod.mk.inj c
 refine xay (p:=xbv.pin) (xaU mxTryz (inv0Ok Tryz.prog _) rfl xgn Tryz.func79 rfl (by kernel_rfl) xfH ((Pre.get (xiz _ _) rfl).trans ?_))
 exact congrArg some a
def xjI:Env:=EB.with 79 xfp
theorem xiK:OrcOk Tryz.prog ITryz xjI:=xnR.with xiy
def xa4:Env:=xjI.fn 25 0 (lsOf []) (lpsOf [])
theorem xfo:OrcOk Tryz.prog (ITryz.at 0) xa4:=xiK.fn
theorem xem:LoOk Tryz.prog (ITryz.at xa4.pin) xa4 (Tryz.f119.body.getD .skip):=xa0 (by kernel_rfl)
def xa9 (a b c d:Int):Bool:=(br (xaX a b) (br (xaX c d) (br (decide (a<d)) ((decide (c<b))) ((false))) ((false))) ((false)))
def xdk (a b c d:Int):Bool:=true
def xdX {T:Type} (a b c d:Int) (δ:T) (κ:Bool→T):T:=br (xaX a b) (br (xaX c d) (br (decide (a<d)) (κ (decide (c<b))) (κ (false))) (κ (false))) (κ (false))
theorem xgQ (a b c d:Int):Pre (xdk a b c d) (XF Tryz.prog xa4 Tryz.f119 (Tryz.f119.body.getD .skip) [AV.agg [AV.int .i64 a,AV.int .i64 b],AV.agg [AV.int .i64 c,AV.int .i64 d]]) (AV.bool (xa9 a b c d)):=by
 have h:XF Tryz.prog xa4 Tryz.f119 (Tryz.f119.body.getD .skip) [AV.agg [AV.int .i64 a,AV.int .i64 b],AV.agg [AV.int .i64 c,AV.int .i64 d]]=xdX a b c d none (fun (p:Bool)=>some ((AV.bool p):AV)):=by kernel_rfl
 rw [h];unfold xa9 xdk xdX;repeat' (first|exact Pre.none|exact Pre.tt rfl|exact Pre.some rfl|refine Pre.l ?_|refine Pre.r ?_|refine Pre.br (f:=fun (p:Bool)=>((AV.bool p):AV)) ?_ ?_|refine Pre.brt (f:=fun (p:Bool)=>((AV.bool p):AV)) ?_ ?_)
def xdW:LA→Option (Bool×AV):=ocOf (sCons (sAgg (sCons (sEq (pInt .i64)) (sCons (sEq (pInt .i64)) sNil))) (sCons (sAgg (sCons (sEq (pInt .i64)) (sCons (sEq (pInt .i64)) sNil))) sNil)) fun ((a,(b,_)),((c,(d,_)),_))=>(true,(AV.bool (xa9 a b c d)))
theorem xgP:OcOk Tryz.prog ITryz 119 (xdW):=xcu fun b i c=>by
 obtain ⟨⟨d,⟨e,_⟩⟩,⟨⟨f,⟨g,_⟩⟩,_⟩⟩:=b
 obtain ⟨h,a⟩:=Prod.mk.inj c
 refine xay (p:=xa4.pin) (xaU mxTryz (inv0Ok Tryz.prog _) rfl xfo Tryz.func119 rfl (by kernel_rfl) xem ((Pre.get (xgQ _ _ _ _) rfl).trans ?_))
 exact congrArg some a
def xjJ:Env:=xjI.with 119 xdW
theorem xiL:OrcOk Tryz.prog ITryz xjJ:=xiK.with xgP
def xaV:Env:=xjJ.fn 22 0 (lsOf []) (lpsOf [])
theorem xe0:OrcOk Tryz.prog (ITryz.at 0) xaV:=xiL.fn
theorem xel:LoOk Tryz.prog (ITryz.at xaV.pin) xaV (Tryz.f85.body.getD .skip):=xa0 (by kernel_rfl)
def xae (a b c d:Int):Int×Int×Bool:=(br (!xa9 a b c d) ((0,0,false)) ((if c>a then c else a,if d<b then d else b,true)))
def xde (a b c d:Int):Bool:=true
def xdK {T:Type} (a b c d:Int) (δ:T) (κ:Int×Int×Bool→T):T:=br (!xa9 a b c d) (κ (0,0,false)) (κ (if c>a then c else a,if d<b then d else b,true))
theorem xgm (a b c d:Int):Pre (xde a b c d) (XF Tryz.prog xaV Tryz.f85 (Tryz.f85.body.getD .skip) [AV.agg [AV.int .i64 a,AV.int .i64 b],AV.agg [AV.int .i64 c,AV.int .i64 d]]) (AV.tuple [AV.agg [AV.int .i64 (xae a b c d).1,AV.int .i64 (xae a b c d).2.1],AV.bool (xae a b c d).2.2]):=by
 have h:XF Tryz.prog xaV Tryz.f85 (Tryz.f85.body.getD .skip) [AV.agg [AV.int .i64 a,AV.int .i64 b],AV.agg [AV.int .i64 c,AV.int .i64 d]]=xdK a b c d none (fun (p:Int×Int×Bool)=>some ((AV.tuple [AV.agg [AV.int .i64 p.1,AV.int .i64 p.2.1],AV.bool p.2.2]):AV)):=by kernel_rfl
 rw [h];unfold xae xde xdK;repeat' (first|exact Pre.none|exact Pre.tt rfl|exact Pre.some rfl|refine Pre.l ?_|refine Pre.r ?_|refine Pre.br (f:=fun (p:Int×Int×Bool)=>((AV.tuple [AV.agg [AV.int .i64 p.1,AV.int .i64 p.2.1],AV.bool p.2.2]):AV)) ?_ ?_|refine Pre.brt (f:=fun (p:Int×Int×Bool)=>((AV.tuple [AV.agg [AV.int .i64 p.1,AV.int .i64 p.2.1],AV.bool p.2.2]):AV)) ?_ ?_)
def xdJ:LA→Option (Bool×AV):=ocOf (sCons (sAgg (sCons (sEq (pInt .i64)) (sCons (sEq (pInt .i64)) sNil))) (sCons (sAgg (sCons (sEq (pInt .i64)) (sCons (sEq (pInt .i64)) sNil))) sNil)) fun ((a,(b,_)),((c,(d,_)),_))=>(true,(AV.tuple [AV.agg [AV.int .i64 (xae a b c d).1,AV.int .i64 (xae a b c d).2.1],AV.bool (xae a b c d).2.2]))
theorem xgl:OcOk Tryz.prog ITryz 85 (xdJ):=xcu fun b i c=>by
 obtain ⟨⟨d,⟨e,_⟩⟩,⟨⟨f,⟨g,_⟩⟩,_⟩⟩:=b
 obtain ⟨h,a⟩:=Prod.mk.inj c
 refine xay (p:=xaV.pin) (xaU mxTryz (inv0Ok Tryz.prog _) rfl xe0 Tryz.func85 rfl (by kernel_rfl) xel ((Pre.get (xgm _ _ _ _) rfl).trans ?_))
 exact congrArg some a
def xjK:Env:=xjJ.with 85 xdJ
theorem xiM:OrcOk Tryz.prog ITryz xjK:=xiL.with xgl
def xcN:Env:=xjK.fn 29 1 (lsOf []) (lpsOf [])
theorem xig:OrcOk Tryz.prog (ITryz.at 1) xcN:=xiM.fn
theorem xgU:LoOk Tryz.prog (ITryz.at xcN.pin) xcN (Tryz.f82.body.getD .skip):=xa0 (by kernel_rfl)
def xfg {T:Type} (k:Nat) (b n:Int) (a:LA) (δ:T) (κ:Bool×(Nat×LA)×(Nat×LA)→T):T:=br (decide ((↑k:Int)>0)) (br (decide (0≤i64.wrap ((↑k:Int) - 1))&&decide (i64.wrap ((↑k:Int) - 1)<(↑k:Int))) (br (decide (0+(i64.wrap ((↑k:Int) - 1)).toNat<a.length)&&hasSh1 (Sh.int .i64) ((a.getD (0+(i64.wrap ((↑k:Int) - 1)).toNat) .top).cells.getD 1 .top)) (br (((a.getD (0+(i64.wrap ((↑k:Int) - 1)).toNat) .top).cells.getD 1 .top).toInt==n) (κ (true,(k,a),(0,[]))) (br (k==a.length&&(decide ((k+1)*16≤140737488355328)&&decide (k+1≤4611686018427387904))) (κ (false,(0,[]),(k+1,a++[AV.agg [AV.int .i64 b,AV.int .i64 n]]))) δ)) δ) δ) (br (k==a.length&&(decide ((k+1)*16≤140737488355328)&&decide (k+1≤4611686018427387904))) (κ (false,(0,[]),(k+1,a++[AV.agg [AV.int .i64 b,AV.int .i64 n]]))) δ)
def xaS (k:Nat) (a n:Int) (b:LA):Option (Bool×(Nat×LA)×(Nat×LA)):=xfg k a n b none some
theorem xkO (k:Nat) (a n:Int) (xs:LA):Enc (fun (p:Bool×(Nat×LA)×(Nat×LA))=>((br p.1 ((AV.osl 0 0 0 p.2.1.1,([⟨0,2,86,p.2.1.2,false,true⟩]:List Box))) ((AV.osl 0 1 0 p.2.2.1,([⟨1,2,86,p.2.2.2,false,true⟩]:List Box)))):(AV×List Box))) (xaS k a n xs) (XFM Tryz.prog xcN Tryz.f82 (Tryz.f82.body.getD .skip) [AV.osl (0:Id) 0 0 k,AV.int .i64 a,AV.int .i64 n] [{ ver:=0,sz:=2,ty:=(86:TypeId),xs:=xs,frz:=false,pm:=true }]):=by
 refine eV (xfg k a n xs none (fun (p:Bool×(Nat×LA)×(Nat×LA))=>some ((br p.1 ((AV.osl 0 0 0 p.2.1.1,([⟨0,2,86,p.2.1.2,false,true⟩]:List Box))) ((AV.osl 0 1 0 p.2.2.1,([⟨1,2,86,p.2.2.2,false,true⟩]:List Box)))):(AV×List Box)))) (by kernel_rfl) ?_;unfold xaS xfg;repeat' first|exact eN|exact eS rfl|apply eB
def xhc:LA→List Box→Option (Bool×AV×List Box):=omOf (sCons (sEq (pOsl 0 0 0)) (sCons (sEq (pInt .i64)) (sCons (sEq (pInt .i64)) sNil))) (pCons (pBox 0 2 (86:TypeId) false true pAny) pNil) fun (k,(a,(n,_))) (b,_)=>((xaS k a n b).isSome,(AV.osl 0 1 0 (br ((xaS k a n b).getD (false,(0,[]),(0,[]))).1 ((xaS k a n b).getD (false,(0,[]),(0,[]))).2.1.1 ((xaS k a n b).getD (false,(0,[]),(0,[]))).2.2.1),([⟨1,2,86,(br ((xaS k a n b).getD (false,(0,[]),(0,[]))).1 ((xaS k a n b).getD (false,(0,[]),(0,[]))).2.1.2 ((xaS k a n b).getD (false,(0,[]),(0,[]))).2.2.2),false,true⟩]:List Box)))
theorem xkN:OmOk Tryz.prog ITryz 82 (xhc):=xit fun e f j i g=>by
 obtain ⟨k,⟨b,⟨n,_⟩⟩⟩:=e
 obtain ⟨h,_⟩:=f
 obtain ⟨c,a⟩:=Prod.mk.inj g
 have hx:=xkO _ _ _ _ _ (xam (d:=(false,(0,[]),(0,[]))) c)
 revert hx a
 generalize ((xaS k b n h).getD (false,(0,[]),(0,[])))=p
 intro a hx
 obtain ⟨rfl,rfl⟩:=Prod.mk.inj a
 obtain ⟨t,⟨l,m⟩,o,q⟩:=p
 have hg:GoodM Tryz.prog ITryz 82 _ _ _ _:=xdF (p:=xcN.pin) (xeI mxTryz (inv0Ok Tryz.prog _) rfl xig rfl Tryz.func82 rfl (by kernel_rfl) xgU hx)
 cases t
 · exact hg
 · exact GoodM.bump1 rfl (by decide) hg
def xjL:Env:=xjK.withM 82 xhc
theorem xiN:OrcOk Tryz.prog ITryz xjL:=xiM.withM xkN
def xcs:Env:=xjL.fn 14 1 (lsOf []) (lpsOf [])
theorem xip:OrcOk Tryz.prog (ITryz.at 1) xcs:=xiN.fn
theorem xhg:LoOk Tryz.prog (ITryz.at xcs.pin) xcs (Tryz.f51.body.getD .skip):=xa0 (by kernel_rfl)
def xdm (f t n a:Int):Int:=((i64.wrap (a+i64.wrap (n*i64.wrap (t - f)))))
def xf8 (f t n a:Int):Bool:=true
def xhF {T:Type} (f t n a:Int) (δ:T) (κ:Int→T):T:=κ (i64.wrap (a+i64.wrap (n*i64.wrap (t - f))))
theorem xln (f t n a:Int):Pre (xf8 f t n a) (XFM Tryz.prog xcs Tryz.f51 (Tryz.f51.body.getD .skip) [AV.agg [AV.int .i64 f,AV.int .i64 t],AV.int .i64 n,AV.own (0:Id) 0 0 0] [{ ver:=0,sz:=1,ty:=(3:TypeId),xs:=[AV.int .i64 a],frz:=false,pm:=true }]) ((AV.tuple [],([⟨0,1,3,[AV.int .i64 (xdm f t n a)],false,true⟩]:List Box))):=by
 have h:XFM Tryz.prog xcs Tryz.f51 (Tryz.f51.body.getD .skip) [AV.agg [AV.int .i64 f,AV.int .i64 t],AV.int .i64 n,AV.own (0:Id) 0 0 0] [{ ver:=0,sz:=1,ty:=(3:TypeId),xs:=[AV.int .i64 a],frz:=false,pm:=true }]=xhF f t n a none (fun (p:Int)=>some (((AV.tuple [],([⟨0,1,3,[AV.int .i64 p],false,true⟩]:List Box))):(AV×List Box))):=by kernel_rfl
 rw [h];unfold xdm xf8 xhF;repeat' (first|exact Pre.none|exact Pre.tt rfl|exact Pre.some rfl|refine Pre.l ?_|refine Pre.r ?_|refine Pre.br (f:=fun (p:Int)=>(((AV.tuple [],([⟨0,1,3,[AV.int .i64 p],false,true⟩]:List Box))):(AV×List Box))) ?_ ?_|refine Pre.brt (f:=fun (p:Int)=>(((AV.tuple [],([⟨0,1,3,[AV.int .i64 p],false,true⟩]:List Box))):(AV×List Box))) ?_ ?_)
def xhE:LA→List Box→Option (Bool×AV×List Box):=omOf (sCons (sAgg (sCons (sEq (pInt .i64)) (sCons (sEq (pInt .i64)) sNil))) (sCons (sEq (pInt .i64)) (sCons (sEq (pOwn 0 0 0 0)) sNil))) (pCons (pBox 0 1 (3:TypeId) false true (pCons (pInt .i64) pNil)) pNil) fun ((f,(t,_)),(n,(_,_))) ((a,_),_)=>(true,((AV.tuple [],([⟨0,1,3,[AV.int .i64 (xdm f t n a)],false,true⟩]:List Box))))
theorem xlm:OmOk Tryz.prog ITryz 51 (xhE):=xit fun b c h e d=>by
 obtain ⟨⟨f,⟨t,_⟩⟩,⟨n,⟨_,_⟩⟩⟩:=b
 obtain ⟨⟨i,_⟩,_⟩:=c
 obtain ⟨g,a⟩:=Prod.mk.inj d
 refine xdF (p:=xcs.pin) (xeI mxTryz (inv0Ok Tryz.prog _) rfl xip rfl Tryz.func51 rfl (by kernel_rfl) xhg ((Pre.get (xln _ _ _ _) rfl).trans ?_))
 exact congrArg some a
def xma:Env:=xjL.withM 51 xhE
theorem xmb:OrcOk Tryz.prog ITryz xma:=xiN.withM xlm
abbrev xhB:Env:=xma
theorem xf1:OrcOk Tryz.prog ITryz xhB:=xmb
def xaT:Env:=xhB.fn 45 1 (lsOf []) (lpsOf [])
theorem xeV:OrcOk Tryz.prog (ITryz.at 1) xaT:=xf1.fn
theorem xdN:LoOk Tryz.prog (ITryz.at xaT.pin) xaT (loopAt Tryz.f49 0):=xa0 (by kernel_rfl)
def xbl (l d:LA) (a b c:Int):=xae b c ((d.getD a.toNat .top).cells.getD 0 .top).toInt ((l.getD (i64.wrap (a+1)).toNat .top).cells.getD 0 .top).toInt
def xbm (l:LA) (a:Int):=decide (i64.wrap (a+1)<(↑l.length:Int))
def xbk (l c:LA) (d a b:Int):=(xbl l c d a b).snd
def xaH {T:Type} (l d:LA) (f a e b c:Int) (δ:T) (κl:(Int×Int×Int×Int)→T) (κr:(Int)→T):T:=br (decide (a<f)) (br (decide (0≤a)&&decide (a<d.length)) (br (decide (a.toNat<d.length)&&((d.getD a.toNat .top).cells.length==2&&hasShs [Sh.int .i64,Sh.int .i64] (d.getD a.toNat .top).cells 0)) (br (xbm l a) (br (decide (0≤i64.wrap (a+1))&&xbm l a) (br (decide ((i64.wrap (a+1)).toNat<l.length)&&hasSh1 (Sh.int .i64) ((l.getD (i64.wrap (a+1)).toNat .top).cells.getD 0 .top)) (br ((xbk l d a b c).snd) (κl (i64.wrap (a+1),xdm (xbl l d a b c).fst (xbk l d a b c).fst ((d.getD a.toNat .top).cells.getD 1 .top).toInt e,b,c)) (κl (i64.wrap (a+1),e,b,c))) δ) δ) (br ((xae b c ((d.getD a.toNat .top).cells.getD 0 .top).toInt 1099511627776).snd.snd) (κl (i64.wrap (a+1),xdm (xae b c ((d.getD a.toNat .top).cells.getD 0 .top).toInt 1099511627776).fst (xae b c ((d.getD a.toNat .top).cells.getD 0 .top).toInt 1099511627776).snd.fst ((d.getD a.toNat .top).cells.getD 1 .top).toInt e,b,c)) (κl (i64.wrap (a+1),e,b,c)))) δ) δ) (κr (e))
def xac (l d:LA) (e:Int):(Int×Int×Int×Int)→Option ((Int×Int×Int×Int)⊕(Int)):=fun (f,a,b,c)=>xaH l d e f a b c none (fun s=>some (.inl s)) (fun p=>some (.inr p))
def xaG (l d:LA) (e:Int):(Int×Int×Int×Int)→LA×List Box:=fun (f,a,b,c)=>([AV.list 2 l,AV.func 51 [AV.own 0 0 0 0],AV.own 1 0 0 0,AV.list 2 d,AV.int .i64 e,AV.int .i64 f],[⟨0,1,3,[AV.int .i64 a],false,true⟩,⟨0,2,35,[AV.agg [AV.int .i64 b,AV.int .i64 c]],false,true⟩])
def xaw (l a:LA) (b:Int):(Int)→LR:=fun p=>(.leaf (.exit 0) [] [⟨0,1,3,[AV.int .i64 p],false,true⟩])
abbrev xfk (a:LA) (H:List Box):=XR Tryz.prog xaT [0,2,4,11,12,13] [] [] (loopAt Tryz.f49 0) a H
theorem xfl (l a:LA) (b:Int) (s:Int×Int×Int×Int):Enc (encR (xaG l a b) (xaw l a b)) (xac l a b s) (xfk (xaG l a b s).1 (xaG l a b s).2):=by
 obtain ⟨f,c,d,e⟩:=s
 refine eV (xaH l a b f c d e none (fun s=>some (encR (xaG l a b) (xaw l a b) (.inl s))) (fun p=>some (encR (xaG l a b) (xaw l a b) (.inr p)))) (by kernel_rfl) ?_;unfold xac xaH;repeat' first|exact eN|exact eS rfl|apply eB
def xcW:Lp:=lpOf [0,2,4,11,12,13] [] [] (pCons (pList 2 pAny) (pCons (pFunc 51 (pCons (pOwn 0 0 0 0) pNil)) (pCons (pOwn 1 0 0 0) (pCons (pList 2 pAny) (pCons (pInt .i64) (pCons (pInt .i64) pNil)))))) (pCons (pBox 0 1 3 false true (pCons (pInt .i64) pNil)) (pCons (pBox 0 2 35 false true (pCons (pAgg (pCons (pInt .i64) (pCons (pInt .i64) pNil))) pNil)) pNil)) fun (l,((_,_),(_,(a,(b,(f,_)))))) ((c,_),(((d,(e,_)),_),_))=>((Iter (xac l a b) (f,c,d,e)).isSome,xaw l a b ((Iter (xac l a b) (f,c,d,e)).getD 0))
theorem xeB:LoopOk Tryz.prog (ITryz.at xaT.pin) xaT.nt (loopAt Tryz.f49 0) xcW:=xei fun h i k j=>by
 obtain ⟨l,⟨⟨_,_⟩,⟨_,⟨a,⟨b,⟨f,_⟩⟩⟩⟩⟩⟩:=h
 obtain ⟨⟨c,_⟩,⟨⟨⟨d,⟨e,_⟩⟩,_⟩,_⟩⟩:=i
 obtain ⟨g,rfl⟩:=Prod.mk.inj j
 exact xbY mxTryz (inv0Ok Tryz.prog _) rfl xeV xdN (xaG l a b) (xaw l a b) (fun p=>by simp only [xaw,LR.eval];first|(simp;done)|(repeat' split<;>simp)) (xfl l a b) (s:=(f,c,d,e)) (xam g)
def xbh:Env:=xhB.fn 45 1 (lsOf []) (lpsOf [(2,xcW)])
theorem xeW:OrcOk Tryz.prog (ITryz.at 1) xbh:=xf1.fn
theorem xea:LoOk Tryz.prog (ITryz.at xbh.pin) xbh (Tryz.f49.body.getD .skip):=xco (ls:=[loopAt Tryz.f49 0]) (by kernel_rfl) (lkC xeB lkN)
def xbV {T:Type} (l:LA) (f t a:Int) (δ:T) (κ:Int→T):T:=br ((Iter (xac l l (↑l.length:Int)) (0,a,f,t)).isSome) (κ ((Iter (xac l l (↑l.length:Int)) (0,a,f,t)).getD 0)) δ
def xaJ (l:LA) (f t a:Int):Option (Int):=xbV l f t a none some
theorem xga (l:LA) (f t a:Int):Enc (fun (p:Int)=>(((AV.tuple [],([⟨0,1,3,[AV.int .i64 p],false,true⟩]:List Box))):(AV×List Box))) (xaJ l f t a) (XFM Tryz.prog xbh Tryz.f49 (Tryz.f49.body.getD .skip) [AV.list 2 l,AV.agg [AV.int .i64 f,AV.int .i64 t],AV.func (51:FuncId) [AV.own (0:Id) 0 0 0]] [{ ver:=0,sz:=1,ty:=(3:TypeId),xs:=[AV.int .i64 a],frz:=false,pm:=true }]):=by
 refine eV (xbV l f t a none (fun (p:Int)=>some (((AV.tuple [],([⟨0,1,3,[AV.int .i64 p],false,true⟩]:List Box))):(AV×List Box)))) (by kernel_rfl) ?_;unfold xaJ xbV;repeat' first|exact eN|exact eS rfl|apply eB
def xdE:LA→List Box→Option (Bool×AV×List Box):=omOf (sCons (sList 2 pAny) (sCons (sAgg (sCons (sEq (pInt .i64)) (sCons (sEq (pInt .i64)) sNil))) (sCons (sEq (pFunc (51:FuncId) (pCons (pOwn 0 0 0 0) pNil))) sNil))) (pCons (pBox 0 1 (3:TypeId) false true (pCons (pInt .i64) pNil)) pNil) fun (l,((f,(t,_)),((_,_),_))) ((a,_),_)=>((xaJ l f t a).isSome,((AV.tuple [],([⟨0,1,3,[AV.int .i64 ((xaJ l f t a).getD 0)],false,true⟩]:List Box))))
theorem xf9:OmOk Tryz.prog ITryz 49 (xdE):=xit fun c e i h g=>by
 obtain ⟨l,⟨⟨f,⟨t,_⟩⟩,⟨⟨_,_⟩,_⟩⟩⟩:=c
 obtain ⟨⟨j,_⟩,_⟩:=e
 obtain ⟨a,b⟩:=Prod.mk.inj g
 refine xdF (p:=xbh.pin) (xeI mxTryz (inv0Ok Tryz.prog _) rfl xeW rfl Tryz.func49 rfl (by kernel_rfl) xea ((xga _ _ _ _ _ (xam (d:=0) a)).trans ?_))
 exact congrArg some b
def xmc:Env:=xhB.withM 49 xdE
theorem xmd:OrcOk Tryz.prog ITryz xmc:=xf1.withM xf9
abbrev xjM:Env:=xmc
theorem xiO:OrcOk Tryz.prog ITryz xjM:=xmd
def xa3:Env:=xjM.fn 11 0 (lsOf []) (lpsOf [])
theorem xd9:OrcOk Tryz.prog (ITryz.at 0) xa3:=xiO.fn
theorem xdM:LoOk Tryz.prog (ITryz.at xa3.pin) xa3 (Tryz.f23.body.getD .skip):=xa0 (by kernel_rfl)
def xbD {T:Type} (l:LA) (a b:Int) (δ:T) (κ:Int→T):T:=br ((xaJ l a b 0).isSome) (κ ((xaJ l a b 0).getD 0)) δ
def xaI (l:LA) (a b:Int):Option (Int):=xbD l a b none some
theorem xfB (l:LA) (a b:Int):Enc (fun (p:Int)=>((AV.int .i64 p):AV)) (xaI l a b) (XF Tryz.prog xa3 Tryz.f23 (Tryz.f23.body.getD .skip) [AV.list 2 l,AV.agg [AV.int .i64 a,AV.int .i64 b]]):=by
 refine eV (xbD l a b none (fun (p:Int)=>some ((AV.int .i64 p):AV))) (by kernel_rfl) ?_;unfold xaI xbD;repeat' first|exact eN|exact eS rfl|apply eB
def xc7:LA→Option (Bool×AV):=ocOf (sCons (sList 2 pAny) (sCons (sAgg (sCons (sEq (pInt .i64)) (sCons (sEq (pInt .i64)) sNil))) sNil)) fun (l,((a,(b,_)),_))=>((xaI l a b).isSome,(AV.int .i64 ((xaI l a b).getD 0)))
theorem xfA:OcOk Tryz.prog ITryz 23 (xc7):=xcu fun c h e=>by
 obtain ⟨l,⟨⟨f,⟨g,_⟩⟩,_⟩⟩:=c
 obtain ⟨a,b⟩:=Prod.mk.inj e
 refine xay (p:=xa3.pin) (xaU mxTryz (inv0Ok Tryz.prog _) rfl xd9 Tryz.func23 rfl (by kernel_rfl) xdM ((xfB _ _ _ _ (xam (d:=0) a)).trans ?_))
 exact congrArg some b
def xme:Env:=xjM.with 23 xc7
theorem xmf:OrcOk Tryz.prog ITryz xme:=xiO.with xfA
abbrev xkZ:Env:=xme
theorem xlk:OrcOk Tryz.prog ITryz xkZ:=xmf
abbrev EKA1:Env:=xkZ
theorem xnV:OrcOk Tryz.prog ITryz EKA1:=xlk
end Go.Sim.M
end
noncomputable section
set_option maxRecDepth 100000
namespace Go.Sim.M
open Go.IntKind (i64 u64 u8)
open Go.RowKit Go.Proofs
abbrev xjN:Env:=EKA1
theorem xiP:OrcOk Tryz.prog ITryz xjN:=xnV
def xbF:Env:=xjN.fn 18 0 (lsOf []) (lpsOf [])
theorem xgT:OrcOk Tryz.prog (ITryz.at 0) xbF:=xiP.fn
theorem xf0:LoOk Tryz.prog (ITryz.at xbF.pin) xbF (Tryz.f32.body.getD .skip):=xa0 (by kernel_rfl)
def xbq (a b:Int):Bool:=(br (decide (a≥0)) (br (decide (a<b)) ((decide (b≤1099511627776))) ((false))) ((false)))
def xeO (a b:Int):Bool:=true
def xfV {T:Type} (a b:Int) (δ:T) (κ:Bool→T):T:=br (decide (a≥0)) (br (decide (a<b)) (κ (decide (b≤1099511627776))) (κ (false))) (κ (false))
theorem xjw (a b:Int):Pre (xeO a b) (XF Tryz.prog xbF Tryz.f32 (Tryz.f32.body.getD .skip) [AV.agg [AV.int .i64 a,AV.int .i64 b]]) (AV.bool (xbq a b)):=by
 have h:XF Tryz.prog xbF Tryz.f32 (Tryz.f32.body.getD .skip) [AV.agg [AV.int .i64 a,AV.int .i64 b]]=xfV a b none (fun (p:Bool)=>some ((AV.bool p):AV)):=by kernel_rfl
 rw [h];unfold xbq xeO xfV;repeat' (first|exact Pre.none|exact Pre.tt rfl|exact Pre.some rfl|refine Pre.l ?_|refine Pre.r ?_|refine Pre.br (f:=fun (p:Bool)=>((AV.bool p):AV)) ?_ ?_|refine Pre.brt (f:=fun (p:Bool)=>((AV.bool p):AV)) ?_ ?_)
def xfU:LA→Option (Bool×AV):=ocOf (sCons (sAgg (sCons (sEq (pInt .i64)) (sCons (sEq (pInt .i64)) sNil))) sNil) fun ((a,(b,_)),_)=>(true,(AV.bool (xbq a b)))
theorem xjv:OcOk Tryz.prog ITryz 32 (xfU):=xcu fun b g c=>by
 obtain ⟨⟨d,⟨e,_⟩⟩,_⟩:=b
 obtain ⟨f,a⟩:=Prod.mk.inj c
 refine xay (p:=xbF.pin) (xaU mxTryz (inv0Ok Tryz.prog _) rfl xgT Tryz.func32 rfl (by kernel_rfl) xf0 ((Pre.get (xjw _ _) rfl).trans ?_))
 exact congrArg some a
def xmg:Env:=xjN.with 32 xfU
theorem xmh:OrcOk Tryz.prog ITryz xmg:=xiP.with xjv
abbrev xmi:Env:=xmg
theorem xmj:OrcOk Tryz.prog ITryz xmi:=xmh
def xdC {T:Type} (k:Nat) (b n:Int) (a:LA) (δ:T) (κ:Bool×(Nat×LA)×(Nat×LA)→T):T:=br (decide ((↑k:Int)>0)) (br (decide (0≤i64.wrap ((↑k:Int) - 1))&&decide (i64.wrap ((↑k:Int) - 1)<(↑k:Int))) (br (decide (0+(i64.wrap ((↑k:Int) - 1)).toNat<a.length)&&hasSh1 (Sh.int .i64) ((a.getD (0+(i64.wrap ((↑k:Int) - 1)).toNat) .top).cells.getD 1 .top)) (br (((a.getD (0+(i64.wrap ((↑k:Int) - 1)).toNat) .top).cells.getD 1 .top).toInt==n) (κ (true,(k,a),(0,[]))) (br (k==a.length&&(decide ((k+1)*16≤140737488355328)&&decide (k+1≤4611686018427387904))) (κ (false,(0,[]),(k+1,a++[AV.agg [AV.int .i64 b,AV.int .i64 n]]))) δ)) δ) δ) (br (k==a.length&&(decide ((k+1)*16≤140737488355328)&&decide (k+1≤4611686018427387904))) (κ (false,(0,[]),(k+1,a++[AV.agg [AV.int .i64 b,AV.int .i64 n]]))) δ)
def xeP (k:Nat) (a n:Int) (b:LA):Option (Bool×(Nat×LA)×(Nat×LA)):=xdC k a n b none some
abbrev xmk:Env:=xmi
theorem xml:OrcOk Tryz.prog ITryz xmk:=xmj
abbrev xmm:Env:=xmk
theorem xmn:OrcOk Tryz.prog ITryz xmm:=xml
abbrev xmo:Env:=xmm
theorem xmp:OrcOk Tryz.prog ITryz xmo:=xmn
abbrev xmq:Env:=xmo
theorem xmr:OrcOk Tryz.prog ITryz xmq:=xmp
abbrev xms:Env:=xmq
theorem xmt:OrcOk Tryz.prog ITryz xms:=xmr
abbrev xmu:Env:=xms
theorem xmv:OrcOk Tryz.prog ITryz xmu:=xmt
abbrev xkx:Env:=xmu
theorem xll:OrcOk Tryz.prog ITryz xkx:=xmv
abbrev EKA2:Env:=xkx
theorem xk0:OrcOk Tryz.prog ITryz EKA2:=xll
end Go.Sim.M
end
noncomputable section
set_option maxRecDepth 100000
namespace Go.Sim.M
open Go.IntKind (i64 u64 u8)
open Go.RowKit Go.Proofs
def xbc:Env:=EKA2.fn 25 0 (lsOf []) (lpsOf [])
theorem xfL:OrcOk Tryz.prog (ITryz.at 0) xbc:=xk0.fn
theorem xe2:LoOk Tryz.prog (ITryz.at xbc.pin) xbc (Tryz.f30.body.getD .skip):=xa0 (by kernel_rfl)
def xbj (a b c d:Int):Bool:=(br (xbq a b) (br (xbq c d) (br (decide (a<d)) ((decide (c<b))) ((false))) ((false))) ((false)))
def xdL (a b c d:Int):Bool:=true
def xer {T:Type} (a b c d:Int) (δ:T) (κ:Bool→T):T:=br (xbq a b) (br (xbq c d) (br (decide (a<d)) (κ (decide (c<b))) (κ (false))) (κ (false))) (κ (false))
theorem xhv (a b c d:Int):Pre (xdL a b c d) (XF Tryz.prog xbc Tryz.f30 (Tryz.f30.body.getD .skip) [AV.agg [AV.int .i64 a,AV.int .i64 b],AV.agg [AV.int .i64 c,AV.int .i64 d]]) (AV.bool (xbj a b c d)):=by
 have h:XF Tryz.prog xbc Tryz.f30 (Tryz.f30.body.getD .skip) [AV.agg [AV.int .i64 a,AV.int .i64 b],AV.agg [AV.int .i64 c,AV.int .i64 d]]=xer a b c d none (fun (p:Bool)=>some ((AV.bool p):AV)):=by kernel_rfl
 rw [h];unfold xbj xdL xer;repeat' (first|exact Pre.none|exact Pre.tt rfl|exact Pre.some rfl|refine Pre.l ?_|refine Pre.r ?_|refine Pre.br (f:=fun (p:Bool)=>((AV.bool p):AV)) ?_ ?_|refine Pre.brt (f:=fun (p:Bool)=>((AV.bool p):AV)) ?_ ?_)
def xeq:LA→Option (Bool×AV):=ocOf (sCons (sAgg (sCons (sEq (pInt .i64)) (sCons (sEq (pInt .i64)) sNil))) (sCons (sAgg (sCons (sEq (pInt .i64)) (sCons (sEq (pInt .i64)) sNil))) sNil)) fun ((a,(b,_)),((c,(d,_)),_))=>(true,(AV.bool (xbj a b c d)))
theorem xhu:OcOk Tryz.prog ITryz 30 (xeq):=xcu fun b i c=>by
 obtain ⟨⟨d,⟨e,_⟩⟩,⟨⟨f,⟨g,_⟩⟩,_⟩⟩:=b
 obtain ⟨h,a⟩:=Prod.mk.inj c
 refine xay (p:=xbc.pin) (xaU mxTryz (inv0Ok Tryz.prog _) rfl xfL Tryz.func30 rfl (by kernel_rfl) xe2 ((Pre.get (xhv _ _ _ _) rfl).trans ?_))
 exact congrArg some a
def xjO:Env:=EKA2.with 30 xeq
theorem xiQ:OrcOk Tryz.prog ITryz xjO:=xk0.with xhu
def xa5:Env:=xjO.fn 22 0 (lsOf []) (lpsOf [])
theorem xfr:OrcOk Tryz.prog (ITryz.at 0) xa5:=xiQ.fn
theorem xeF:LoOk Tryz.prog (ITryz.at xa5.pin) xa5 (Tryz.f31.body.getD .skip):=xa0 (by kernel_rfl)
def xao (a b c d:Int):Int×Int×Bool:=(br (!xbj a b c d) ((0,0,false)) ((if c>a then c else a,if d<b then d else b,true)))
def xdl (a b c d:Int):Bool:=true
def xdZ {T:Type} (a b c d:Int) (δ:T) (κ:Int×Int×Bool→T):T:=br (!xbj a b c d) (κ (0,0,false)) (κ (if c>a then c else a,if d<b then d else b,true))
theorem xgS (a b c d:Int):Pre (xdl a b c d) (XF Tryz.prog xa5 Tryz.f31 (Tryz.f31.body.getD .skip) [AV.agg [AV.int .i64 a,AV.int .i64 b],AV.agg [AV.int .i64 c,AV.int .i64 d]]) (AV.tuple [AV.agg [AV.int .i64 (xao a b c d).1,AV.int .i64 (xao a b c d).2.1],AV.bool (xao a b c d).2.2]):=by
 have h:XF Tryz.prog xa5 Tryz.f31 (Tryz.f31.body.getD .skip) [AV.agg [AV.int .i64 a,AV.int .i64 b],AV.agg [AV.int .i64 c,AV.int .i64 d]]=xdZ a b c d none (fun (p:Int×Int×Bool)=>some ((AV.tuple [AV.agg [AV.int .i64 p.1,AV.int .i64 p.2.1],AV.bool p.2.2]):AV)):=by kernel_rfl
 rw [h];unfold xao xdl xdZ;repeat' (first|exact Pre.none|exact Pre.tt rfl|exact Pre.some rfl|refine Pre.l ?_|refine Pre.r ?_|refine Pre.br (f:=fun (p:Int×Int×Bool)=>((AV.tuple [AV.agg [AV.int .i64 p.1,AV.int .i64 p.2.1],AV.bool p.2.2]):AV)) ?_ ?_|refine Pre.brt (f:=fun (p:Int×Int×Bool)=>((AV.tuple [AV.agg [AV.int .i64 p.1,AV.int .i64 p.2.1],AV.bool p.2.2]):AV)) ?_ ?_)
def xdY:LA→Option (Bool×AV):=ocOf (sCons (sAgg (sCons (sEq (pInt .i64)) (sCons (sEq (pInt .i64)) sNil))) (sCons (sAgg (sCons (sEq (pInt .i64)) (sCons (sEq (pInt .i64)) sNil))) sNil)) fun ((a,(b,_)),((c,(d,_)),_))=>(true,(AV.tuple [AV.agg [AV.int .i64 (xao a b c d).1,AV.int .i64 (xao a b c d).2.1],AV.bool (xao a b c d).2.2]))
theorem xgR:OcOk Tryz.prog ITryz 31 (xdY):=xcu fun b i c=>by
 obtain ⟨⟨d,⟨e,_⟩⟩,⟨⟨f,⟨g,_⟩⟩,_⟩⟩:=b
 obtain ⟨h,a⟩:=Prod.mk.inj c
 refine xay (p:=xa5.pin) (xaU mxTryz (inv0Ok Tryz.prog _) rfl xfr Tryz.func31 rfl (by kernel_rfl) xeF ((Pre.get (xgS _ _ _ _) rfl).trans ?_))
 exact congrArg some a
def xmw:Env:=xjO.with 31 xdY
theorem xmy:OrcOk Tryz.prog ITryz xmw:=xiQ.with xgR
abbrev xmz:Env:=xmw
theorem xmA:OrcOk Tryz.prog ITryz xmz:=xmy
abbrev EKA3:Env:=xmz
theorem xnW:OrcOk Tryz.prog ITryz EKA3:=xmA
end Go.Sim.M
end
