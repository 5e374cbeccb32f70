/- Part 9 of the proof of the law. -/
import Derived.Test.YtoemghmemdnelaaGreatDoorGS8
import Derived.Shelf.Strings.Builder1
import Derived.Shelf.Small.Bits
import Derived.Shelf.Small.Strs
import Derived.Shelf.Small.Wraps
import Derived.Shelf.Strings.BuilderF
import Derived.Shelf.Strings.BuilderK
import Derived.Shelf.Strconv.Itoa0
import Derived.Shelf.Strconv.Itoa1
import Derived.Shelf.LaysM
import Derived.Shelf.Strconv.Itoa2
import Derived.Shelf.Strconv.Itoa3
import Derived.Shelf.Strings.BuilderCap
import Derived.Ground.SlsfProg
import Derived.Shelf.SlSortCmp.Insertion
set_option linter.unusedVariables false
set_option linter.unusedSimpArgs false
set_option linter.unnecessarySimpa false
noncomputable section
namespace Go.Proofs
open Go.Shelf
def Tryz.lays106_ren:Go.Shelf.Ren:=⟨fun|106=>136|213=>167|265=>191|n=>n,fun|9=>9|3=>3|n=>n,fun|n=>n⟩
theorem Tryz.lays106:Go.Proofs.Lays.n106 Tryz.prog Tryz.lays106_ren:={
 mixed:=by kernel_rfl
 f106:=Tryz.func136.trans (congrArg some (by kernel_rfl))
 f213:=Tryz.func167.trans (congrArg some (by kernel_rfl))
 f265:=Tryz.func191.trans (congrArg some (by kernel_rfl))
 t3:=Tryz.underlying3
 a3:=Tryz.isAgg3
 z3:=Tryz.sizeOf3
 v3:=Tryz.zeroValue3
 t9:=Tryz.underlying9
 a9:=Tryz.isAgg9
 z9:=Tryz.sizeOf9
 v9:=Tryz.zeroValue9 }
open Go.RowKit in
theorem Tryz.strings_Compare (a b:ByteArray) (w:World) :
 Calls Tryz.prog 136 #[.string a,.string b] w fun e w'=>e=.returned (.int .i64 (Lib.compareBytes a.data.toList b.data.toList))∧w'=w:=Any.strings_Compare Tryz.lays106 a b w
def Tryz.laysM171_ren:Go.Shelf.Ren:=⟨fun|171=>98|243=>130|246=>154|283=>182|284=>183|285=>184|286=>185|129=>150|317=>198|318=>199|319=>200|320=>201|337=>207|338=>208|n=>n,fun|3=>3|9=>9|2=>2|4=>4|171=>221|0=>0|53=>194|37=>140|5=>5|173=>223|212=>236|51=>192|20=>20|213=>237|46=>170|232=>242|233=>243|n=>n,fun|17=>1|18=>2|19=>3|n=>n⟩
theorem Tryz.laysM171:Go.Proofs.LaysM.n171 Tryz.prog Tryz.laysM171_ren:={
 mixed:=by kernel_rfl
 f129:=Tryz.func150.trans (congrArg some (by kernel_rfl))
 f171:=Tryz.func98.trans (congrArg some (by kernel_rfl))
 f243:=Tryz.func130.trans (congrArg some (by kernel_rfl))
 f246:=Tryz.func154.trans (congrArg some (by kernel_rfl))
 f283:=Tryz.func182.trans (congrArg some (by kernel_rfl))
 f284:=Tryz.func183.trans (congrArg some (by kernel_rfl))
 f285:=Tryz.func184.trans (congrArg some (by kernel_rfl))
 f286:=Tryz.func185.trans (congrArg some (by kernel_rfl))
 f317:=Tryz.func198.trans (congrArg some (by kernel_rfl))
 f318:=Tryz.func199.trans (congrArg some (by kernel_rfl))
 f319:=Tryz.func200.trans (congrArg some (by kernel_rfl))
 f320:=Tryz.func201.trans (congrArg some (by kernel_rfl))
 f337:=Tryz.func207.trans (congrArg some (by kernel_rfl))
 f338:=Tryz.func208.trans (congrArg some (by kernel_rfl))
 t0:=Tryz.underlying0
 a0:=Tryz.isAgg0
 z0:=Tryz.sizeOf0
 v0:=Tryz.zeroValue0
 t2:=Tryz.underlying2
 a2:=Tryz.isAgg2
 z2:=Tryz.sizeOf2
 v2:=Tryz.zeroValue2
 t3:=Tryz.underlying3
 a3:=Tryz.isAgg3
 z3:=Tryz.sizeOf3
 v3:=Tryz.zeroValue3
 t4:=Tryz.underlying4
 a4:=Tryz.isAgg4
 z4:=Tryz.sizeOf4
 v4:=Tryz.zeroValue4
 t5:=Tryz.underlying5
 a5:=Tryz.isAgg5
 z5:=Tryz.sizeOf5
 v5:=Tryz.zeroValue5
 t9:=Tryz.underlying9
 a9:=Tryz.isAgg9
 z9:=Tryz.sizeOf9
 v9:=Tryz.zeroValue9
 t20:=Tryz.underlying20
 a20:=Tryz.isAgg20
 z20:=Tryz.sizeOf20
 v20:=Tryz.zeroValue20
 t37:=Tryz.underlying140
 a37:=Tryz.isAgg140
 z37:=Tryz.sizeOf140
 v37:=Tryz.zeroValue140
 t46:=Tryz.underlying170
 a46:=Tryz.isAgg170
 z46:=Tryz.sizeOf170
 v46:=Tryz.zeroValue170
 t51:=Tryz.underlying192
 a51:=Tryz.isAgg192
 z51:=Tryz.sizeOf192
 v51:=Tryz.zeroValue192
 t53:=Tryz.underlying194
 a53:=Tryz.isAgg194
 z53:=Tryz.sizeOf194
 v53:=Tryz.zeroValue194
 t171:=Tryz.underlying221
 a171:=Tryz.isAgg221
 z171:=Tryz.sizeOf221
 v171:=Tryz.zeroValue221
 t173:=Tryz.underlying223
 a173:=Tryz.isAgg223
 z173:=Tryz.sizeOf223
 v173:=Tryz.zeroValue223
 t212:=Tryz.underlying236
 a212:=Tryz.isAgg236
 z212:=Tryz.sizeOf236
 v212:=Tryz.zeroValue236
 t213:=Tryz.underlying237
 a213:=Tryz.isAgg237
 z213:=Tryz.sizeOf237
 t232:=Tryz.underlying242
 a232:=Tryz.isAgg242
 z232:=Tryz.sizeOf242
 v232:=Tryz.zeroValue242
 t233:=Tryz.underlying243
 a233:=Tryz.isAgg243
 z233:=Tryz.sizeOf243
 v233:=Tryz.zeroValue243
 g17:=by kernel_rfl
 g18:=by kernel_rfl
 g19:=by kernel_rfl
 i0:=by kernel_rfl
 i2:=by kernel_rfl
 i3:=by kernel_rfl
 i4:=by kernel_rfl
 i5:=by kernel_rfl
 i9:=by kernel_rfl
 i20:=by kernel_rfl
 i37:=by kernel_rfl
 i46:=by kernel_rfl
 i51:=by kernel_rfl
 i53:=by kernel_rfl
 i171:=by kernel_rfl
 i173:=by kernel_rfl
 i212:=by kernel_rfl
 i232:=by kernel_rfl
 i233:=by kernel_rfl
 m17:=by kernel_rfl
 m18:=by kernel_rfl
 m19:=by kernel_rfl }
open Go.RowKit Go.Sort Go.Lib in
theorem Tryz.strconv_Itoa (n:Int) (h0:-9223372036854775808≤n) (h1:n≤9223372036854775807) (w:World) (htab:Lib.TabIs Tryz.prog w "internal/strconv.uint64pow10" .u64 Lib.pow10Tab) :
 Calls Tryz.prog 98 #[.int .i64 n] w fun e w'=>e=.returned (.string ⟨(Lib.itoa n).toArray⟩)∧∃ k os,w'=grow (w.drewN k) os:=Any.strconv_Itoa Tryz.laysM171 n h0 h1 w htab
end Go.Proofs
end
noncomputable section
namespace Go.Sim
open Go.RowKit Go.Proofs
theorem xqy {w:World} {k:Nat} {os:Array Obj}:Below w.heap.size w (Sort.grow (w.drewN k) os):=by
 refine ⟨rfl,rfl,rfl,?_,fun i hi=>?_⟩
 · show w.heap.size≤(w.heap++os).size
   simp
 · show (w.heap++os)[i]?=_
   rw [Array.getElem?_append,if_pos hi]
def xe2:List AV→Option (Bool×AV)
 | [.str a,.str b]=>some (true,.int .i64 (Lib.compareBytes a b))
 | _=>none
theorem xkO:OcOk Tryz.prog ITryz 136 xe2:=fun xs r h=>by
 unfold xe2 at h;split at h
 · rename_i a b
   simp only [Option.some.injEq,Prod.mk.injEq,true_and] at h;subst h
   refine ⟨xdn Tryz.func136 rfl (by kernel_rfl),fun w A vs hI hA hrc=>?_⟩
   obtain ⟨v,u,rfl,h1,h2⟩:=rc2 hrc
   obtain ⟨s,rfl,rfl⟩:=h1.str_inv
   obtain ⟨t,rfl,rfl⟩:=h2.str_inv
   refine (Tryz.strings_Compare s t w).mono ?_
   rintro e w' ⟨rfl,rfl⟩
   exact ⟨_,rfl,Below.refl _ _,.int _ _⟩
 · simp at h
def xfP:List AV→Option (Bool×AV)
 | [.int .i64 n]=>some (decide (-9223372036854775808≤n)&&decide (n≤9223372036854775807),.str (Lib.itoa n))
 | _=>none
theorem xnn:OcOk Tryz.prog ITryz 98 xfP:=fun xs r h=>by
 unfold xfP at h;split at h
 · rename_i n
   simp only [Option.some.injEq,Prod.mk.injEq,decide_eq_true_eq,Bool.and_eq_true] at h;obtain ⟨⟨g1,g2⟩,rfl⟩:=h
   refine ⟨xdn Tryz.func98 rfl (by kernel_rfl),fun w A vs hI hA hrc=>?_⟩
   obtain ⟨v,rfl,h1⟩:=rc1 hrc
   obtain rfl:=h1.int_inv
   refine (Tryz.strconv_Itoa n g1 g2 w hI.tab).mono ?_
   rintro e w' ⟨rfl,k,os,rfl⟩
   exact ⟨_,rfl,xqy,.str _⟩
 · simp at h
end Go.Sim
end
noncomputable section
namespace Go.Sim
open Go.RowKit
variable {α β γ : Type}
structure Pat (α β:Type) where
 enc:β→α
 dec:α→Option β
 ok:∀ a b,dec a=some b→a=enc b
def pAny:Pat α α:=⟨fun b=>b,some,fun a b h=>by simpa using h⟩
def pInt (k:IntKind):Pat AV Int:=⟨.int k,fun v=>match v with
 | .int k' n=>match decide (k'=k) with
  | true=>some n
  | false=>none
 | _=>none,fun v n h=>by
 split at h
 · split at h
   · rename_i hk;simp only [Option.some.injEq] at h;rw [of_decide_eq_true hk,h]
   · simp at h
 · simp at h⟩
def pBool:Pat AV Bool:=⟨.bool,fun v=>match v with
 | .bool s=>some s
 | _=>none,fun v n h=>by
 split at h
 · simp only [Option.some.injEq] at h;rw [h]
 · simp at h⟩
def pList (sz:Nat) (q:Pat (List AV) β):Pat AV β:=⟨fun b=>.list sz (q.enc b),fun v=>match v with
 | .list z xs=>match Nat.beq z sz with
  | true=>q.dec xs
  | false=>none
 | _=>none,fun v n h=>by
 split at h
 · split at h
   · rename_i hz;rw [Nat.eq_of_beq_eq_true hz,q.ok _ _ h]
   · simp at h
 · simp at h⟩
def pOsl (id ver off:Nat):Pat AV Nat:=⟨.osl id ver off,fun v=>match v with
 | .osl (.b i) e o n=>match Nat.beq i id&&(Nat.beq e ver&&Nat.beq o off) with
  | true=>some n
  | false=>none
 | _=>none,fun v n h=>by
 split at h
 · split at h
   · rename_i hz
     simp only [Bool.and_eq_true] at hz
     simp only [Option.some.injEq] at h
     rw [Nat.eq_of_beq_eq_true hz.1,Nat.eq_of_beq_eq_true hz.2.1,Nat.eq_of_beq_eq_true hz.2.2,h]
   · simp at h
 · simp at h⟩
def pOwn (id ver i j:Nat):Pat AV Unit:=⟨fun _=>.own id ver i j,fun v=>match v with
 | .own (.b a) b c d=>match Nat.beq a id&&(Nat.beq b ver&&(Nat.beq c i&&Nat.beq d j)) with
  | true=>some ()
  | false=>none
 | _=>none,fun v n h=>by
 split at h
 · split at h
   · rename_i hz
     simp only [Bool.and_eq_true] at hz
     rw [Nat.eq_of_beq_eq_true hz.1,Nat.eq_of_beq_eq_true hz.2.1,Nat.eq_of_beq_eq_true hz.2.2.1,Nat.eq_of_beq_eq_true hz.2.2.2]
   · simp at h
 · simp at h⟩
def pAgg (q:Pat (List AV) β):Pat AV β:=⟨fun b=>.agg (q.enc b),fun v=>match v with
 | .agg cs=>q.dec cs
 | _=>none,fun v n h=>by
 split at h
 · rw [q.ok _ _ h]
 · simp at h⟩
def pFunc (f:Nat) (q:Pat (List AV) β):Pat AV β:=⟨fun b=>.func f (q.enc b),fun v=>match v with
 | .func g cs=>match Nat.beq g f with
  | true=>q.dec cs
  | false=>none
 | _=>none,fun v n h=>by
 split at h
 · split at h
   · rename_i hz;rw [Nat.eq_of_beq_eq_true hz,q.ok _ _ h]
   · simp at h
 · simp at h⟩
def pNil:Pat (List α) Unit:=⟨fun _=>[],fun v=>match v with
 | []=>some ()
 | _=>none,fun v n h=>by
 split at h
 · rfl
 · simp at h⟩
def pCons (p:Pat α β) (q:Pat (List α) γ):Pat (List α) (β×γ):=⟨fun b=>p.enc b.1::q.enc b.2,fun v=>match v with
 | x::t=>match p.dec x with
  | some b=>match q.dec t with
   | some c=>some (b,c)
   | none=>none
  | none=>none
 | _=>none,fun v n h=>by
 split at h
 · split at h
   · rename_i hp
     split at h
     · rename_i hq
       simp only [Option.some.injEq] at h
       subst h
       rw [p.ok _ _ hp,q.ok _ _ hq]
     · simp at h
   · simp at h
 · simp at h⟩
def pBox (ver sz ty:Nat) (frz pm:Bool) (q:Pat (List AV) β):Pat Box β:=⟨fun b=>⟨ver,sz,ty,q.enc b,frz,pm⟩,fun v=>match v with
 | ⟨a,b,c,xs,f,p⟩=>match Nat.beq a ver&&(Nat.beq b sz&&(Nat.beq c ty&&((f==frz)&&(p==pm)))) with
  | true=>q.dec xs
  | false=>none,fun v n h=>by
 obtain ⟨a,b,c,xs,f,p⟩:=v
 dsimp only at h;split at h
 · rename_i hz
   simp only [Bool.and_eq_true,beq_iff_eq] at hz
   rw [Nat.eq_of_beq_eq_true hz.1,Nat.eq_of_beq_eq_true hz.2.1,Nat.eq_of_beq_eq_true hz.2.2.1,hz.2.2.2.1,hz.2.2.2.2,q.ok _ _ h]
 · simp at h⟩
def Sub (a b:AV):Prop:=∀ (w:World) (A:Nat→Prop) (M:Id→Option MB) (v:Value),Rel w A M v a→Rel w A M v b
def SubL (aS bs:List AV):Prop:=aS.length=bs.length∧∀ i,i<aS.length→Sub (aS.getD i .top) (bs.getD i .top)
theorem Sub.refl (a:AV):Sub a a:=fun _ _ _ _ h=>h
theorem Sub.of_eq {a b:AV} (h:a=b):Sub a b:=h▸Sub.refl a
theorem xsz (sz:Nat):Sub .nils (.list sz []):=fun w A M v h=>by
 cases h;exact .list0 _ _ _
theorem xtf {aS bs:List AV} (h:SubL aS bs):Sub (.agg aS) (.agg bs):=fun w A M v hr=>by
 obtain ⟨vs,rfl,h1,h2⟩:=hr.agg_inv
 exact .agg vs bs (h1.trans h.1) fun i hi=>h.2 i (h.1.symm▸hi) w A M _ (h2 i (h.1.symm▸hi))
theorem xrQ {w:World} {A:Nat→Prop} {M:Id→Option MB} {vs:List Value} {aS bs:List AV} (h:SubL aS bs) (hr:RC w A M vs aS):RC w A M vs bs :=
 ⟨hr.1.trans h.1,fun i hi=>h.2 i (h.1.symm▸hi) w A M _ (hr.2 i (h.1.symm▸hi))⟩
structure SPat (β:Type) where
 enc:β→AV
 dec:AV→Option β
 ok:∀ a b,dec a=some b→Sub a (enc b)
structure SPatL (β:Type) where
 enc:β→List AV
 dec:List AV→Option β
 ok:∀ a b,dec a=some b→SubL a (enc b)
def sEq (p:Pat AV β):SPat β:=⟨p.enc,p.dec,fun a b h=>Sub.of_eq (p.ok a b h)⟩
def sList (sz:Nat) (q:Pat (List AV) β):SPat β:=⟨fun b=>.list sz (q.enc b),fun v=>match v with
 | .nils=>q.dec []
 | .list z xs=>match Nat.beq z sz with
  | true=>q.dec xs
  | false=>none
 | _=>none,fun v n h=>by
 split at h
 · rw [←q.ok _ _ h];exact xsz sz
 · split at h
   · rename_i hz;rw [Nat.eq_of_beq_eq_true hz,q.ok _ _ h];exact Sub.refl _
   · simp at h
 · simp at h⟩
def sAgg (q:SPatL β):SPat β:=⟨fun b=>.agg (q.enc b),fun v=>match v with
 | .agg cs=>q.dec cs
 | _=>none,fun v n h=>by
 split at h
 · exact xtf (q.ok _ _ h)
 · simp at h⟩
def sNil:SPatL Unit:=⟨fun _=>[],fun v=>match v with
 | []=>some ()
 | _=>none,fun v n h=>by
 split at h
 · exact ⟨rfl,fun i hi=>by simp at hi⟩
 · simp at h⟩
def sCons (p:SPat β) (q:SPatL γ):SPatL (β×γ):=⟨fun b=>p.enc b.1::q.enc b.2,fun v=>match v with
 | x::t=>match p.dec x with
  | some b=>match q.dec t with
   | some c=>some (b,c)
   | none=>none
  | none=>none
 | _=>none,fun v n h=>by
 split at h
 · split at h
   · rename_i hp
     split at h
     · rename_i hq
       simp only [Option.some.injEq] at h
       subst h
       obtain ⟨h1,h2⟩:=q.ok _ _ hq
       refine ⟨by simp [h1],fun i hi=>?_⟩
       cases i with
       | zero=>exact p.ok _ _ hp
       | succ i=>exact h2 i (by simpa using hi)
     · simp at h
   · simp at h
 · simp at h⟩
def ocOf (pv:SPatL β) (g:β→Bool×AV):List AV→Option (Bool×AV):=fun xs=>match pv.dec xs with
 | some b=>some (g b)
 | none=>none
def omOf (pv:SPatL β) (pb:Pat (List Box) γ) (g:β→γ→Bool×AV×List Box):List AV→List Box→Option (Bool×AV×List Box):=fun xs H=>match pv.dec xs with
 | some b=>match pb.dec H with
  | some c=>some (g b c)
  | none=>none
 | none=>none
def lpOf (live liveO:List Nat) (conv:List (Nat×Nat×TypeId)) (pv:Pat (List AV) β) (pb:Pat (List Box) γ) (g:β→γ→Bool×LR):Lp:=⟨live,liveO,conv,fun xs H=>match pv.dec xs with
 | some b=>match pb.dec H with
  | some c=>some (g b c)
  | none=>none
 | none=>none⟩
section
variable {P : Program} {Inv : IV}
theorem xa3 {n:FuncId} {pv:SPatL β} {g:β→Bool×AV} (h:∀ b r,g b=(true,r)→Good P Inv n (pv.enc b) r):OcOk P Inv n (ocOf pv g):=fun xs r e=>by
 unfold ocOf at e;split at e
 · rename_i b hb
   simp only [Option.some.injEq] at e
   obtain ⟨h1,h2⟩:=h b r e
   exact ⟨h1,fun w A vs hi ha hr=>h2 w A vs hi ha (xrQ (pv.ok _ _ hb) hr)⟩
 · simp at e
theorem xgB {n:FuncId} {pv:SPatL β} {pb:Pat (List Box) γ} {g:β→γ→Bool×AV×List Box} (h:∀ b c r H',g b c=(true,r,H')→GoodM P Inv n (pv.enc b) (pb.enc c) r H'):OmOk P Inv n (omOf pv pb g):=fun xs H r H' e=>by
 unfold omOf at e;split at e
 · rename_i b hb
   split at e
   · rename_i c hc
     simp only [Option.some.injEq] at e
     rw [pb.ok _ _ hc]
     obtain ⟨h1,h2⟩:=h b c r H' e
     exact ⟨h1,fun w0 w A M vs hi hb' hR hr=>h2 w0 w A M vs hi hb' hR (xrQ (pv.ok _ _ hb) hr)⟩
   · simp at e
 · simp at e
theorem xb2 {nt:Nat} {l:Code} {live liveO:List Nat} {conv:List (Nat×Nat×TypeId)} {pv:Pat (List AV) β} {pb:Pat (List Box) γ} {g:β→γ→Bool×LR}
  (h:∀ b c r,g b c=(true,r)→DoesL P Inv l (fun e1 s1=>e1=r.eval.1∧s1=⟨mkTs nt (liveO.zip r.eval.2.1),r.eval.2.2⟩) ⟨mkTs nt (live.zip (pv.enc b)),pb.enc c⟩):LoopOk P Inv nt l (lpOf live liveO conv pv pb g):=fun vals H r e=>by
 unfold lpOf at e;dsimp only at e;split at e
 · rename_i b hb
   split at e
   · rename_i c hc
     simp only [Option.some.injEq] at e
     rw [pv.ok _ _ hb,pb.ok _ _ hc]
     exact h b c r e
   · simp at e
 · simp at e
end
theorem xaa {x:Option α} {d:α} (h:x.isSome=true):x=some (x.getD d):=by
 cases x with
 | none=>simp at h
 | some y=>rfl
end Go.Sim
end
noncomputable section
namespace Go.Sim
open Go.RowKit
def EncS {α:Type} (f:α→AV) (a:Option α) (b:Option AV):Prop:=∀ r,a=some r→∃ x,b=some x∧Sub x (f r)
theorem EncS.none {α:Type} {f:α→AV} {b:Option AV}:EncS f .none b:=fun r h=>by simp at h
theorem EncS.some {α:Type} {f:α→AV} {a:α} {b:AV} (h:Sub b (f a)):EncS f (Option.some a) (Option.some b):=fun r e=>by simp only [Option.some.injEq] at e;subst e;exact ⟨b,rfl,h⟩
theorem EncS.br {α:Type} {f:α→AV} {t:Bool} {a a':Option α} {b b':Option AV} (h1:EncS f a b) (h2:EncS f a' b'):EncS f (Sim.br t a a') (Sim.br t b b'):=by cases t<;>assumption
theorem Good.sub {P:Program} {Inv:IV} {f:FuncId} {args:List AV} {r r':AV} (h:Good P Inv f args r) (hs:Sub r r'):Good P Inv f args r' :=
 ⟨h.1,fun w A vs hI hA hrc=>(h.2 w A vs hI hA hrc).mono fun e w' ⟨v,he,hb,hr⟩=>⟨v,he,hb,hs w' A noBox v hr⟩⟩
theorem GoodM.bump1 {P:Program} {Inv:IV} {f:FuncId} {args:List AV} {H:List Box} {v v' k sz:Nat} {ty:TypeId} {xs:List AV} {frz pm:Bool} (hpl:isC ty=false) (hv:v<v')
  (h:GoodM P Inv f args H (.osl (.b 0) v 0 k) [⟨v,sz,ty,xs,frz,pm⟩]):GoodM P Inv f args H (.osl (.b 0) v' 0 k) [⟨v',sz,ty,xs,frz,pm⟩]:=by
 refine ⟨h.1,fun w0 w A M vs hI hB hR hrc=>(h.2 w0 w A M vs hI hB hR hrc).mono ?_⟩
 rintro e w' ⟨u,A',M',rfl,h1,h2,h3,h4,h5⟩
 obtain ⟨m,g1,g2,g3,g4⟩:=Rel.osl_inv h5
 obtain ⟨bx,q1,q2⟩:=h4.box _ m g1
 have:bx=⟨v,sz,ty,xs,frz,pm⟩:=by
  have:=q1
  rw [xbr] at this
  simpa using this.symm
 subst this
 have hver:v=m.ver:=q2.ver
 have hext:MExt M' (MSet M' (.b 0) ⟨m.b,v',m.sz,m.cap,m.ty⟩):=xgR g1 (.inr (by simp only;omega))
 have hsame:∀ id m1,MSet M' (.b 0) ⟨m.b,v',m.sz,m.cap,m.ty⟩ id=some m1→∃ m0,M' id=some m0∧m1.b=m0.b∧m1.cap=m0.cap:=fun id m1 hm1=>by
  by_cases hi:id=.b 0
  · subst hi;simp [MSet] at hm1;subst hm1;exact ⟨m,g1,rfl,rfl⟩
  · exact ⟨m1,by simpa [MSet,hi] using hm1,rfl,rfl⟩
 have hR':HR w' A' (MSet M' (.b 0) ⟨m.b,v',m.sz,m.cap,m.ty⟩) w0.heap.size [⟨v',sz,ty,xs,frz,pm⟩]:=by
  refine ⟨fun id m1 hm1=>?_,fun id id' m1 m2 k1 k2 c1 c2 he=>?_,h4.lt⟩
  · by_cases hi:id=.b 0
    · subst hi
      have:m1=⟨m.b,v',m.sz,m.cap,m.ty⟩:=by simp [MSet] at hm1;exact hm1.symm
      subst this
      have q3:=q2.mono (w':=w') (fun _=>rfl) (fun _ _ _=>rfl) (Nat.le_refl _) (fun _ _ h=>h) q2.guard hext
      exact ⟨⟨v',sz,ty,xs,frz,pm⟩,rfl,rfl,q3.sz,q3.ty,q3.capm,q3.fits,q3.ok,q3.low,q3.lt,q3.cells,q3.guard⟩
    · have hm2:M' id=some m1:=by simpa [MSet,hi] using hm1
      obtain ⟨bx,k1,k2⟩:=h4.box id m1 hm2
      have k3:getB [⟨v',sz,ty,xs,frz,pm⟩] id=some bx:=by
       rw [←k1]
       exact xb3 (H:=[⟨v,sz,ty,xs,frz,pm⟩]) (n:=0) (bx:=⟨v,sz,ty,xs,frz,pm⟩) (bx':=⟨v',sz,ty,xs,frz,pm⟩) rfl hpl hpl hi
      exact ⟨bx,k3,k2.mono (fun _=>rfl) (fun _ _ _=>rfl) (Nat.le_refl _) (fun _ _ h=>h) k2.guard hext⟩
  · obtain ⟨n1,a1,a2,a3⟩:=hsame id m1 k1
    obtain ⟨n2,b1,b2,b3⟩:=hsame id' m2 k2
    exact h4.inj id id' n1 n2 a1 b1 (by omega) (by omega) (by rw [←a2,←b2,he])
 refine ⟨u,A',MSet M' (.b 0) ⟨m.b,v',m.sz,m.cap,m.ty⟩,rfl,h1,h2,h3.step ⟨Nat.le_refl _,fun _ _ _=>rfl,fun _ _ h=>h,fun _ _ h _=>h,hext,⟨fun _ _ _=>rfl,fun id m1 hm1 h0=>?_⟩⟩,hR',?_⟩
 · obtain ⟨n1,a1,a2,a3⟩:=hsame id m1 hm1
   exact .inl ⟨id,n1,a1,by omega,a2⟩
 · exact .osl u (.b 0) v' 0 k ⟨m.b,v',m.sz,m.cap,m.ty⟩ (by simp [MSet]) (Nat.le_refl _) g3 fun _=>g4 hver
end Go.Sim
end
noncomputable section
namespace Go.Sim.M
open Go.RowKit Go.Proofs
noncomputable def EB:Env:=Env.none
theorem xsF:OrcOk Tryz.prog ITryz EB:=xmo
end Go.Sim.M
end
noncomputable section
set_option maxRecDepth 100000
namespace Go.Sim.M
open Go.IntKind (i64 u64 u8)
open Go.RowKit Go.Proofs
def xcw:Env:=EB.fn 18 0 (lsOf []) (lpsOf [])
theorem xjO:OrcOk Tryz.prog (ITryz.at 0) xcw:=xsF.fn
theorem xiG:LoOk Tryz.prog (ITryz.at xcw.pin) xcw (Tryz.f79.body.getD .skip):=xah (by kernel_rfl)
def xbs (a b:Int):Bool:=(br (decide (a≥0)) (br (decide (a<b)) ((decide (b≤1099511627776))) ((false))) ((false)))
def xgU (a b:Int):Bool:=true
def xih {T:Type} (a b:Int) (δ:T) (κ:Bool→T):T:=br (decide (a≥0)) (br (decide (a<b)) (κ (decide (b≤1099511627776))) (κ (false))) (κ (false))
theorem xm5 (a b:Int):Pre (xgU a b) (XF Tryz.prog xcw Tryz.f79 (Tryz.f79.body.getD .skip) [AV.agg [AV.int .i64 a,AV.int .i64 b]]) (AV.bool (xbs a b)):=by
 have h:XF Tryz.prog xcw Tryz.f79 (Tryz.f79.body.getD .skip) [AV.agg [AV.int .i64 a,AV.int .i64 b]]=xih a b none (fun (p:Bool)=>some ((AV.bool p):AV)):=by kernel_rfl
 rw [h];unfold xbs xgU xih;repeat' (first|exact Pre.none|exact Pre.tt rfl|exact Pre.some rfl|refine Pre.l ?_|refine Pre.r ?_|refine Pre.br (f:=fun (p:Bool)=>((AV.bool p):AV)) ?_ ?_|refine Pre.brt (f:=fun (p:Bool)=>((AV.bool p):AV)) ?_ ?_)
def xig:LA→Option (Bool×AV):=ocOf (sCons (sAgg (sCons (sEq (pInt .i64)) (sCons (sEq (pInt .i64)) sNil))) sNil) fun ((a,(b,_)),_)=>(true,(AV.bool (xbs a b)))
theorem xm4:OcOk Tryz.prog ITryz 79 (xig):=xa3 fun b g c=>by
 obtain ⟨⟨d,⟨e,_⟩⟩,_⟩:=b
 obtain ⟨f,a⟩:=Prod.mk.inj c
 refine xal (p:=xcw.pin) (xat mxTryz (inv0Ok Tryz.prog _) rfl xjO Tryz.func79 rfl (by kernel_rfl) xiG ((Pre.get (xm5 _ _) rfl).trans ?_))
 exact congrArg some a
def xoC:Env:=EB.with 79 xig
theorem xno:OrcOk Tryz.prog ITryz xoC:=xsF.with xm4
def xbz:Env:=xoC.fn 25 0 (lsOf []) (lpsOf [])
theorem xif:OrcOk Tryz.prog (ITryz.at 0) xbz:=xno.fn
theorem xgT:LoOk Tryz.prog (ITryz.at xbz.pin) xbz (Tryz.f119.body.getD .skip):=xah (by kernel_rfl)
def xbI (a b c d:Int):Bool:=(br (xbs a b) (br (xbs c d) (br (decide (a<d)) ((decide (c<b))) ((false))) ((false))) ((false)))
def xfC (a b c d:Int):Bool:=true
def xgm {T:Type} (a b c d:Int) (δ:T) (κ:Bool→T):T:=br (xbs a b) (br (xbs c d) (br (decide (a<d)) (κ (decide (c<b))) (κ (false))) (κ (false))) (κ (false))
theorem xky (a b c d:Int):Pre (xfC a b c d) (XF Tryz.prog xbz Tryz.f119 (Tryz.f119.body.getD .skip) [AV.agg [AV.int .i64 a,AV.int .i64 b],AV.agg [AV.int .i64 c,AV.int .i64 d]]) (AV.bool (xbI a b c d)):=by
 have h:XF Tryz.prog xbz Tryz.f119 (Tryz.f119.body.getD .skip) [AV.agg [AV.int .i64 a,AV.int .i64 b],AV.agg [AV.int .i64 c,AV.int .i64 d]]=xgm a b c d none (fun (p:Bool)=>some ((AV.bool p):AV)):=by kernel_rfl
 rw [h];unfold xbI xfC xgm;repeat' (first|exact Pre.none|exact Pre.tt rfl|exact Pre.some rfl|refine Pre.l ?_|refine Pre.r ?_|refine Pre.br (f:=fun (p:Bool)=>((AV.bool p):AV)) ?_ ?_|refine Pre.brt (f:=fun (p:Bool)=>((AV.bool p):AV)) ?_ ?_)
def xgl:LA→Option (Bool×AV):=ocOf (sCons (sAgg (sCons (sEq (pInt .i64)) (sCons (sEq (pInt .i64)) sNil))) (sCons (sAgg (sCons (sEq (pInt .i64)) (sCons (sEq (pInt .i64)) sNil))) sNil)) fun ((a,(b,_)),((c,(d,_)),_))=>(true,(AV.bool (xbI a b c d)))
theorem xkw:OcOk Tryz.prog ITryz 119 (xgl):=xa3 fun b i c=>by
 obtain ⟨⟨d,⟨e,_⟩⟩,⟨⟨f,⟨g,_⟩⟩,_⟩⟩:=b
 obtain ⟨h,a⟩:=Prod.mk.inj c
 refine xal (p:=xbz.pin) (xat mxTryz (inv0Ok Tryz.prog _) rfl xif Tryz.func119 rfl (by kernel_rfl) xgT ((Pre.get (xky _ _ _ _) rfl).trans ?_))
 exact congrArg some a
def xoD:Env:=xoC.with 119 xgl
theorem xnp:OrcOk Tryz.prog ITryz xoD:=xno.with xkw
def xbm:Env:=xoD.fn 22 0 (lsOf []) (lpsOf [])
theorem xhH:OrcOk Tryz.prog (ITryz.at 0) xbm:=xnp.fn
theorem xgS:LoOk Tryz.prog (ITryz.at xbm.pin) xbm (Tryz.f85.body.getD .skip):=xah (by kernel_rfl)
def xad (a b c d:Int):Int×Int×Bool:=(br (!xbI a b c d) ((0,0,false)) ((if c>a then c else a,if d<b then d else b,true)))
def xfr (a b c d:Int):Bool:=true
def xf3 {T:Type} (a b c d:Int) (δ:T) (κ:Int×Int×Bool→T):T:=br (!xbI a b c d) (κ (0,0,false)) (κ (if c>a then c else a,if d<b then d else b,true))
theorem xjN (a b c d:Int):Pre (xfr a b c d) (XF Tryz.prog xbm Tryz.f85 (Tryz.f85.body.getD .skip) [AV.agg [AV.int .i64 a,AV.int .i64 b],AV.agg [AV.int .i64 c,AV.int .i64 d]]) (AV.tuple [AV.agg [AV.int .i64 (xad a b c d).1,AV.int .i64 (xad a b c d).2.1],AV.bool (xad a b c d).2.2]):=by
 have h:XF Tryz.prog xbm Tryz.f85 (Tryz.f85.body.getD .skip) [AV.agg [AV.int .i64 a,AV.int .i64 b],AV.agg [AV.int .i64 c,AV.int .i64 d]]=xf3 a b c d none (fun (p:Int×Int×Bool)=>some ((AV.tuple [AV.agg [AV.int .i64 p.1,AV.int .i64 p.2.1],AV.bool p.2.2]):AV)):=by kernel_rfl
 rw [h];unfold xad xfr xf3;repeat' (first|exact Pre.none|exact Pre.tt rfl|exact Pre.some rfl|refine Pre.l ?_|refine Pre.r ?_|refine Pre.br (f:=fun (p:Int×Int×Bool)=>((AV.tuple [AV.agg [AV.int .i64 p.1,AV.int .i64 p.2.1],AV.bool p.2.2]):AV)) ?_ ?_|refine Pre.brt (f:=fun (p:Int×Int×Bool)=>((AV.tuple [AV.agg [AV.int .i64 p.1,AV.int .i64 p.2.1],AV.bool p.2.2]):AV)) ?_ ?_)
def xf2:LA→Option (Bool×AV):=ocOf (sCons (sAgg (sCons (sEq (pInt .i64)) (sCons (sEq (pInt .i64)) sNil))) (sCons (sAgg (sCons (sEq (pInt .i64)) (sCons (sEq (pInt .i64)) sNil))) sNil)) fun ((a,(b,_)),((c,(d,_)),_))=>(true,(AV.tuple [AV.agg [AV.int .i64 (xad a b c d).1,AV.int .i64 (xad a b c d).2.1],AV.bool (xad a b c d).2.2]))
theorem xjM:OcOk Tryz.prog ITryz 85 (xf2):=xa3 fun b i c=>by
 obtain ⟨⟨d,⟨e,_⟩⟩,⟨⟨f,⟨g,_⟩⟩,_⟩⟩:=b
 obtain ⟨h,a⟩:=Prod.mk.inj c
 refine xal (p:=xbm.pin) (xat mxTryz (inv0Ok Tryz.prog _) rfl xhH Tryz.func85 rfl (by kernel_rfl) xgS ((Pre.get (xjN _ _ _ _) rfl).trans ?_))
 exact congrArg some a
def xoE:Env:=xoD.with 85 xf2
theorem xnq:OrcOk Tryz.prog ITryz xoE:=xnp.with xjM
def xeT:Env:=xoE.fn 29 1 (lsOf []) (lpsOf [])
theorem xmP:OrcOk Tryz.prog (ITryz.at 1) xeT:=xnq.fn
theorem xkN:LoOk Tryz.prog (ITryz.at xeT.pin) xeT (Tryz.f82.body.getD .skip):=xah (by kernel_rfl)
def xh4 {T:Type} (k:Nat) (b n:Int) (a:LA) (δ:T) (κ:Bool×(Nat×LA)×(Nat×LA)→T):T:=br (decide ((↑k:Int)>0)) (br (decide (0≤i64.wrap ((↑k:Int) - 1))&&decide (i64.wrap ((↑k:Int) - 1)<(↑k:Int))) (br (decide (0+(i64.wrap ((↑k:Int) - 1)).toNat<a.length)&&hasSh1 (Sh.int .i64) ((a.getD (0+(i64.wrap ((↑k:Int) - 1)).toNat) .top).cells.getD 1 .top)) (br (((a.getD (0+(i64.wrap ((↑k:Int) - 1)).toNat) .top).cells.getD 1 .top).toInt==n) (κ (true,(k,a),(0,[]))) (br (k==a.length&&(decide ((k+1)*16≤140737488355328)&&decide (k+1≤4611686018427387904))) (κ (false,(0,[]),(k+1,a++[AV.agg [AV.int .i64 b,AV.int .i64 n]]))) δ)) δ) δ) (br (k==a.length&&(decide ((k+1)*16≤140737488355328)&&decide (k+1≤4611686018427387904))) (κ (false,(0,[]),(k+1,a++[AV.agg [AV.int .i64 b,AV.int .i64 n]]))) δ)
def xbj (k:Nat) (a n:Int) (b:LA):Option (Bool×(Nat×LA)×(Nat×LA)):=xh4 k a n b none some
theorem xpV (k:Nat) (a n:Int) (xs:LA):Enc (fun (p:Bool×(Nat×LA)×(Nat×LA))=>((br p.1 ((AV.osl 0 0 0 p.2.1.1,([⟨0,2,86,p.2.1.2,false,true⟩]:List Box))) ((AV.osl 0 1 0 p.2.2.1,([⟨1,2,86,p.2.2.2,false,true⟩]:List Box)))):(AV×List Box))) (xbj k a n xs) (XFM Tryz.prog xeT Tryz.f82 (Tryz.f82.body.getD .skip) [AV.osl (0:Id) 0 0 k,AV.int .i64 a,AV.int .i64 n] [{ ver:=0,sz:=2,ty:=(86:TypeId),xs:=xs,frz:=false,pm:=true }]):=by
 refine eV (xh4 k a n xs none (fun (p:Bool×(Nat×LA)×(Nat×LA))=>some ((br p.1 ((AV.osl 0 0 0 p.2.1.1,([⟨0,2,86,p.2.1.2,false,true⟩]:List Box))) ((AV.osl 0 1 0 p.2.2.1,([⟨1,2,86,p.2.2.2,false,true⟩]:List Box)))):(AV×List Box)))) (by kernel_rfl) ?_;unfold xbj xh4;repeat' first|exact eN|exact eS rfl|apply eB
def xk9:LA→List Box→Option (Bool×AV×List Box):=omOf (sCons (sEq (pOsl 0 0 0)) (sCons (sEq (pInt .i64)) (sCons (sEq (pInt .i64)) sNil))) (pCons (pBox 0 2 (86:TypeId) false true pAny) pNil) fun (k,(a,(n,_))) (b,_)=>((xbj k a n b).isSome,(AV.osl 0 1 0 (br ((xbj k a n b).getD (false,(0,[]),(0,[]))).1 ((xbj k a n b).getD (false,(0,[]),(0,[]))).2.1.1 ((xbj k a n b).getD (false,(0,[]),(0,[]))).2.2.1),([⟨1,2,86,(br ((xbj k a n b).getD (false,(0,[]),(0,[]))).1 ((xbj k a n b).getD (false,(0,[]),(0,[]))).2.1.2 ((xbj k a n b).getD (false,(0,[]),(0,[]))).2.2.2),false,true⟩]:List Box)))
theorem xpU:OmOk Tryz.prog ITryz 82 (xk9):=xgB fun e f j i g=>by
 obtain ⟨k,⟨b,⟨n,_⟩⟩⟩:=e
 obtain ⟨h,_⟩:=f
 obtain ⟨c,a⟩:=Prod.mk.inj g
 have hx:=xpV _ _ _ _ _ (xaa (d:=(false,(0,[]),(0,[]))) c)
 revert hx a
 generalize ((xbj k b n h).getD (false,(0,[]),(0,[])))=p
 intro a hx
 obtain ⟨rfl,rfl⟩:=Prod.mk.inj a
 obtain ⟨t,⟨l,m⟩,o,q⟩:=p
 have hg:GoodM Tryz.prog ITryz 82 _ _ _ _:=xd7 (p:=xeT.pin) (xeG mxTryz (inv0Ok Tryz.prog _) rfl xmP rfl Tryz.func82 rfl (by kernel_rfl) xkN hx)
 cases t
 · exact hg
 · exact GoodM.bump1 rfl (by decide) hg
def xoF:Env:=xoE.withM 82 xk9
theorem xnr:OrcOk Tryz.prog ITryz xoF:=xnq.withM xpU
def xel:Env:=xoF.fn 14 1 (lsOf []) (lpsOf [])
theorem xmZ:OrcOk Tryz.prog (ITryz.at 1) xel:=xnr.fn
theorem xld:LoOk Tryz.prog (ITryz.at xel.pin) xel (Tryz.f51.body.getD .skip):=xah (by kernel_rfl)
def xfE (f t n a:Int):Int:=((i64.wrap (a+i64.wrap (n*i64.wrap (t - f)))))
def xjv (f t n a:Int):Bool:=true
def xl1 {T:Type} (f t n a:Int) (δ:T) (κ:Int→T):T:=κ (i64.wrap (a+i64.wrap (n*i64.wrap (t - f))))
theorem xqs (f t n a:Int):Pre (xjv f t n a) (XFM Tryz.prog xel Tryz.f51 (Tryz.f51.body.getD .skip) [AV.agg [AV.int .i64 f,AV.int .i64 t],AV.int .i64 n,AV.own (0:Id) 0 0 0] [{ ver:=0,sz:=1,ty:=(3:TypeId),xs:=[AV.int .i64 a],frz:=false,pm:=true }]) ((AV.tuple [],([⟨0,1,3,[AV.int .i64 (xfE f t n a)],false,true⟩]:List Box))):=by
 have h:XFM Tryz.prog xel Tryz.f51 (Tryz.f51.body.getD .skip) [AV.agg [AV.int .i64 f,AV.int .i64 t],AV.int .i64 n,AV.own (0:Id) 0 0 0] [{ ver:=0,sz:=1,ty:=(3:TypeId),xs:=[AV.int .i64 a],frz:=false,pm:=true }]=xl1 f t n a none (fun (p:Int)=>some (((AV.tuple [],([⟨0,1,3,[AV.int .i64 p],false,true⟩]:List Box))):(AV×List Box))):=by kernel_rfl
 rw [h];unfold xfE xjv xl1;repeat' (first|exact Pre.none|exact Pre.tt rfl|exact Pre.some rfl|refine Pre.l ?_|refine Pre.r ?_|refine Pre.br (f:=fun (p:Int)=>(((AV.tuple [],([⟨0,1,3,[AV.int .i64 p],false,true⟩]:List Box))):(AV×List Box))) ?_ ?_|refine Pre.brt (f:=fun (p:Int)=>(((AV.tuple [],([⟨0,1,3,[AV.int .i64 p],false,true⟩]:List Box))):(AV×List Box))) ?_ ?_)
def xl0:LA→List Box→Option (Bool×AV×List Box):=omOf (sCons (sAgg (sCons (sEq (pInt .i64)) (sCons (sEq (pInt .i64)) sNil))) (sCons (sEq (pInt .i64)) (sCons (sEq (pOwn 0 0 0 0)) sNil))) (pCons (pBox 0 1 (3:TypeId) false true (pCons (pInt .i64) pNil)) pNil) fun ((f,(t,_)),(n,(_,_))) ((a,_),_)=>(true,((AV.tuple [],([⟨0,1,3,[AV.int .i64 (xfE f t n a)],false,true⟩]:List Box))))
theorem xqr:OmOk Tryz.prog ITryz 51 (xl0):=xgB fun b c h e d=>by
 obtain ⟨⟨f,⟨t,_⟩⟩,⟨n,⟨_,_⟩⟩⟩:=b
 obtain ⟨⟨i,_⟩,_⟩:=c
 obtain ⟨g,a⟩:=Prod.mk.inj d
 refine xd7 (p:=xel.pin) (xeG mxTryz (inv0Ok Tryz.prog _) rfl xmZ rfl Tryz.func51 rfl (by kernel_rfl) xld ((Pre.get (xqs _ _ _ _) rfl).trans ?_))
 exact congrArg some a
def xoG:Env:=xoF.withM 51 xl0
theorem xns:OrcOk Tryz.prog ITryz xoG:=xnr.withM xqr
def xdJ:Env:=xoG.fn 17 3 (lsOf [1000035]) (lpsOf [])
theorem xl2:OrcOk Tryz.prog (ITryz.at 3) xdJ:=xns.fn
theorem xkt:LoOk Tryz.prog (ITryz.at xdJ.pin) xdJ (Tryz.f50.body.getD .skip):=xah (by kernel_rfl)
def xbX (f t n:Int) (a:Bool) (b c:Int):Bool×Int×Int:=(br (!a) ((true,n,f)) (br (decide (n>b)) ((true,n,f)) ((a,b,c))))
def xiY (f t n:Int) (b:Bool) (c a:Int):Bool:=true
def xkQ {T:Type} (f t n:Int) (a:Bool) (b c:Int) (δ:T) (κ:Bool×Int×Int→T):T:=br (!a) (κ (true,n,f)) (br (decide (n>b)) (κ (true,n,f)) (κ (a,b,c)))
theorem xpv (f t n:Int) (b:Bool) (c a:Int):Pre (xiY f t n b c a) (XFM Tryz.prog xdJ Tryz.f50 (Tryz.f50.body.getD .skip) [AV.agg [AV.int .i64 f,AV.int .i64 t],AV.int .i64 n,AV.own (0:Id) 0 0 0,AV.own (1:Id) 0 0 0,AV.own (2:Id) 0 0 0] [{ ver:=0,sz:=1,ty:=(4:TypeId),xs:=[AV.bool b],frz:=false,pm:=true },{ ver:=0,sz:=1,ty:=(3:TypeId),xs:=[AV.int .i64 c],frz:=false,pm:=true },{ ver:=0,sz:=1,ty:=(3:TypeId),xs:=[AV.int .i64 a],frz:=false,pm:=true }]) ((AV.tuple [],([⟨0,1,4,[AV.bool (xbX f t n b c a).1],false,true⟩,⟨0,1,3,[AV.int .i64 (xbX f t n b c a).2.1],false,true⟩,⟨0,1,3,[AV.int .i64 (xbX f t n b c a).2.2],false,true⟩]:List Box))):=by
 have h:XFM Tryz.prog xdJ Tryz.f50 (Tryz.f50.body.getD .skip) [AV.agg [AV.int .i64 f,AV.int .i64 t],AV.int .i64 n,AV.own (0:Id) 0 0 0,AV.own (1:Id) 0 0 0,AV.own (2:Id) 0 0 0] [{ ver:=0,sz:=1,ty:=(4:TypeId),xs:=[AV.bool b],frz:=false,pm:=true },{ ver:=0,sz:=1,ty:=(3:TypeId),xs:=[AV.int .i64 c],frz:=false,pm:=true },{ ver:=0,sz:=1,ty:=(3:TypeId),xs:=[AV.int .i64 a],frz:=false,pm:=true }]=xkQ f t n b c a none (fun (p:Bool×Int×Int)=>some (((AV.tuple [],([⟨0,1,4,[AV.bool p.1],false,true⟩,⟨0,1,3,[AV.int .i64 p.2.1],false,true⟩,⟨0,1,3,[AV.int .i64 p.2.2],false,true⟩]:List Box))):(AV×List Box))):=by kernel_rfl
 rw [h];unfold xbX xiY xkQ;repeat' (first|exact Pre.none|exact Pre.tt rfl|exact Pre.some rfl|refine Pre.l ?_|refine Pre.r ?_|refine Pre.br (f:=fun (p:Bool×Int×Int)=>(((AV.tuple [],([⟨0,1,4,[AV.bool p.1],false,true⟩,⟨0,1,3,[AV.int .i64 p.2.1],false,true⟩,⟨0,1,3,[AV.int .i64 p.2.2],false,true⟩]:List Box))):(AV×List Box))) ?_ ?_|refine Pre.brt (f:=fun (p:Bool×Int×Int)=>(((AV.tuple [],([⟨0,1,4,[AV.bool p.1],false,true⟩,⟨0,1,3,[AV.int .i64 p.2.1],false,true⟩,⟨0,1,3,[AV.int .i64 p.2.2],false,true⟩]:List Box))):(AV×List Box))) ?_ ?_)
def xkP:LA→List Box→Option (Bool×AV×List Box):=omOf (sCons (sAgg (sCons (sEq (pInt .i64)) (sCons (sEq (pInt .i64)) sNil))) (sCons (sEq (pInt .i64)) (sCons (sEq (pOwn 0 0 0 0)) (sCons (sEq (pOwn 1 0 0 0)) (sCons (sEq (pOwn 2 0 0 0)) sNil))))) (pCons (pBox 0 1 (4:TypeId) false true (pCons pBool pNil)) (pCons (pBox 0 1 (3:TypeId) false true (pCons (pInt .i64) pNil)) (pCons (pBox 0 1 (3:TypeId) false true (pCons (pInt .i64) pNil)) pNil))) fun ((f,(t,_)),(n,(_,(_,(_,_))))) ((b,_),((c,_),((a,_),_)))=>(true,((AV.tuple [],([⟨0,1,4,[AV.bool (xbX f t n b c a).1],false,true⟩,⟨0,1,3,[AV.int .i64 (xbX f t n b c a).2.1],false,true⟩,⟨0,1,3,[AV.int .i64 (xbX f t n b c a).2.2],false,true⟩]:List Box))))
theorem xpu:OmOk Tryz.prog ITryz 50 (xkP):=xgB fun b c i e d=>by
 obtain ⟨⟨f,⟨t,_⟩⟩,⟨n,⟨_,⟨_,⟨_,_⟩⟩⟩⟩⟩:=b
 obtain ⟨⟨j,_⟩,⟨⟨k,_⟩,⟨⟨g,_⟩,_⟩⟩⟩:=c
 obtain ⟨h,a⟩:=Prod.mk.inj d
 refine xd7 (p:=xdJ.pin) (xeG mxTryz (inv0Ok Tryz.prog _) rfl xl2 rfl Tryz.func50 rfl (by kernel_rfl) xkt ((Pre.get (xpv _ _ _ _ _ _) rfl).trans ?_))
 exact congrArg some a
def xlR:Env:=xoG.withM 50 xkP
theorem xjh:OrcOk Tryz.prog ITryz xlR:=xns.withM xpu
def xbk:Env:=xlR.fn 45 1 (lsOf []) (lpsOf [])
theorem xhv:OrcOk Tryz.prog (ITryz.at 1) xbk:=xjh.fn
theorem xga:LoOk Tryz.prog (ITryz.at xbk.pin) xbk (loopAt Tryz.f49 0):=xah (by kernel_rfl)
def xcb (l d:LA) (a b c:Int):=xad b c ((d.getD a.toNat .top).cells.getD 0 .top).toInt ((l.getD (i64.wrap (a+1)).toNat .top).cells.getD 0 .top).toInt
def xcc (l:LA) (a:Int):=decide (i64.wrap (a+1)<(↑l.length:Int))
def xca (l c:LA) (d a b:Int):=(xcb l c d a b).snd
def xa0 {T:Type} (l d:LA) (f a e b c:Int) (δ:T) (κl:(Int×Int×Int×Int)→T) (κr:(Int)→T):T:=br (decide (a<f)) (br (decide (0≤a)&&decide (a<d.length)) (br (decide (a.toNat<d.length)&&((d.getD a.toNat .top).cells.length==2&&hasShs [Sh.int .i64,Sh.int .i64] (d.getD a.toNat .top).cells 0)) (br (xcc l a) (br (decide (0≤i64.wrap (a+1))&&xcc l a) (br (decide ((i64.wrap (a+1)).toNat<l.length)&&hasSh1 (Sh.int .i64) ((l.getD (i64.wrap (a+1)).toNat .top).cells.getD 0 .top)) (br ((xca l d a b c).snd) (κl (i64.wrap (a+1),xfE (xcb l d a b c).fst (xca l d a b c).fst ((d.getD a.toNat .top).cells.getD 1 .top).toInt e,b,c)) (κl (i64.wrap (a+1),e,b,c))) δ) δ) (br ((xad b c ((d.getD a.toNat .top).cells.getD 0 .top).toInt 1099511627776).snd.snd) (κl (i64.wrap (a+1),xfE (xad b c ((d.getD a.toNat .top).cells.getD 0 .top).toInt 1099511627776).fst (xad b c ((d.getD a.toNat .top).cells.getD 0 .top).toInt 1099511627776).snd.fst ((d.getD a.toNat .top).cells.getD 1 .top).toInt e,b,c)) (κl (i64.wrap (a+1),e,b,c)))) δ) δ) (κr (e))
def xag (l d:LA) (e:Int):(Int×Int×Int×Int)→Option ((Int×Int×Int×Int)⊕(Int)):=fun (f,a,b,c)=>xa0 l d e f a b c none (fun s=>some (.inl s)) (fun p=>some (.inr p))
def xax (l d:LA) (e:Int):(Int×Int×Int×Int)→LA×List Box:=fun (f,a,b,c)=>([AV.list 2 l,AV.func 51 [AV.own 0 0 0 0],AV.own 1 0 0 0,AV.list 2 d,AV.int .i64 e,AV.int .i64 f],[⟨0,1,3,[AV.int .i64 a],false,true⟩,⟨0,2,35,[AV.agg [AV.int .i64 b,AV.int .i64 c]],false,true⟩])
def xaJ (l a:LA) (b:Int):(Int)→LR:=fun p=>(.leaf (.exit 0) [] [⟨0,1,3,[AV.int .i64 p],false,true⟩])
abbrev xh9 (a:LA) (H:List Box):=XR Tryz.prog xbk [0,2,4,11,12,13] [] [] (loopAt Tryz.f49 0) a H
theorem xia (l a:LA) (b:Int) (s:Int×Int×Int×Int):Enc (encR (xax l a b) (xaJ l a b)) (xag l a b s) (xh9 (xax l a b s).1 (xax l a b s).2):=by
 obtain ⟨f,c,d,e⟩:=s
 refine eV (xa0 l a b f c d e none (fun s=>some (encR (xax l a b) (xaJ l a b) (.inl s))) (fun p=>some (encR (xax l a b) (xaJ l a b) (.inr p)))) (by kernel_rfl) ?_;unfold xag xa0;repeat' first|exact eN|exact eS rfl|apply eB
def xe3:Lp:=lpOf [0,2,4,11,12,13] [] [] (pCons (pList 2 pAny) (pCons (pFunc 51 (pCons (pOwn 0 0 0 0) pNil)) (pCons (pOwn 1 0 0 0) (pCons (pList 2 pAny) (pCons (pInt .i64) (pCons (pInt .i64) pNil)))))) (pCons (pBox 0 1 3 false true (pCons (pInt .i64) pNil)) (pCons (pBox 0 2 35 false true (pCons (pAgg (pCons (pInt .i64) (pCons (pInt .i64) pNil))) pNil)) pNil)) fun (l,((_,_),(_,(a,(b,(f,_)))))) ((c,_),(((d,(e,_)),_),_))=>((Iter (xag l a b) (f,c,d,e)).isSome,xaJ l a b ((Iter (xag l a b) (f,c,d,e)).getD 0))
theorem xhc:LoopOk Tryz.prog (ITryz.at xbk.pin) xbk.nt (loopAt Tryz.f49 0) xe3:=xb2 fun h i k j=>by
 obtain ⟨l,⟨⟨_,_⟩,⟨_,⟨a,⟨b,⟨f,_⟩⟩⟩⟩⟩⟩:=h
 obtain ⟨⟨c,_⟩,⟨⟨⟨d,⟨e,_⟩⟩,_⟩,_⟩⟩:=i
 obtain ⟨g,rfl⟩:=Prod.mk.inj j
 exact xau mxTryz (inv0Ok Tryz.prog _) rfl xhv xga (xax l a b) (xaJ l a b) (fun p=>by simp only [xaJ,LR.eval];first|(simp;done)|(repeat' split<;>simp)) (xia l a b) (s:=(f,c,d,e)) (xaa g)
def xb0:Env:=xlR.fn 45 1 (lsOf []) (lpsOf [(2,xe3)])
theorem xhw:OrcOk Tryz.prog (ITryz.at 1) xb0:=xjh.fn
theorem xgH:LoOk Tryz.prog (ITryz.at xb0.pin) xb0 (Tryz.f49.body.getD .skip):=xaY (ls:=[loopAt Tryz.f49 0]) (by kernel_rfl) (lkC xhc lkN)
def xdl {T:Type} (l:LA) (f t a:Int) (δ:T) (κ:Int→T):T:=br ((Iter (xag l l (↑l.length:Int)) (0,a,f,t)).isSome) (κ ((Iter (xag l l (↑l.length:Int)) (0,a,f,t)).getD 0)) δ
def xa5 (l:LA) (f t a:Int):Option (Int):=xdl l f t a none some
theorem xjy (l:LA) (f t a:Int):Enc (fun (p:Int)=>(((AV.tuple [],([⟨0,1,3,[AV.int .i64 p],false,true⟩]:List Box))):(AV×List Box))) (xa5 l f t a) (XFM Tryz.prog xb0 Tryz.f49 (Tryz.f49.body.getD .skip) [AV.list 2 l,AV.agg [AV.int .i64 f,AV.int .i64 t],AV.func (51:FuncId) [AV.own (0:Id) 0 0 0]] [{ ver:=0,sz:=1,ty:=(3:TypeId),xs:=[AV.int .i64 a],frz:=false,pm:=true }]):=by
 refine eV (xdl l f t a none (fun (p:Int)=>some (((AV.tuple [],([⟨0,1,3,[AV.int .i64 p],false,true⟩]:List Box))):(AV×List Box)))) (by kernel_rfl) ?_;unfold xa5 xdl;repeat' first|exact eN|exact eS rfl|apply eB
def xfZ:LA→List Box→Option (Bool×AV×List Box):=omOf (sCons (sList 2 pAny) (sCons (sAgg (sCons (sEq (pInt .i64)) (sCons (sEq (pInt .i64)) sNil))) (sCons (sEq (pFunc (51:FuncId) (pCons (pOwn 0 0 0 0) pNil))) sNil))) (pCons (pBox 0 1 (3:TypeId) false true (pCons (pInt .i64) pNil)) pNil) fun (l,((f,(t,_)),((_,_),_))) ((a,_),_)=>((xa5 l f t a).isSome,((AV.tuple [],([⟨0,1,3,[AV.int .i64 ((xa5 l f t a).getD 0)],false,true⟩]:List Box))))
theorem xjw:OmOk Tryz.prog ITryz 49 (xfZ):=xgB fun c e i h g=>by
 obtain ⟨l,⟨⟨f,⟨t,_⟩⟩,⟨⟨_,_⟩,_⟩⟩⟩:=c
 obtain ⟨⟨j,_⟩,_⟩:=e
 obtain ⟨a,b⟩:=Prod.mk.inj g
 refine xd7 (p:=xb0.pin) (xeG mxTryz (inv0Ok Tryz.prog _) rfl xhw rfl Tryz.func49 rfl (by kernel_rfl) xgH ((xjy _ _ _ _ _ (xaa (d:=0) a)).trans ?_))
 exact congrArg some b
def xlS:Env:=xlR.withM 49 xfZ
theorem xji:OrcOk Tryz.prog ITryz xlS:=xjh.withM xjw
def xbl:Env:=xlS.fn 45 3 (lsOf []) (lpsOf [])
theorem xhy:OrcOk Tryz.prog (ITryz.at 3) xbl:=xji.fn
theorem xgb:LoOk Tryz.prog (ITryz.at xbl.pin) xbl (loopAt Tryz.f49 0):=xah (by kernel_rfl)
def xcg (a:LA) (b:Int) (e:Bool) (f g c d:Int):=xbX (xad c d ((a.getD b.toNat .top).cells.getD 0 .top).toInt 1099511627776).fst (xad c d ((a.getD b.toNat .top).cells.getD 0 .top).toInt 1099511627776).snd.fst ((a.getD b.toNat .top).cells.getD 1 .top).toInt e f g
def xci (l d:LA) (a b c:Int):=xad b c ((d.getD a.toNat .top).cells.getD 0 .top).toInt ((l.getD (i64.wrap (a+1)).toNat .top).cells.getD 0 .top).toInt
def xcj (l:LA) (a:Int):=decide (i64.wrap (a+1)<(↑l.length:Int))
def xcf (f:LA) (g:Int) (a:Bool) (b c d e:Int):=(xcg f g a b c d e).snd
def xch (l c:LA) (d a b:Int):=(xci l c d a b).snd
def xce (l a:LA) (b:Int) (e:Bool) (f g c d:Int):=xbX (xci l a b c d).fst (xch l a b c d).fst ((a.getD b.toNat .top).cells.getD 1 .top).toInt e f g
def xcd (l f:LA) (g:Int) (a:Bool) (b c d e:Int):=(xce l f g a b c d e).snd
def xa2 {T:Type} (l g:LA) (h a:Int) (d:Bool) (e f b c:Int) (δ:T) (κl:(Int×Bool×Int×Int×Int×Int)→T) (κr:(Bool×Int×Int)→T):T:=br (decide (a<h)) (br (decide (0≤a)&&decide (a<g.length)) (br (decide (a.toNat<g.length)&&((g.getD a.toNat .top).cells.length==2&&hasShs [Sh.int .i64,Sh.int .i64] (g.getD a.toNat .top).cells 0)) (br (xcj l a) (br (decide (0≤i64.wrap (a+1))&&xcj l a) (br (decide ((i64.wrap (a+1)).toNat<l.length)&&hasSh1 (Sh.int .i64) ((l.getD (i64.wrap (a+1)).toNat .top).cells.getD 0 .top)) (br ((xch l g a b c).snd) (κl (i64.wrap (a+1),(xce l g a d e f b c).fst,(xcd l g a d e f b c).fst,(xcd l g a d e f b c).snd,b,c)) (κl (i64.wrap (a+1),d,e,f,b,c))) δ) δ) (br ((xad b c ((g.getD a.toNat .top).cells.getD 0 .top).toInt 1099511627776).snd.snd) (κl (i64.wrap (a+1),(xcg g a d e f b c).fst,(xcf g a d e f b c).fst,(xcf g a d e f b c).snd,b,c)) (κl (i64.wrap (a+1),d,e,f,b,c)))) δ) δ) (κr (d,e,f))
def xaj (l f:LA) (g:Int):(Int×Bool×Int×Int×Int×Int)→Option ((Int×Bool×Int×Int×Int×Int)⊕(Bool×Int×Int)):=fun (h,a,b,c,d,e)=>xa2 l f g h a b c d e none (fun s=>some (.inl s)) (fun p=>some (.inr p))
def xa1 (l f:LA) (g:Int):(Int×Bool×Int×Int×Int×Int)→LA×List Box:=fun (h,a,b,c,d,e)=>([AV.list 2 l,AV.func 50 [AV.own 0 0 0 0,AV.own 1 0 0 0,AV.own 2 0 0 0],AV.own 3 0 0 0,AV.list 2 f,AV.int .i64 g,AV.int .i64 h],[⟨0,1,4,[AV.bool a],false,true⟩,⟨0,1,3,[AV.int .i64 b],false,true⟩,⟨0,1,3,[AV.int .i64 c],false,true⟩,⟨0,2,35,[AV.agg [AV.int .i64 d,AV.int .i64 e]],false,true⟩])
def xaK (l a:LA) (b:Int):(Bool×Int×Int)→LR:=fun p=>(.leaf (.exit 0) [] [⟨0,1,4,[AV.bool p.1],false,true⟩,⟨0,1,3,[AV.int .i64 p.2.1],false,true⟩,⟨0,1,3,[AV.int .i64 p.2.2],false,true⟩])
abbrev xib (a:LA) (H:List Box):=XR Tryz.prog xbl [0,2,4,11,12,13] [] [] (loopAt Tryz.f49 0) a H
theorem xic (l a:LA) (b:Int) (s:Int×Bool×Int×Int×Int×Int):Enc (encR (xa1 l a b) (xaK l a b)) (xaj l a b s) (xib (xa1 l a b s).1 (xa1 l a b s).2):=by
 obtain ⟨h,c,d,e,f,g⟩:=s
 refine eV (xa2 l a b h c d e f g none (fun s=>some (encR (xa1 l a b) (xaK l a b) (.inl s))) (fun p=>some (encR (xa1 l a b) (xaK l a b) (.inr p)))) (by kernel_rfl) ?_;unfold xaj xa2;repeat' first|exact eN|exact eS rfl|apply eB
def xe4:Lp:=lpOf [0,2,4,11,12,13] [] [] (pCons (pList 2 pAny) (pCons (pFunc 50 (pCons (pOwn 0 0 0 0) (pCons (pOwn 1 0 0 0) (pCons (pOwn 2 0 0 0) pNil)))) (pCons (pOwn 3 0 0 0) (pCons (pList 2 pAny) (pCons (pInt .i64) (pCons (pInt .i64) pNil)))))) (pCons (pBox 0 1 4 false true (pCons pBool pNil)) (pCons (pBox 0 1 3 false true (pCons (pInt .i64) pNil)) (pCons (pBox 0 1 3 false true (pCons (pInt .i64) pNil)) (pCons (pBox 0 2 35 false true (pCons (pAgg (pCons (pInt .i64) (pCons (pInt .i64) pNil))) pNil)) pNil)))) fun (l,((_,(_,(_,_))),(_,(a,(b,(h,_)))))) ((c,_),((d,_),((e,_),(((f,(g,_)),_),_))))=>((Iter (xaj l a b) (h,c,d,e,f,g)).isSome,xaK l a b ((Iter (xaj l a b) (h,c,d,e,f,g)).getD (false,0,0)))
theorem xhd:LoopOk Tryz.prog (ITryz.at xbl.pin) xbl.nt (loopAt Tryz.f49 0) xe4:=xb2 fun j k n m=>by
 obtain ⟨l,⟨⟨_,⟨_,⟨_,_⟩⟩⟩,⟨_,⟨a,⟨b,⟨h,_⟩⟩⟩⟩⟩⟩:=j
 obtain ⟨⟨c,_⟩,⟨⟨d,_⟩,⟨⟨e,_⟩,⟨⟨⟨f,⟨g,_⟩⟩,_⟩,_⟩⟩⟩⟩:=k
 obtain ⟨i,rfl⟩:=Prod.mk.inj m
 exact xau mxTryz (inv0Ok Tryz.prog _) rfl xhy xgb (xa1 l a b) (xaK l a b) (fun p=>by simp only [xaK,LR.eval];first|(simp;done)|(repeat' split<;>simp)) (xic l a b) (s:=(h,c,d,e,f,g)) (xaa i)
def xb1:Env:=xlS.fn 45 3 (lsOf []) (lpsOf [(2,xe4)])
theorem xhz:OrcOk Tryz.prog (ITryz.at 3) xb1:=xji.fn
theorem xgI:LoOk Tryz.prog (ITryz.at xb1.pin) xb1 (Tryz.f49.body.getD .skip):=xaY (ls:=[loopAt Tryz.f49 0]) (by kernel_rfl) (lkC xhd lkN)
def xeA (l:LA) (f t:Int) (b:Bool) (c a:Int):=Iter (xaj l l (↑l.length:Int)) (0,b,c,a,f,t)
def xez (l:LA) (f t:Int) (b:Bool) (c a:Int):=(xeA l f t b c a).getD (false,0,0)
def xey (l:LA) (f t:Int) (b:Bool) (c a:Int):=(xez l f t b c a).snd
def xdm {T:Type} (l:LA) (f t:Int) (b:Bool) (c a:Int) (δ:T) (κ:Bool×Int×Int→T):T:=br ((xeA l f t b c a).isSome) (κ ((xez l f t b c a).fst,(xey l f t b c a).fst,(xey l f t b c a).snd)) δ
def xaA (l:LA) (f t:Int) (b:Bool) (c a:Int):Option (Bool×Int×Int):=xdm l f t b c a none some
theorem xjA (l:LA) (f t:Int) (b:Bool) (c a:Int):Enc (fun (p:Bool×Int×Int)=>(((AV.tuple [],([⟨0,1,4,[AV.bool p.1],false,true⟩,⟨0,1,3,[AV.int .i64 p.2.1],false,true⟩,⟨0,1,3,[AV.int .i64 p.2.2],false,true⟩]:List Box))):(AV×List Box))) (xaA l f t b c a) (XFM Tryz.prog xb1 Tryz.f49 (Tryz.f49.body.getD .skip) [AV.list 2 l,AV.agg [AV.int .i64 f,AV.int .i64 t],AV.func (50:FuncId) [AV.own (0:Id) 0 0 0,AV.own (1:Id) 0 0 0,AV.own (2:Id) 0 0 0]] [{ ver:=0,sz:=1,ty:=(4:TypeId),xs:=[AV.bool b],frz:=false,pm:=true },{ ver:=0,sz:=1,ty:=(3:TypeId),xs:=[AV.int .i64 c],frz:=false,pm:=true },{ ver:=0,sz:=1,ty:=(3:TypeId),xs:=[AV.int .i64 a],frz:=false,pm:=true }]):=by
 refine eV (xdm l f t b c a none (fun (p:Bool×Int×Int)=>some (((AV.tuple [],([⟨0,1,4,[AV.bool p.1],false,true⟩,⟨0,1,3,[AV.int .i64 p.2.1],false,true⟩,⟨0,1,3,[AV.int .i64 p.2.2],false,true⟩]:List Box))):(AV×List Box)))) (by kernel_rfl) ?_;unfold xaA xdm;repeat' first|exact eN|exact eS rfl|apply eB
def xfx:LA→List Box→Option (Bool×AV×List Box):=omOf (sCons (sList 2 pAny) (sCons (sAgg (sCons (sEq (pInt .i64)) (sCons (sEq (pInt .i64)) sNil))) (sCons (sEq (pFunc (50:FuncId) (pCons (pOwn 0 0 0 0) (pCons (pOwn 1 0 0 0) (pCons (pOwn 2 0 0 0) pNil))))) sNil))) (pCons (pBox 0 1 (4:TypeId) false true (pCons pBool pNil)) (pCons (pBox 0 1 (3:TypeId) false true (pCons (pInt .i64) pNil)) (pCons (pBox 0 1 (3:TypeId) false true (pCons (pInt .i64) pNil)) pNil))) fun (l,((f,(t,_)),((_,(_,(_,_))),_))) ((b,_),((c,_),((a,_),_)))=>((xaA l f t b c a).isSome,((AV.tuple [],([⟨0,1,4,[AV.bool ((xaA l f t b c a).getD (false,0,0)).1],false,true⟩,⟨0,1,3,[AV.int .i64 ((xaA l f t b c a).getD (false,0,0)).2.1],false,true⟩,⟨0,1,3,[AV.int .i64 ((xaA l f t b c a).getD (false,0,0)).2.2],false,true⟩]:List Box))))
theorem xjz:OmOk Tryz.prog ITryz 49 (xfx):=xgB fun c e j h g=>by
 obtain ⟨l,⟨⟨f,⟨t,_⟩⟩,⟨⟨_,⟨_,⟨_,_⟩⟩⟩,_⟩⟩⟩:=c
 obtain ⟨⟨k,_⟩,⟨⟨m,_⟩,⟨⟨i,_⟩,_⟩⟩⟩:=e
 obtain ⟨a,b⟩:=Prod.mk.inj g
 refine xd7 (p:=xb1.pin) (xeG mxTryz (inv0Ok Tryz.prog _) rfl xhz rfl Tryz.func49 rfl (by kernel_rfl) xgI ((xjA _ _ _ _ _ _ _ (xaa (d:=(false,0,0)) a)).trans ?_))
 exact congrArg some b
def xoH:Env:=xlS.withM 49 xfx
theorem xnt:OrcOk Tryz.prog ITryz xoH:=xji.withM xjz
def xby:Env:=xoH.fn 11 0 (lsOf []) (lpsOf [])
theorem xgF:OrcOk Tryz.prog (ITryz.at 0) xby:=xnt.fn
theorem xf9:LoOk Tryz.prog (ITryz.at xby.pin) xby (Tryz.f23.body.getD .skip):=xah (by kernel_rfl)
def xcP {T:Type} (l:LA) (a b:Int) (δ:T) (κ:Int→T):T:=br ((xa5 l a b 0).isSome) (κ ((xa5 l a b 0).getD 0)) δ
def xaI (l:LA) (a b:Int):Option (Int):=xcP l a b none some
theorem xiy (l:LA) (a b:Int):Enc (fun (p:Int)=>((AV.int .i64 p):AV)) (xaI l a b) (XF Tryz.prog xby Tryz.f23 (Tryz.f23.body.getD .skip) [AV.list 2 l,AV.agg [AV.int .i64 a,AV.int .i64 b]]):=by
 refine eV (xcP l a b none (fun (p:Int)=>some ((AV.int .i64 p):AV))) (by kernel_rfl) ?_;unfold xaI xcP;repeat' first|exact eN|exact eS rfl|apply eB
def xfl:LA→Option (Bool×AV):=ocOf (sCons (sList 2 pAny) (sCons (sAgg (sCons (sEq (pInt .i64)) (sCons (sEq (pInt .i64)) sNil))) sNil)) fun (l,((a,(b,_)),_))=>((xaI l a b).isSome,(AV.int .i64 ((xaI l a b).getD 0)))
theorem xiw:OcOk Tryz.prog ITryz 23 (xfl):=xa3 fun c h e=>by
 obtain ⟨l,⟨⟨f,⟨g,_⟩⟩,_⟩⟩:=c
 obtain ⟨a,b⟩:=Prod.mk.inj e
 refine xal (p:=xby.pin) (xat mxTryz (inv0Ok Tryz.prog _) rfl xgF Tryz.func23 rfl (by kernel_rfl) xf9 ((xiy _ _ _ _ (xaa (d:=0) a)).trans ?_))
 exact congrArg some b
def xoI:Env:=xoH.with 23 xfl
theorem xnu:OrcOk Tryz.prog ITryz xoI:=xnt.with xiw
def xcM:Env:=xoI.fn 15 0 (lsOf []) (lpsOf [])
theorem xiz:OrcOk Tryz.prog (ITryz.at 0) xcM:=xnu.fn
theorem xhu:LoOk Tryz.prog (ITryz.at xcM.pin) xcM (Tryz.f21.body.getD .skip):=xah (by kernel_rfl)
def xea {T:Type} (l:LA) (a b:Int) (δ:T) (κ:Int×Int→T):T:=br ((xaA l a b false 0 0).isSome) (κ (((xaA l a b false 0 0).getD (false,0,0)).snd.fst,((xaA l a b false 0 0).getD (false,0,0)).snd.snd)) δ
def xaT (l:LA) (a b:Int):Option (Int×Int):=xea l a b none some
theorem xlf (l:LA) (a b:Int):Enc (fun (p:Int×Int)=>((AV.tuple [AV.int .i64 p.1,AV.int .i64 p.2]):AV)) (xaT l a b) (XF Tryz.prog xcM Tryz.f21 (Tryz.f21.body.getD .skip) [AV.list 2 l,AV.agg [AV.int .i64 a,AV.int .i64 b]]):=by
 refine eV (xea l a b none (fun (p:Int×Int)=>some ((AV.tuple [AV.int .i64 p.1,AV.int .i64 p.2]):AV))) (by kernel_rfl) ?_;unfold xaT xea;repeat' first|exact eN|exact eS rfl|apply eB
def xgG:LA→Option (Bool×AV):=ocOf (sCons (sList 2 pAny) (sCons (sAgg (sCons (sEq (pInt .i64)) (sCons (sEq (pInt .i64)) sNil))) sNil)) fun (l,((a,(b,_)),_))=>((xaT l a b).isSome,(AV.tuple [AV.int .i64 ((xaT l a b).getD (0,0)).1,AV.int .i64 ((xaT l a b).getD (0,0)).2]))
theorem xle:OcOk Tryz.prog ITryz 21 (xgG):=xa3 fun c h e=>by
 obtain ⟨l,⟨⟨f,⟨g,_⟩⟩,_⟩⟩:=c
 obtain ⟨a,b⟩:=Prod.mk.inj e
 refine xal (p:=xcM.pin) (xat mxTryz (inv0Ok Tryz.prog _) rfl xiz Tryz.func21 rfl (by kernel_rfl) xhu ((xlf _ _ _ _ (xaa (d:=(0,0)) a)).trans ?_))
 exact congrArg some b
def xp5:Env:=xoI.with 21 xgG
theorem xqp:OrcOk Tryz.prog ITryz xp5:=xnu.with xle
abbrev EKA1:Env:=xp5
theorem xki:OrcOk Tryz.prog ITryz EKA1:=xqp
end Go.Sim.M
end
noncomputable section
set_option maxRecDepth 100000
namespace Go.Sim.M
open Go.IntKind (i64 u64 u8)
open Go.RowKit Go.Proofs
def xcz:Env:=EKA1.fn 58 0 (lsOf []) (lpsOf [])
theorem xjS:OrcOk Tryz.prog (ITryz.at 0) xcz:=xki.fn
theorem xhL:LoOk Tryz.prog (ITryz.at xcz.pin) xcz (loopAt Tryz.f83 0):=xah (by kernel_rfl)
def xbR {T:Type} (l:LA) (n:Int) (a:Nat) (i:Int) (b:LA) (δ:T) (κl:(Nat×Int×LA)→T) (κr:(Nat×Int×LA)→T):T:=br (decide (i<l.length)) (br (decide (0≤i)&&decide (i<l.length)) (br (decide (i.toNat<l.length)&&hasSh1 (Sh.int .i64) ((l.getD i.toNat .top).cells.getD 0 .top)) (br (decide (((l.getD i.toNat .top).cells.getD 0 .top).toInt<n)) (br (decide (0≤i)&&decide (i<l.length)) (br (decide (i.toNat<l.length)&&hasSh1 (Sh.int .i64) ((l.getD i.toNat .top).cells.getD 0 .top)) (br (a==b.length&&(decide ((a+1)*8≤140737488355328)&&decide (a+1≤4611686018427387904))) (κl (a+1,i64.wrap (i+1),b++[AV.int .i64 ((l.getD i.toNat .top).cells.getD 0 .top).toInt])) δ) δ) δ) (κr (a,i,b))) δ) δ) (κr (a,i,b))
def xaq (l:LA) (n:Int):(Nat×Int×LA)→Option ((Nat×Int×LA)⊕(Nat×Int×LA)):=fun (b,i,a)=>xbR l n b i a none (fun s=>some (.inl s)) (fun p=>some (.inr p))
def xbQ (l:LA) (n:Int):(Nat×Int×LA)→LA×List Box:=fun (b,i,a)=>([AV.list 1 l,AV.int .i64 n,AV.osl 0 0 0 b,AV.int .i64 i],[⟨0,1,3,a,false,true⟩])
def xbn (l:LA) (n:Int):(Nat×Int×LA)→LR:=fun p=>(.leaf (.exit 0) [AV.list 1 l,AV.int .i64 n,AV.osl 0 0 0 p.1,AV.int .i64 p.2.1] [⟨0,1,3,p.2.2,false,true⟩])
abbrev xkC (a:LA) (H:List Box):=XR Tryz.prog xcz [0,1,5,6] [0,1,5,6] [(5,1,3)] (loopAt Tryz.f83 0) a H
theorem xkD (l:LA) (n:Int) (s:Nat×Int×LA):Enc (encR (xbQ l n) (xbn l n)) (xaq l n s) (xkC (xbQ l n s).1 (xbQ l n s).2):=by
 obtain ⟨b,i,a⟩:=s
 refine eV (xbR l n b i a none (fun s=>some (encR (xbQ l n) (xbn l n) (.inl s))) (fun p=>some (encR (xbQ l n) (xbn l n) (.inr p)))) (by kernel_rfl) ?_;unfold xaq xbR;repeat' first|exact eN|exact eS rfl|apply eB
def xeL:Lp:=lpOf [0,1,5,6] [0,1,5,6] [(5,1,3)] (pCons (pList 1 pAny) (pCons (pInt .i64) (pCons (pOsl 0 0 0) (pCons (pInt .i64) pNil)))) (pCons (pBox 0 1 3 false true pAny) pNil) fun (l,(n,(b,(i,_)))) (a,_)=>((Iter (xaq l n) (b,i,a)).isSome,xbn l n ((Iter (xaq l n) (b,i,a)).getD (0,0,[])))
theorem xja:LoopOk Tryz.prog (ITryz.at xcz.pin) xcz.nt (loopAt Tryz.f83 0) xeL:=xb2 fun d e g f=>by
 obtain ⟨l,⟨n,⟨b,⟨i,_⟩⟩⟩⟩:=d
 obtain ⟨a,_⟩:=e
 obtain ⟨c,rfl⟩:=Prod.mk.inj f
 exact xau mxTryz (inv0Ok Tryz.prog _) rfl xjS xhL (xbQ l n) (xbn l n) (fun p=>by simp only [xbn,LR.eval];first|(simp;done)|(repeat' split<;>simp)) (xkD l n) (s:=(b,i,a)) (xaa c)
def xcA:Env:=EKA1.fn 58 0 (lsOf []) (lpsOf [(3,xeL)])
theorem xjT:OrcOk Tryz.prog (ITryz.at 0) xcA:=xki.fn
theorem xhM:LoOk Tryz.prog (ITryz.at xcA.pin) xcA (loopAt Tryz.f83 1):=xah (by kernel_rfl)
def xcN {T:Type} (l:LA) (a:Nat) (i:Int) (b:LA) (δ:T) (κl:(Nat×Int×LA)→T) (κr:(Nat×LA)→T):T:=br (decide (i<l.length)) (br (decide (0≤i)&&decide (i<l.length)) (br (decide (i.toNat<l.length)&&hasSh1 (Sh.int .i64) ((l.getD i.toNat .top).cells.getD 0 .top)) (br (a==b.length&&(decide ((a+1)*8≤140737488355328)&&decide (a+1≤4611686018427387904))) (κl (a+1,i64.wrap (i+1),b++[AV.int .i64 ((l.getD i.toNat .top).cells.getD 0 .top).toInt])) δ) δ) δ) (κr (a,b))
def xar (l:LA):(Nat×Int×LA)→Option ((Nat×Int×LA)⊕(Nat×LA)):=fun (b,i,a)=>xcN l b i a none (fun s=>some (.inl s)) (fun p=>some (.inr p))
def xbS (l:LA):(Nat×Int×LA)→LA×List Box:=fun (b,i,a)=>([AV.list 1 l,AV.osl 0 0 0 b,AV.int .i64 i],[⟨0,1,3,a,false,true⟩])
def xbo (l:LA):(Nat×LA)→LR:=fun p=>(.leaf (.exit 2) [AV.osl 0 0 0 p.1] [⟨0,1,3,p.2,false,true⟩])
abbrev xkE (a:LA) (H:List Box):=XR Tryz.prog xcA [0,5,6] [5] [(5,1,3)] (loopAt Tryz.f83 1) a H
theorem xkF (l:LA) (s:Nat×Int×LA):Enc (encR (xbS l) (xbo l)) (xar l s) (xkE (xbS l s).1 (xbS l s).2):=by
 obtain ⟨b,i,a⟩:=s
 refine eV (xcN l b i a none (fun s=>some (encR (xbS l) (xbo l) (.inl s))) (fun p=>some (encR (xbS l) (xbo l) (.inr p)))) (by kernel_rfl) ?_;unfold xar xcN;repeat' first|exact eN|exact eS rfl|apply eB
def xf6:Lp:=lpOf [0,5,6] [5] [(5,1,3)] (pCons (pList 1 pAny) (pCons (pOsl 0 0 0) (pCons (pInt .i64) pNil))) (pCons (pBox 0 1 3 false true pAny) pNil) fun (l,(b,(i,_))) (a,_)=>((Iter (xar l) (b,i,a)).isSome,xbo l ((Iter (xar l) (b,i,a)).getD (0,[])))
theorem xjb:LoopOk Tryz.prog (ITryz.at xcA.pin) xcA.nt (loopAt Tryz.f83 1) xf6:=xb2 fun d e g f=>by
 obtain ⟨l,⟨b,⟨i,_⟩⟩⟩:=d
 obtain ⟨a,_⟩:=e
 obtain ⟨c,rfl⟩:=Prod.mk.inj f
 exact xau mxTryz (inv0Ok Tryz.prog _) rfl xjT xhM (xbS l) (xbo l) (fun p=>by simp only [xbo,LR.eval];first|(simp;done)|(repeat' split<;>simp)) (xkF l) (s:=(b,i,a)) (xaa c)
def xdq:Env:=EKA1.fn 58 0 (lsOf []) (lpsOf [(3,xeL),(8,xf6)])
theorem xjU:OrcOk Tryz.prog (ITryz.at 0) xdq:=xki.fn
theorem xiL:LoOk Tryz.prog (ITryz.at xdq.pin) xdq (Tryz.f83.body.getD .skip):=xaY (ls:=[loopAt Tryz.f83 0,loopAt Tryz.f83 1]) (by kernel_rfl) (lkC xja (lkC xjb lkN))
def xc3 (l:LA) (n:Int):=(Iter (xaq l n) (0,0,[])).getD (0,0,[])
def xb7 (l:LA) (n:Int):=(xc3 l n).fst
def xc2 (l:LA) (n:Int):=(xc3 l n).snd
def xaD (l:LA) (n:Int):=(xc2 l n).fst
def xa9 (l:LA) (n:Int):=xb7 l n+1
def xb6 (l:LA) (n:Int):=(xc2 l n).snd
def xdt (l:LA) (n:Int):=Iter (xar l) (xa9 l n,xaD l n,xb6 l n++[AV.int .i64 n])
def xdy (l:LA) (n:Int):=Iter (xar l) (xb7 l n,xaD l n,xb6 l n)
def xc1 (l:LA) (n:Int):=xb7 l n==(xb6 l n).length
def xdr (l:LA) (n:Int):=(xdt l n).getD (0,[])
def xds (l:LA) (n:Int):=(xdt l n).isSome
def xdw (l:LA) (n:Int):=(xdy l n).getD (0,[])
def xbJ (l:LA) (n:Int):=(xdr l n).fst
def xbK (l:LA) (n:Int):=(xdr l n).snd
def xdu (l:LA) (n:Int):=(xdw l n).fst
def xdv (l:LA) (n:Int):=(xdw l n).snd
def xeX {T:Type} (l:LA) (n:Int) (δ:T) (κ:LA→T):T:=br ((Iter (xaq l n) (0,0,[])).isSome) (br (xaD l n==(↑l.length:Int)) (br (xc1 l n&&(decide (xa9 l n*8≤140737488355328)&&decide (xa9 l n≤4611686018427387904))) (br (xds l n) (br (decide (0+xbJ l n≤(xbK l n).length)&&true) (κ (List.take (xbJ l n) (List.drop 0 (xbK l n)))) δ) δ) δ) (br (decide (0≤xaD l n)&&decide (xaD l n<l.length)) (br (decide ((xaD l n).toNat<l.length)&&hasSh1 (Sh.int .i64) ((l.getD (xaD l n).toNat .top).cells.getD 0 .top)) (br (decide (((l.getD (xaD l n).toNat .top).cells.getD 0 .top).toInt>n)) (br (xc1 l n&&(decide (xa9 l n*8≤140737488355328)&&decide (xa9 l n≤4611686018427387904))) (br (xds l n) (br (decide (0+xbJ l n≤(xbK l n).length)&&true) (κ (List.take (xbJ l n) (List.drop 0 (xbK l n)))) δ) δ) δ) (br ((xdy l n).isSome) (br (decide (0+xdu l n≤(xdv l n).length)&&true) (κ (List.take (xdu l n) (List.drop 0 (xdv l n)))) δ) δ)) δ) δ)) δ
def xa8 (l:LA) (n:Int):Option (LA):=xeX l n none some
theorem xm7 (l:LA) (n:Int):Enc (fun (p:LA)=>((AV.list 1 p):AV)) (xa8 l n) (XF Tryz.prog xdq Tryz.f83 (Tryz.f83.body.getD .skip) [AV.list 1 l,AV.int .i64 n]):=by
 refine eV (xeX l n none (fun (p:LA)=>some ((AV.list 1 p):AV))) (by kernel_rfl) ?_;unfold xa8 xeX;repeat' first|exact eN|exact eS rfl|apply eB
def xij:LA→Option (Bool×AV):=ocOf (sCons (sList 1 pAny) (sCons (sEq (pInt .i64)) sNil)) fun (l,(n,_))=>((xa8 l n).isSome,(AV.list 1 ((xa8 l n).getD [])))
theorem xm6:OcOk Tryz.prog ITryz 83 (xij):=xa3 fun c f e=>by
 obtain ⟨l,⟨n,_⟩⟩:=c
 obtain ⟨a,b⟩:=Prod.mk.inj e
 refine xal (p:=xdq.pin) (xat mxTryz (inv0Ok Tryz.prog _) rfl xjU Tryz.func83 rfl (by kernel_rfl) xiL ((xm7 _ _ _ (xaa (d:=[]) a)).trans ?_))
 exact congrArg some b
def xoJ:Env:=EKA1.with 83 xij
theorem xnv:OrcOk Tryz.prog ITryz xoJ:=xki.with xm6
def xcV:Env:=xoJ.fn 18 0 (lsOf []) (lpsOf [])
theorem xkB:OrcOk Tryz.prog (ITryz.at 0) xcV:=xnv.fn
theorem xi9:LoOk Tryz.prog (ITryz.at xcV.pin) xcV (Tryz.f32.body.getD .skip):=xah (by kernel_rfl)
def xaV (a b:Int):Bool:=(br (decide (a≥0)) (br (decide (a<b)) ((decide (b≤1099511627776))) ((false))) ((false)))
def xhn (a b:Int):Bool:=true
def xi0 {T:Type} (a b:Int) (δ:T) (κ:Bool→T):T:=br (decide (a≥0)) (br (decide (a<b)) (κ (decide (b≤1099511627776))) (κ (false))) (κ (false))
theorem xod (a b:Int):Pre (xhn a b) (XF Tryz.prog xcV Tryz.f32 (Tryz.f32.body.getD .skip) [AV.agg [AV.int .i64 a,AV.int .i64 b]]) (AV.bool (xaV a b)):=by
 have h:XF Tryz.prog xcV Tryz.f32 (Tryz.f32.body.getD .skip) [AV.agg [AV.int .i64 a,AV.int .i64 b]]=xi0 a b none (fun (p:Bool)=>some ((AV.bool p):AV)):=by kernel_rfl
 rw [h];unfold xaV xhn xi0;repeat' (first|exact Pre.none|exact Pre.tt rfl|exact Pre.some rfl|refine Pre.l ?_|refine Pre.r ?_|refine Pre.br (f:=fun (p:Bool)=>((AV.bool p):AV)) ?_ ?_|refine Pre.brt (f:=fun (p:Bool)=>((AV.bool p):AV)) ?_ ?_)
def xix:LA→Option (Bool×AV):=ocOf (sCons (sAgg (sCons (sEq (pInt .i64)) (sCons (sEq (pInt .i64)) sNil))) sNil) fun ((a,(b,_)),_)=>(true,(AV.bool (xaV a b)))
theorem xoc:OcOk Tryz.prog ITryz 32 (xix):=xa3 fun b g c=>by
 obtain ⟨⟨d,⟨e,_⟩⟩,_⟩:=b
 obtain ⟨f,a⟩:=Prod.mk.inj c
 refine xal (p:=xcV.pin) (xat mxTryz (inv0Ok Tryz.prog _) rfl xkB Tryz.func32 rfl (by kernel_rfl) xi9 ((Pre.get (xod _ _) rfl).trans ?_))
 exact congrArg some a
def xoK:Env:=xoJ.with 32 xix
theorem xnw:OrcOk Tryz.prog ITryz xoK:=xnv.with xoc
def xbO:Env:=xoK.fn 19 0 (lsOf []) (lpsOf [])
theorem xiJ:OrcOk Tryz.prog (ITryz.at 0) xbO:=xnw.fn
theorem xhJ:LoOk Tryz.prog (ITryz.at xbO.pin) xbO (Tryz.f33.body.getD .skip):=xah (by kernel_rfl)
def xb4 (a b t:Int):Bool:=(br (xaV a b) (br (decide (a≤t)) ((decide (t<b))) ((false))) ((false)))
def xf4 (a b t:Int):Bool:=true
def xgY {T:Type} (a b t:Int) (δ:T) (κ:Bool→T):T:=br (xaV a b) (br (decide (a≤t)) (κ (decide (t<b))) (κ (false))) (κ (false))
theorem xlv (a b t:Int):Pre (xf4 a b t) (XF Tryz.prog xbO Tryz.f33 (Tryz.f33.body.getD .skip) [AV.agg [AV.int .i64 a,AV.int .i64 b],AV.int .i64 t]) (AV.bool (xb4 a b t)):=by
 have h:XF Tryz.prog xbO Tryz.f33 (Tryz.f33.body.getD .skip) [AV.agg [AV.int .i64 a,AV.int .i64 b],AV.int .i64 t]=xgY a b t none (fun (p:Bool)=>some ((AV.bool p):AV)):=by kernel_rfl
 rw [h];unfold xb4 xf4 xgY;repeat' (first|exact Pre.none|exact Pre.tt rfl|exact Pre.some rfl|refine Pre.l ?_|refine Pre.r ?_|refine Pre.br (f:=fun (p:Bool)=>((AV.bool p):AV)) ?_ ?_|refine Pre.brt (f:=fun (p:Bool)=>((AV.bool p):AV)) ?_ ?_)
def xgX:LA→Option (Bool×AV):=ocOf (sCons (sAgg (sCons (sEq (pInt .i64)) (sCons (sEq (pInt .i64)) sNil))) (sCons (sEq (pInt .i64)) sNil)) fun ((a,(b,_)),(t,_))=>(true,(AV.bool (xb4 a b t)))
theorem xlu:OcOk Tryz.prog ITryz 33 (xgX):=xa3 fun b g c=>by
 obtain ⟨⟨d,⟨e,_⟩⟩,⟨t,_⟩⟩:=b
 obtain ⟨f,a⟩:=Prod.mk.inj c
 refine xal (p:=xbO.pin) (xat mxTryz (inv0Ok Tryz.prog _) rfl xiJ Tryz.func33 rfl (by kernel_rfl) xhJ ((Pre.get (xlv _ _ _) rfl).trans ?_))
 exact congrArg some a
def xoL:Env:=xoK.with 33 xgX
theorem xny:OrcOk Tryz.prog ITryz xoL:=xnw.with xlu
def xeO:Env:=xoL.fn 28 1 (lsOf []) (lpsOf [])
theorem xmB:OrcOk Tryz.prog (ITryz.at 1) xeO:=xny.fn
theorem xkJ:LoOk Tryz.prog (ITryz.at xeO.pin) xeO (Tryz.f84.body.getD .skip):=xah (by kernel_rfl)
def xer {T:Type} (k:Nat) (b n:Int) (a:LA) (δ:T) (κ:Bool×(Nat×LA)×(Nat×LA)→T):T:=br (decide ((↑k:Int)>0)) (br (decide (0≤i64.wrap ((↑k:Int) - 1))&&decide (i64.wrap ((↑k:Int) - 1)<(↑k:Int))) (br (decide (0+(i64.wrap ((↑k:Int) - 1)).toNat<a.length)&&hasSh1 (Sh.int .i64) ((a.getD (0+(i64.wrap ((↑k:Int) - 1)).toNat) .top).cells.getD 1 .top)) (br (((a.getD (0+(i64.wrap ((↑k:Int) - 1)).toNat) .top).cells.getD 1 .top).toInt==n) (κ (true,(k,a),(0,[]))) (br (k==a.length&&(decide ((k+1)*16≤140737488355328)&&decide (k+1≤4611686018427387904))) (κ (false,(0,[]),(k+1,a++[AV.agg [AV.int .i64 b,AV.int .i64 n]]))) δ)) δ) δ) (br (k==a.length&&(decide ((k+1)*16≤140737488355328)&&decide (k+1≤4611686018427387904))) (κ (false,(0,[]),(k+1,a++[AV.agg [AV.int .i64 b,AV.int .i64 n]]))) δ)
def xbb (k:Nat) (a n:Int) (b:LA):Option (Bool×(Nat×LA)×(Nat×LA)):=xer k a n b none some
theorem xpN (k:Nat) (a n:Int) (xs:LA):Enc (fun (p:Bool×(Nat×LA)×(Nat×LA))=>((br p.1 ((AV.osl 0 0 0 p.2.1.1,([⟨0,2,86,p.2.1.2,false,true⟩]:List Box))) ((AV.osl 0 1 0 p.2.2.1,([⟨1,2,86,p.2.2.2,false,true⟩]:List Box)))):(AV×List Box))) (xbb k a n xs) (XFM Tryz.prog xeO Tryz.f84 (Tryz.f84.body.getD .skip) [AV.osl (0:Id) 0 0 k,AV.int .i64 a,AV.int .i64 n] [{ ver:=0,sz:=2,ty:=(86:TypeId),xs:=xs,frz:=false,pm:=true }]):=by
 refine eV (xer k a n xs none (fun (p:Bool×(Nat×LA)×(Nat×LA))=>some ((br p.1 ((AV.osl 0 0 0 p.2.1.1,([⟨0,2,86,p.2.1.2,false,true⟩]:List Box))) ((AV.osl 0 1 0 p.2.2.1,([⟨1,2,86,p.2.2.2,false,true⟩]:List Box)))):(AV×List Box)))) (by kernel_rfl) ?_;unfold xbb xer;repeat' first|exact eN|exact eS rfl|apply eB
def xk1:LA→List Box→Option (Bool×AV×List Box):=omOf (sCons (sEq (pOsl 0 0 0)) (sCons (sEq (pInt .i64)) (sCons (sEq (pInt .i64)) sNil))) (pCons (pBox 0 2 (86:TypeId) false true pAny) pNil) fun (k,(a,(n,_))) (b,_)=>((xbb k a n b).isSome,(AV.osl 0 1 0 (br ((xbb k a n b).getD (false,(0,[]),(0,[]))).1 ((xbb k a n b).getD (false,(0,[]),(0,[]))).2.1.1 ((xbb k a n b).getD (false,(0,[]),(0,[]))).2.2.1),([⟨1,2,86,(br ((xbb k a n b).getD (false,(0,[]),(0,[]))).1 ((xbb k a n b).getD (false,(0,[]),(0,[]))).2.1.2 ((xbb k a n b).getD (false,(0,[]),(0,[]))).2.2.2),false,true⟩]:List Box)))
theorem xpM:OmOk Tryz.prog ITryz 84 (xk1):=xgB fun e f j i g=>by
 obtain ⟨k,⟨b,⟨n,_⟩⟩⟩:=e
 obtain ⟨h,_⟩:=f
 obtain ⟨c,a⟩:=Prod.mk.inj g
 have hx:=xpN _ _ _ _ _ (xaa (d:=(false,(0,[]),(0,[]))) c)
 revert hx a
 generalize ((xbb k b n h).getD (false,(0,[]),(0,[])))=p
 intro a hx
 obtain ⟨rfl,rfl⟩:=Prod.mk.inj a
 obtain ⟨t,⟨l,m⟩,o,q⟩:=p
 have hg:GoodM Tryz.prog ITryz 84 _ _ _ _:=xd7 (p:=xeO.pin) (xeG mxTryz (inv0Ok Tryz.prog _) rfl xmB rfl Tryz.func84 rfl (by kernel_rfl) xkJ hx)
 cases t
 · exact hg
 · exact GoodM.bump1 rfl (by decide) hg
def xh6:Env:=xoL.withM 84 xk1
theorem xfY:OrcOk Tryz.prog ITryz xh6:=xny.withM xpM
def xeo:Env:=xh6.fn 82 0 (lsOf []) (lpsOf [])
theorem xna:OrcOk Tryz.prog (ITryz.at 0) xeo:=xfY.fn
theorem xjW:LoOk Tryz.prog (ITryz.at xeo.pin) xeo (loopAt Tryz.f48 0):=xah (by kernel_rfl)
def xdK (l:LA) (i:Int):=decide (0≤i)&&decide (i<l.length)
def xed {T:Type} (l a:LA) (i:Int) (δ:T) (κl:(LA×Int)→T) (κr:(LA)→T):T:=br (decide (i<l.length)) (br (xdK l i) (br (decide (i.toNat<l.length)&&((l.getD i.toNat .top).cells.length==3&&hasShs [Sh.int .i64,Sh.int .i64] (l.getD i.toNat .top).cells 0)) (br (xaV ((l.getD i.toNat .top).cells.getD 0 .top).toInt ((l.getD i.toNat .top).cells.getD 1 .top).toInt) (br (xdK l i) (br (decide (i.toNat<l.length)&&hasSh1 (Sh.int .i64) ((l.getD i.toNat .top).cells.getD 0 .top)) (br ((xa8 a ((l.getD i.toNat .top).cells.getD 0 .top).toInt).isSome) (br (xdK l i) (br (decide (i.toNat<l.length)&&hasSh1 (Sh.int .i64) ((l.getD i.toNat .top).cells.getD 1 .top)) (br ((xa8 ((xa8 a ((l.getD i.toNat .top).cells.getD 0 .top).toInt).getD []) ((l.getD i.toNat .top).cells.getD 1 .top).toInt).isSome) (κl ((xa8 ((xa8 a ((l.getD i.toNat .top).cells.getD 0 .top).toInt).getD []) ((l.getD i.toNat .top).cells.getD 1 .top).toInt).getD [],i64.wrap (i+1))) δ) δ) δ) δ) δ) δ) (κl (a,i64.wrap (i+1)))) δ) δ) (κr (a))
def xaN (l:LA):(LA×Int)→Option ((LA×Int)⊕(LA)):=fun (a,i)=>xed l a i none (fun s=>some (.inl s)) (fun p=>some (.inr p))
def xc9 (l:LA):(LA×Int)→LA×List Box:=fun (a,i)=>([AV.list 3 l,AV.list 1 a,AV.int .i64 i],[])
def xcC (l:LA):(LA)→LR:=fun p=>(.leaf (.exit 0) [AV.list 3 l,AV.list 1 p] [])
abbrev xog (a:LA) (H:List Box):=XR Tryz.prog xeo [0,3,4] [0,3] [(3,1,1073741824)] (loopAt Tryz.f48 0) a H
theorem xoh (l:LA) (s:LA×Int):Enc (encR (xc9 l) (xcC l)) (xaN l s) (xog (xc9 l s).1 (xc9 l s).2):=by
 obtain ⟨a,i⟩:=s
 refine eV (xed l a i none (fun s=>some (encR (xc9 l) (xcC l) (.inl s))) (fun p=>some (encR (xc9 l) (xcC l) (.inr p)))) (by kernel_rfl) ?_;unfold xaN xed;repeat' first|exact eN|exact eS rfl|apply eB
def xeY:Lp:=lpOf [0,3,4] [0,3] [(3,1,1073741824)] (pCons (pList 3 pAny) (pCons (pList 1 pAny) (pCons (pInt .i64) pNil))) pNil fun (l,(a,(i,_))) _=>((Iter (xaN l) (a,i)).isSome,xcC l ((Iter (xaN l) (a,i)).getD []))
theorem xmv:LoopOk Tryz.prog (ITryz.at xeo.pin) xeo.nt (loopAt Tryz.f48 0) xeY:=xb2 fun b e f c=>by
 obtain ⟨l,⟨d,⟨i,_⟩⟩⟩:=b
 obtain ⟨a,rfl⟩:=Prod.mk.inj c
 exact xau mxTryz (inv0Ok Tryz.prog _) rfl xna xjW (xc9 l) (xcC l) (fun p=>by simp only [xcC,LR.eval];first|(simp;done)|(repeat' split<;>simp)) (xoh l) (s:=(d,i)) (xaa a)
def xep:Env:=xh6.fn 82 0 (lsOf []) (lpsOf [(3,xeY)])
theorem xnb:OrcOk Tryz.prog (ITryz.at 0) xep:=xfY.fn
theorem xjX:LoOk Tryz.prog (ITryz.at xep.pin) xep (loopAt Tryz.f48 2):=xah (by kernel_rfl)
def xee {T:Type} (l b:LA) (c:Nat) (k n i:Int) (a:LA) (δ:T) (κl:(Int×Int×LA)→T) (κr:(Int×LA)→T):T:=br (decide (i<l.length)) (br (decide (0≤i)&&decide (i<l.length)) (br (decide (i.toNat<l.length)&&((l.getD i.toNat .top).cells.length==3&&hasShs [Sh.int .i64,Sh.int .i64] (l.getD i.toNat .top).cells 0)) (br (decide (0≤k)&&decide (k<b.length)) (br (decide (k.toNat<b.length)&&hasSh1 (Sh.int .i64) ((b.getD k.toNat .top).cells.getD 0 .top)) (br (xb4 ((l.getD i.toNat .top).cells.getD 0 .top).toInt ((l.getD i.toNat .top).cells.getD 1 .top).toInt ((b.getD k.toNat .top).cells.getD 0 .top).toInt) (br (decide (0≤i)&&decide (i<l.length)) (br (decide (i.toNat<l.length)&&hasSh1 (Sh.int .i64) ((l.getD i.toNat .top).cells.getD 2 .top)) (κl (i64.wrap (n+((l.getD i.toNat .top).cells.getD 2 .top).toInt),i64.wrap (i+1),a)) δ) δ) (κl (n,i64.wrap (i+1),a))) δ) δ) δ) δ) (κr (n,a))
def xaP (l c:LA) (b:Nat) (k:Int):(Int×Int×LA)→Option ((Int×Int×LA)⊕(Int×LA)):=fun (n,i,a)=>xee l c b k n i a none (fun s=>some (.inl s)) (fun p=>some (.inr p))
def xdc (l c:LA) (b:Nat) (k:Int):(Int×Int×LA)→LA×List Box:=fun (n,i,a)=>([AV.list 3 l,AV.list 1 c,AV.osl 0 0 0 b,AV.int .i64 k,AV.int .i64 n,AV.int .i64 i],[⟨0,2,86,a,false,true⟩])
def xcE (l b:LA) (a:Nat) (k:Int):(Int×LA)→LR:=fun p=>(.leaf (.exit 4) [AV.list 3 l,AV.list 1 b,AV.osl 0 0 0 a,AV.int .i64 k,AV.int .i64 p.1] [⟨0,2,86,p.2,false,true⟩])
abbrev xok (a:LA) (H:List Box):=XR Tryz.prog xep [0,3,5,6,7,8] [0,3,5,6,7] [(5,2,86),(3,1,1073741824)] (loopAt Tryz.f48 2) a H
theorem xol (l b:LA) (a:Nat) (k:Int) (s:Int×Int×LA):Enc (encR (xdc l b a k) (xcE l b a k)) (xaP l b a k s) (xok (xdc l b a k s).1 (xdc l b a k s).2):=by
 obtain ⟨n,i,c⟩:=s
 refine eV (xee l b a k n i c none (fun s=>some (encR (xdc l b a k) (xcE l b a k) (.inl s))) (fun p=>some (encR (xdc l b a k) (xcE l b a k) (.inr p)))) (by kernel_rfl) ?_;unfold xaP xee;repeat' first|exact eN|exact eS rfl|apply eB
def xfH:Lp:=lpOf [0,3,5,6,7,8] [0,3,5,6,7] [(5,2,86),(3,1,1073741824)] (pCons (pList 3 pAny) (pCons (pList 1 pAny) (pCons (pOsl 0 0 0) (pCons (pInt .i64) (pCons (pInt .i64) (pCons (pInt .i64) pNil)))))) (pCons (pBox 0 2 86 false true pAny) pNil) fun (l,(c,(a,(k,(n,(i,_)))))) (b,_)=>((Iter (xaP l c a k) (n,i,b)).isSome,xcE l c a k ((Iter (xaP l c a k) (n,i,b)).getD (0,[])))
theorem xho:LoopOk Tryz.prog (ITryz.at xep.pin) xep.nt (loopAt Tryz.f48 2) xfH:=xb2 fun e f h g=>by
 obtain ⟨l,⟨c,⟨a,⟨k,⟨n,⟨i,_⟩⟩⟩⟩⟩⟩:=e
 obtain ⟨b,_⟩:=f
 obtain ⟨d,rfl⟩:=Prod.mk.inj g
 exact xau mxTryz (inv0Ok Tryz.prog _) rfl xnb xjX (xdc l c a k) (xcE l c a k) (fun p=>by simp only [xcE,LR.eval];first|(simp;done)|(repeat' split<;>simp)) (xol l c a k) (s:=(n,i,b)) (xaa d)
def xeq:Env:=xh6.fn 82 0 (lsOf []) (lpsOf [(3,xeY),(14,xfH)])
theorem xnc:OrcOk Tryz.prog (ITryz.at 0) xeq:=xfY.fn
theorem xjY:LoOk Tryz.prog (ITryz.at xeq.pin) xeq (loopAt Tryz.f48 1):=xaY (ls:=[loopAt Tryz.f48 2]) (by kernel_rfl) (lkC xho lkN)
def xdR (l c:LA) (b:Nat) (k:Int) (a:LA):=(Iter (xaP l c b k) (0,0,a)).getD (0,[])
def xdQ (l c:LA) (a:Nat) (k:Int) (b:LA):=xbb a ((c.getD k.toNat .top).cells.getD 0 .top).toInt (xdR l c a k b).fst (xdR l c a k b).snd
def xdP (l c:LA) (b:Nat) (k:Int) (a:LA):=(xdQ l c b k a).getD (false,(0,[]),0,[])
def xdN (l c:LA) (b:Nat) (k:Int) (a:LA):=(xdP l c b k a).fst
def xdO (l c:LA) (b:Nat) (k:Int) (a:LA):=(xdP l c b k a).snd
def xdL (l c:LA) (b:Nat) (k:Int) (a:LA):=(xdO l c b k a).fst
def xdM (l c:LA) (b:Nat) (k:Int) (a:LA):=(xdO l c b k a).snd
def xdb {T:Type} (l c:LA) (b:Nat) (k:Int) (a:LA) (δ:T) (κl:(Nat×Int×LA)→T) (κr:(Nat×LA)→T):T:=br (decide (k<c.length)) (br (decide (0≤k)&&decide (k<c.length)) (br (decide (k.toNat<c.length)&&hasSh1 (Sh.int .i64) ((c.getD k.toNat .top).cells.getD 0 .top)) (br (decide (((c.getD k.toNat .top).cells.getD 0 .top).toInt<1099511627776)) (br ((Iter (xaP l c b k) (0,0,a)).isSome) (br (decide (0≤k)&&decide (k<c.length)) (br (decide (k.toNat<c.length)&&hasSh1 (Sh.int .i64) ((c.getD k.toNat .top).cells.getD 0 .top)) (br ((xdQ l c b k a).isSome) (κl (br (xdN l c b k a) (xdL l c b k a).fst (xdM l c b k a).fst,i64.wrap (k+1),br (xdN l c b k a) (xdL l c b k a).snd (xdM l c b k a).snd)) δ) δ) δ) δ) (κr (b,a))) δ) δ) (κr (b,a))
def xaO (l c:LA):(Nat×Int×LA)→Option ((Nat×Int×LA)⊕(Nat×LA)):=fun (b,k,a)=>xdb l c b k a none (fun s=>some (.inl s)) (fun p=>some (.inr p))
def xda (l c:LA):(Nat×Int×LA)→LA×List Box:=fun (b,k,a)=>([AV.list 3 l,AV.list 1 c,AV.osl 0 0 0 b,AV.int .i64 k],[⟨0,2,86,a,false,true⟩])
def xcD (l a:LA):(Nat×LA)→LR:=fun p=>(.leaf (.exit 2) [AV.osl 0 0 0 p.1] [⟨0,2,86,p.2,false,true⟩])
abbrev xoi (a:LA) (H:List Box):=XR Tryz.prog xeq [0,3,5,6] [5] [(5,2,86),(3,1,1073741824)] (loopAt Tryz.f48 1) a H
theorem xoj (l a:LA) (s:Nat×Int×LA):Enc (encR (xda l a) (xcD l a)) (xaO l a s) (xoi (xda l a s).1 (xda l a s).2):=by
 obtain ⟨c,k,b⟩:=s
 refine eV (xdb l a c k b none (fun s=>some (encR (xda l a) (xcD l a) (.inl s))) (fun p=>some (encR (xda l a) (xcD l a) (.inr p)))) (by kernel_rfl) ?_;unfold xaO xdb;repeat' first|exact eN|exact eS rfl|apply eB
def xil:Lp:=lpOf [0,3,5,6] [5] [(5,2,86),(3,1,1073741824)] (pCons (pList 3 pAny) (pCons (pList 1 pAny) (pCons (pOsl 0 0 0) (pCons (pInt .i64) pNil)))) (pCons (pBox 0 2 86 false true pAny) pNil) fun (l,(c,(b,(k,_)))) (a,_)=>((Iter (xaO l c) (b,k,a)).isSome,xcD l c ((Iter (xaO l c) (b,k,a)).getD (0,[])))
theorem xmw:LoopOk Tryz.prog (ITryz.at xeq.pin) xeq.nt (loopAt Tryz.f48 1) xil:=xb2 fun e f h g=>by
 obtain ⟨l,⟨c,⟨b,⟨k,_⟩⟩⟩⟩:=e
 obtain ⟨a,_⟩:=f
 obtain ⟨d,rfl⟩:=Prod.mk.inj g
 exact xau mxTryz (inv0Ok Tryz.prog _) rfl xnc xjY (xda l c) (xcD l c) (fun p=>by simp only [xcD,LR.eval];first|(simp;done)|(repeat' split<;>simp)) (xoj l c) (s:=(b,k,a)) (xaa d)
def xe9:Env:=xh6.fn 82 0 (lsOf []) (lpsOf [(3,xeY),(14,xfH),(10,xil)])
theorem xnd:OrcOk Tryz.prog (ITryz.at 0) xe9:=xfY.fn
theorem xlA:LoOk Tryz.prog (ITryz.at xe9.pin) xe9 (Tryz.f48.body.getD .skip):=xaY (ls:=[loopAt Tryz.f48 0,loopAt Tryz.f48 1,loopAt Tryz.f48 2]) (by kernel_rfl) (lkC xmv (lkC xmw (lkC xho lkN)))
def xhQ (l:LA):=Iter (xaO l ((Iter (xaN l) ([AV.int .i64 0],0)).getD [])) (0,0,[])
def xhP (l:LA):=(xhQ l).getD (0,[])
def xhN (l:LA):=(xhP l).snd
def xhO (l:LA):=(xhP l).fst
def xgy {T:Type} (l:LA) (δ:T) (κ:LA→T):T:=br ((Iter (xaN l) ([AV.int .i64 0],0)).isSome) (br ((xhQ l).isSome) (br (decide (0+xhO l≤(xhN l).length)&&true) (κ (List.take (xhO l) (List.drop 0 (xhN l)))) δ) δ) δ
def xeN (l:LA):Option (LA):=xgy l none some
theorem xqx (l:LA):Enc (fun (p:LA)=>((AV.list 2 p):AV)) (xeN l) (XF Tryz.prog xe9 Tryz.f48 (Tryz.f48.body.getD .skip) [AV.list 3 l]):=by
 refine eV (xgy l none (fun (p:LA)=>some ((AV.list 2 p):AV))) (by kernel_rfl) ?_;unfold xeN xgy;repeat' first|exact eN|exact eS rfl|apply eB
def xmy:LA→Option (Bool×AV):=ocOf (sCons (sList 3 pAny) sNil) fun (l,_)=>((xeN l).isSome,(AV.list 2 ((xeN l).getD [])))
theorem xqZ:OcOk Tryz.prog ITryz 48 (xmy):=xa3 fun c f e=>by
 obtain ⟨l,_⟩:=c
 obtain ⟨a,b⟩:=Prod.mk.inj e
 refine xal (p:=xe9.pin) (xat mxTryz (inv0Ok Tryz.prog _) rfl xnd Tryz.func48 rfl (by kernel_rfl) xlA ((xqx _ _ (xaa (d:=[]) a)).trans ?_))
 exact congrArg some b
def xlT:Env:=xh6.with 48 xmy
theorem xjj:OrcOk Tryz.prog ITryz xlT:=xfY.with xqZ
def xcX:Env:=xlT.fn 22 0 (lsOf []) (lpsOf [])
theorem xkK:OrcOk Tryz.prog (ITryz.at 0) xcX:=xjj.fn
theorem xin:LoOk Tryz.prog (ITryz.at xcX.pin) xcX (loopAt Tryz.f19 0):=xah (by kernel_rfl)
def xc4 {T:Type} (l:LA) (a:Nat) (i:Int) (b:LA) (δ:T) (κl:(Nat×Int×LA)→T) (κr:(Nat×LA)→T):T:=br (decide (i<l.length)) (br (decide (0≤i)&&decide (i<l.length)) (br (decide (i.toNat<l.length)&&((l.getD i.toNat .top).cells.length==3&&hasShs [Sh.int .i64,Sh.int .i64] (l.getD i.toNat .top).cells 1)) (br (a==b.length&&(decide ((a+1)*24≤140737488355328)&&decide (a+1≤4611686018427387904))) (κl (a+1,i64.wrap (i+1),b++[AV.agg [AV.int .i64 ((l.getD i.toNat .top).cells.getD 1 .top).toInt,AV.int .i64 ((l.getD i.toNat .top).cells.getD 2 .top).toInt,AV.int .i64 1]])) δ) δ) δ) (κr (a,b))
def xaB (l:LA):(Nat×Int×LA)→Option ((Nat×Int×LA)⊕(Nat×LA)):=fun (b,i,a)=>xc4 l b i a none (fun s=>some (.inl s)) (fun p=>some (.inr p))
def xb9 (l:LA):(Nat×Int×LA)→LA×List Box:=fun (b,i,a)=>([AV.list 3 l,AV.osl 0 0 0 b,AV.int .i64 i],[⟨0,3,89,a,false,true⟩])
def xbC (l:LA):(Nat×LA)→LR:=fun p=>(.leaf (.exit 0) [AV.osl 0 0 0 p.1] [⟨0,3,89,p.2,false,true⟩])
abbrev xlF (a:LA) (H:List Box):=XR Tryz.prog xcX [0,3,4] [3] [(3,3,89)] (loopAt Tryz.f19 0) a H
theorem xlG (l:LA) (s:Nat×Int×LA):Enc (encR (xb9 l) (xbC l)) (xaB l s) (xlF (xb9 l s).1 (xb9 l s).2):=by
 obtain ⟨b,i,a⟩:=s
 refine eV (xc4 l b i a none (fun s=>some (encR (xb9 l) (xbC l) (.inl s))) (fun p=>some (encR (xb9 l) (xbC l) (.inr p)))) (by kernel_rfl) ?_;unfold xaB xc4;repeat' first|exact eN|exact eS rfl|apply eB
def xgq:Lp:=lpOf [0,3,4] [3] [(3,3,89)] (pCons (pList 3 pAny) (pCons (pOsl 0 0 0) (pCons (pInt .i64) pNil))) (pCons (pBox 0 3 89 false true pAny) pNil) fun (l,(b,(i,_))) (a,_)=>((Iter (xaB l) (b,i,a)).isSome,xbC l ((Iter (xaB l) (b,i,a)).getD (0,[])))
theorem xj1:LoopOk Tryz.prog (ITryz.at xcX.pin) xcX.nt (loopAt Tryz.f19 0) xgq:=xb2 fun d e g f=>by
 obtain ⟨l,⟨b,⟨i,_⟩⟩⟩:=d
 obtain ⟨a,_⟩:=e
 obtain ⟨c,rfl⟩:=Prod.mk.inj f
 exact xau mxTryz (inv0Ok Tryz.prog _) rfl xkK xin (xb9 l) (xbC l) (fun p=>by simp only [xbC,LR.eval];first|(simp;done)|(repeat' split<;>simp)) (xlG l) (s:=(b,i,a)) (xaa c)
def xdT:Env:=xlT.fn 22 0 (lsOf []) (lpsOf [(3,xgq)])
theorem xkL:OrcOk Tryz.prog (ITryz.at 0) xdT:=xjj.fn
theorem xjd:LoOk Tryz.prog (ITryz.at xdT.pin) xdT (Tryz.f19.body.getD .skip):=xaY (ls:=[loopAt Tryz.f19 0]) (by kernel_rfl) (lkC xj1 lkN)
def xfL (l:LA):=(Iter (xaB l) (0,0,[])).getD (0,[])
def xfJ (l:LA):=(xfL l).snd
def xfK (l:LA):=(xfL l).fst
def xfI (l:LA):=xeN (List.take (xfK l) (List.drop 0 (xfJ l)))
def xfd {T:Type} (l:LA) (δ:T) (κ:LA→T):T:=br ((Iter (xaB l) (0,0,[])).isSome) (br (decide (0+xfK l≤(xfJ l).length)&&true) (br ((xfI l).isSome) (κ ((xfI l).getD [])) δ) δ) δ
def xco (l:LA):Option (LA):=xfd l none some
theorem xoq (l:LA):Enc (fun (p:LA)=>((AV.list 2 p):AV)) (xco l) (XF Tryz.prog xdT Tryz.f19 (Tryz.f19.body.getD .skip) [AV.list 3 l]):=by
 refine eV (xfd l none (fun (p:LA)=>some ((AV.list 2 p):AV))) (by kernel_rfl) ?_;unfold xco xfd;repeat' first|exact eN|exact eS rfl|apply eB
def xi2:LA→Option (Bool×AV):=ocOf (sCons (sList 3 pAny) sNil) fun (l,_)=>((xco l).isSome,(AV.list 2 ((xco l).getD [])))
theorem xoo:OcOk Tryz.prog ITryz 19 (xi2):=xa3 fun c f e=>by
 obtain ⟨l,_⟩:=c
 obtain ⟨a,b⟩:=Prod.mk.inj e
 refine xal (p:=xdT.pin) (xat mxTryz (inv0Ok Tryz.prog _) rfl xkL Tryz.func19 rfl (by kernel_rfl) xjd ((xoq _ _ (xaa (d:=[]) a)).trans ?_))
 exact congrArg some b
def xlU:Env:=xlT.with 19 xi2
theorem xjk:OrcOk Tryz.prog ITryz xlU:=xjj.with xoo
def xdd:Env:=xlU.fn 26 0 (lsOf []) (lpsOf [])
theorem xlB:OrcOk Tryz.prog (ITryz.at 0) xdd:=xjk.fn
theorem xiM:LoOk Tryz.prog (ITryz.at xdd.pin) xdd (loopAt Tryz.f17 0):=xah (by kernel_rfl)
def xdA {T:Type} (a b:LA) (i:Int) (δ:T) (κl:(Int)→T) (κr:(Bool×(Bool)×(Unit))→T):T:=br (decide (i<a.length)) (br (decide (0≤i)&&decide (i<a.length)) (br (decide (i.toNat<a.length)&&((a.getD i.toNat .top).cells.length==2&&hasShs [Sh.int .i64,Sh.int .i64] (a.getD i.toNat .top).cells 0)) (br (decide (0≤i)&&decide (i<b.length)) (br (decide (i.toNat<b.length)&&((b.getD i.toNat .top).cells.length==2&&hasShs [Sh.int .i64,Sh.int .i64] (b.getD i.toNat .top).cells 0)) (br (!(((a.getD i.toNat .top).cells.getD 0 .top).toInt==((b.getD i.toNat .top).cells.getD 0 .top).toInt&&(((a.getD i.toNat .top).cells.getD 1 .top).toInt==((b.getD i.toNat .top).cells.getD 1 .top).toInt&&true))) (κr (true,(false),())) (κl (i64.wrap (i+1)))) δ) δ) δ) δ) (κr (false,false,()))
def xay (a b:LA):(Int)→Option ((Int)⊕(Bool×(Bool)×(Unit))):=fun (i)=>xdA a b i none (fun s=>some (.inl s)) (fun p=>some (.inr p))
def xcF (a b:LA):(Int)→LA×List Box:=fun (i)=>([AV.list 2 a,AV.list 2 b,AV.int .i64 i],[])
def xbT (a b:LA):(Bool×(Bool)×(Unit))→LR:=fun p=>(.node p.1 (.leaf .ret [AV.bool p.2.1] []) (.leaf (.exit 0) [.top] []))
abbrev xmz (a:LA) (H:List Box):=XR Tryz.prog xdd [0,1,5] [4] [] (loopAt Tryz.f17 0) a H
theorem xmA (a b:LA) (i:Int):Enc (encR (xcF a b) (xbT a b)) (xay a b i) (xmz (xcF a b i).1 (xcF a b i).2):=by
 refine eV (xdA a b i none (fun s=>some (encR (xcF a b) (xbT a b) (.inl s))) (fun p=>some (encR (xcF a b) (xbT a b) (.inr p)))) (by kernel_rfl) ?_;unfold xay xdA;repeat' first|exact eN|exact eS rfl|apply eB
def xg0:Lp:=lpOf [0,1,5] [4] [] (pCons (pList 2 pAny) (pCons (pList 2 pAny) (pCons (pInt .i64) pNil))) pNil fun (a,(b,(i,_))) _=>((Iter (xay a b) (i)).isSome,xbT a b ((Iter (xay a b) (i)).getD (false,false,())))
theorem xkG:LoopOk Tryz.prog (ITryz.at xdd.pin) xdd.nt (loopAt Tryz.f17 0) xg0:=xb2 fun d f g e=>by
 obtain ⟨a,⟨b,⟨i,_⟩⟩⟩:=d
 obtain ⟨c,rfl⟩:=Prod.mk.inj e
 exact xau mxTryz (inv0Ok Tryz.prog _) rfl xlB xiM (xcF a b) (xbT a b) (fun p=>by simp only [xbT,LR.eval];first|(simp;done)|(repeat' split<;>simp)) (xmA a b) (s:=(i)) (xaa c)
def xef:Env:=xlU.fn 26 0 (lsOf []) (lpsOf [(4,xg0)])
theorem xlC:OrcOk Tryz.prog (ITryz.at 0) xef:=xjk.fn
theorem xjZ:LoOk Tryz.prog (ITryz.at xef.pin) xef (Tryz.f17.body.getD .skip):=xaY (ls:=[loopAt Tryz.f17 0]) (by kernel_rfl) (lkC xkG lkN)
def xfv {T:Type} (a b:LA) (δ:T) (κ:Bool→T):T:=br ((↑a.length:Int) != (↑b.length:Int)) (κ (false)) (br ((Iter (xay a b) 0).isSome) (br (((Iter (xay a b) 0).getD (false,false,())).fst) (κ (((Iter (xay a b) 0).getD (false,false,())).snd.fst)) (κ (true))) δ)
def xdz (a b:LA):Option (Bool):=xfv a b none some
theorem xpd (a b:LA):Enc (fun (p:Bool)=>((AV.bool p):AV)) (xdz a b) (XF Tryz.prog xef Tryz.f17 (Tryz.f17.body.getD .skip) [AV.list 2 a,AV.list 2 b]):=by
 refine eV (xfv a b none (fun (p:Bool)=>some ((AV.bool p):AV))) (by kernel_rfl) ?_;unfold xdz xfv;repeat' first|exact eN|exact eS rfl|apply eB
def xjx:LA→Option (Bool×AV):=ocOf (sCons (sList 2 pAny) (sCons (sList 2 pAny) sNil)) fun (a,(b,_))=>((xdz a b).isSome,(AV.bool ((xdz a b).getD false)))
theorem xpc:OcOk Tryz.prog ITryz 17 (xjx):=xa3 fun f h g=>by
 obtain ⟨a,⟨b,_⟩⟩:=f
 obtain ⟨c,e⟩:=Prod.mk.inj g
 refine xal (p:=xef.pin) (xat mxTryz (inv0Ok Tryz.prog _) rfl xlC Tryz.func17 rfl (by kernel_rfl) xjZ ((xpd _ _ _ (xaa (d:=false) c)).trans ?_))
 exact congrArg some e
def xlV:Env:=xlU.with 17 xjx
theorem xjl:OrcOk Tryz.prog ITryz xlV:=xjk.with xpc
def xcW:Env:=xlV.fn 54 0 (lsOf []) (lpsOf [])
theorem xkH:OrcOk Tryz.prog (ITryz.at 0) xcW:=xjl.fn
theorem xim:LoOk Tryz.prog (ITryz.at xcW.pin) xcW (loopAt Tryz.f20 0):=xah (by kernel_rfl)
def xbU (l:LA) (i:Int):=decide (0≤i64.wrap (i - 1))&&decide (i64.wrap (i - 1)<(↑l.length:Int))
def xbh (l:LA) (i:Int):=decide (0≤i)&&decide (i<l.length)
def xba {T:Type} (l:LA) (i:Int) (δ:T) (κl:(Int)→T) (κr:(Bool×(Bool)×(Unit))→T):T:=br (decide (i<l.length)) (br (xbh l i) (br (decide (i.toNat<l.length)&&hasSh1 (Sh.int .i64) ((l.getD i.toNat .top).cells.getD 0 .top)) (br (xbU l i) (br (decide ((i64.wrap (i - 1)).toNat<l.length)&&hasSh1 (Sh.int .i64) ((l.getD (i64.wrap (i - 1)).toNat .top).cells.getD 0 .top)) (br (decide (((l.getD i.toNat .top).cells.getD 0 .top).toInt≤((l.getD (i64.wrap (i - 1)).toNat .top).cells.getD 0 .top).toInt)) (κr (true,(false),())) (br (xbh l i) (br (decide (i.toNat<l.length)&&hasSh1 (Sh.int .i64) ((l.getD i.toNat .top).cells.getD 0 .top)) (br (decide (((l.getD i.toNat .top).cells.getD 0 .top).toInt≥1099511627776)) (κr (true,(false),())) (br (xbh l i) (br (decide (i.toNat<l.length)&&hasSh1 (Sh.int .i64) ((l.getD i.toNat .top).cells.getD 1 .top)) (br (xbU l i) (br (decide ((i64.wrap (i - 1)).toNat<l.length)&&hasSh1 (Sh.int .i64) ((l.getD (i64.wrap (i - 1)).toNat .top).cells.getD 1 .top)) (br (((l.getD i.toNat .top).cells.getD 1 .top).toInt==((l.getD (i64.wrap (i - 1)).toNat .top).cells.getD 1 .top).toInt) (κr (true,(false),())) (κl (i64.wrap (i+1)))) δ) δ) δ) δ)) δ) δ)) δ) δ) δ) δ) (κr (false,false,()))
def xae (l:LA):(Int)→Option ((Int)⊕(Bool×(Bool)×(Unit))):=fun (i)=>xba l i none (fun s=>some (.inl s)) (fun p=>some (.inr p))
def xb8 (l:LA):(Int)→LA×List Box:=fun (i)=>([AV.list 2 l,AV.int .i64 i],[])
def xbB (l:LA):(Bool×(Bool)×(Unit))→LR:=fun p=>(.node p.1 (.leaf .ret [AV.bool p.2.1] []) (.leaf (.exit 0) [.top] []))
abbrev xlD (a:LA) (H:List Box):=XR Tryz.prog xcW [0,3] [2] [] (loopAt Tryz.f20 0) a H
theorem xlE (l:LA) (i:Int):Enc (encR (xb8 l) (xbB l)) (xae l i) (xlD (xb8 l i).1 (xb8 l i).2):=by
 refine eV (xba l i none (fun s=>some (encR (xb8 l) (xbB l) (.inl s))) (fun p=>some (encR (xb8 l) (xbB l) (.inr p)))) (by kernel_rfl) ?_;unfold xae xba;repeat' first|exact eN|exact eS rfl|apply eB
def xgp:Lp:=lpOf [0,3] [2] [] (pCons (pList 2 pAny) (pCons (pInt .i64) pNil)) pNil fun (l,(i,_)) _=>((Iter (xae l) (i)).isSome,xbB l ((Iter (xae l) (i)).getD (false,false,())))
theorem xj0:LoopOk Tryz.prog (ITryz.at xcW.pin) xcW.nt (loopAt Tryz.f20 0) xgp:=xb2 fun b d e c=>by
 obtain ⟨l,⟨i,_⟩⟩:=b
 obtain ⟨a,rfl⟩:=Prod.mk.inj c
 exact xau mxTryz (inv0Ok Tryz.prog _) rfl xkH xim (xb8 l) (xbB l) (fun p=>by simp only [xbB,LR.eval];first|(simp;done)|(repeat' split<;>simp)) (xlE l) (s:=(i)) (xaa a)
def xdS:Env:=xlV.fn 54 0 (lsOf []) (lpsOf [(4,xgp)])
theorem xkI:OrcOk Tryz.prog (ITryz.at 0) xdS:=xjl.fn
theorem xjc:LoOk Tryz.prog (ITryz.at xdS.pin) xdS (Tryz.f20.body.getD .skip):=xaY (ls:=[loopAt Tryz.f20 0]) (by kernel_rfl) (lkC xj0 lkN)
def xfc {T:Type} (l:LA) (δ:T) (κ:Bool→T):T:=br ((↑l.length:Int)==0) (κ (false)) (br (decide (0<(↑l.length:Int))) (br (decide (0<l.length)&&hasSh1 (Sh.int .i64) ((l.getD 0 .top).cells.getD 0 .top)) (br (((l.getD 0 .top).cells.getD 0 .top).toInt != 0) (κ (false)) (br ((Iter (xae l) 1).isSome) (br (((Iter (xae l) 1).getD (false,false,())).fst) (κ (((Iter (xae l) 1).getD (false,false,())).snd.fst)) (κ (true))) δ)) δ) δ)
def xcU (l:LA):Option (Bool):=xfc l none some
theorem xon (l:LA):Enc (fun (p:Bool)=>((AV.bool p):AV)) (xcU l) (XF Tryz.prog xdS Tryz.f20 (Tryz.f20.body.getD .skip) [AV.list 2 l]):=by
 refine eV (xfc l none (fun (p:Bool)=>some ((AV.bool p):AV))) (by kernel_rfl) ?_;unfold xcU xfc;repeat' first|exact eN|exact eS rfl|apply eB
def xi1:LA→Option (Bool×AV):=ocOf (sCons (sList 2 pAny) sNil) fun (l,_)=>((xcU l).isSome,(AV.bool ((xcU l).getD false)))
theorem xom:OcOk Tryz.prog ITryz 20 (xi1):=xa3 fun c f e=>by
 obtain ⟨l,_⟩:=c
 obtain ⟨a,b⟩:=Prod.mk.inj e
 refine xal (p:=xdS.pin) (xat mxTryz (inv0Ok Tryz.prog _) rfl xkI Tryz.func20 rfl (by kernel_rfl) xjc ((xon _ _ (xaa (d:=false) a)).trans ?_))
 exact congrArg some b
def xlW:Env:=xlV.with 20 xi1
theorem xjm:OrcOk Tryz.prog ITryz xlW:=xjl.with xom
def xen:Env:=xlW.fn 34 0 (lsOf []) (lpsOf [])
theorem xm8:OrcOk Tryz.prog (ITryz.at 0) xen:=xjm.fn
theorem xjV:LoOk Tryz.prog (ITryz.at xen.pin) xen (loopAt Tryz.f34 0):=xah (by kernel_rfl)
def xec {T:Type} (l:LA) (t n i:Int) (δ:T) (κl:(Int×Int)→T) (κr:(Int)→T):T:=br (decide (i<l.length)) (br (decide (t≥0)) (br (decide (t<1099511627776)) (br (decide (0≤i)&&decide (i<l.length)) (br (decide (i.toNat<l.length)&&hasSh1 (Sh.int .i64) ((l.getD i.toNat .top).cells.getD 0 .top)) (br (decide (((l.getD i.toNat .top).cells.getD 0 .top).toInt≤t)) (br (decide (0≤i)&&decide (i<l.length)) (br (decide (i.toNat<l.length)&&hasSh1 (Sh.int .i64) ((l.getD i.toNat .top).cells.getD 1 .top)) (κl (((l.getD i.toNat .top).cells.getD 1 .top).toInt,i64.wrap (i+1))) δ) δ) (κl (n,i64.wrap (i+1)))) δ) δ) (κr (n))) (κr (n))) (κr (n))
def xaM (l:LA) (t:Int):(Int×Int)→Option ((Int×Int)⊕(Int)):=fun (n,i)=>xec l t n i none (fun s=>some (.inl s)) (fun p=>some (.inr p))
def xc8 (l:LA) (t:Int):(Int×Int)→LA×List Box:=fun (n,i)=>([AV.list 2 l,AV.int .i64 t,AV.int .i64 n,AV.int .i64 i],[])
def xcB (l:LA) (t:Int):(Int)→LR:=fun p=>(.leaf (.exit 0) [AV.int .i64 p] [])
abbrev xoe (a:LA) (H:List Box):=XR Tryz.prog xen [0,1,5,6] [5] [] (loopAt Tryz.f34 0) a H
theorem xof (l:LA) (t:Int) (s:Int×Int):Enc (encR (xc8 l t) (xcB l t)) (xaM l t s) (xoe (xc8 l t s).1 (xc8 l t s).2):=by
 obtain ⟨n,i⟩:=s
 refine eV (xec l t n i none (fun s=>some (encR (xc8 l t) (xcB l t) (.inl s))) (fun p=>some (encR (xc8 l t) (xcB l t) (.inr p)))) (by kernel_rfl) ?_;unfold xaM xec;repeat' first|exact eN|exact eS rfl|apply eB
def xik:Lp:=lpOf [0,1,5,6] [5] [] (pCons (pList 2 pAny) (pCons (pInt .i64) (pCons (pInt .i64) (pCons (pInt .i64) pNil)))) pNil fun (l,(t,(n,(i,_)))) _=>((Iter (xaM l t) (n,i)).isSome,xcB l t ((Iter (xaM l t) (n,i)).getD 0))
theorem xmt:LoopOk Tryz.prog (ITryz.at xen.pin) xen.nt (loopAt Tryz.f34 0) xik:=xb2 fun b d e c=>by
 obtain ⟨l,⟨t,⟨n,⟨i,_⟩⟩⟩⟩:=b
 obtain ⟨a,rfl⟩:=Prod.mk.inj c
 exact xau mxTryz (inv0Ok Tryz.prog _) rfl xm8 xjV (xc8 l t) (xcB l t) (fun p=>by simp only [xcB,LR.eval];first|(simp;done)|(repeat' split<;>simp)) (xof l t) (s:=(n,i)) (xaa a)
def xe8:Env:=xlW.fn 34 0 (lsOf []) (lpsOf [(3,xik)])
theorem xm9:OrcOk Tryz.prog (ITryz.at 0) xe8:=xjm.fn
theorem xlz:LoOk Tryz.prog (ITryz.at xe8.pin) xe8 (Tryz.f34.body.getD .skip):=xaY (ls:=[loopAt Tryz.f34 0]) (by kernel_rfl) (lkC xmt lkN)
def xgw {T:Type} (l:LA) (t:Int) (δ:T) (κ:Int→T):T:=br ((Iter (xaM l t) (0,0)).isSome) (κ ((Iter (xaM l t) (0,0)).getD 0)) δ
def xeM (l:LA) (t:Int):Option (Int):=xgw l t none some
theorem xqY (l:LA) (t:Int):Enc (fun (p:Int)=>((AV.int .i64 p):AV)) (xeM l t) (XF Tryz.prog xe8 Tryz.f34 (Tryz.f34.body.getD .skip) [AV.list 2 l,AV.int .i64 t]):=by
 refine eV (xgw l t none (fun (p:Int)=>some ((AV.int .i64 p):AV))) (by kernel_rfl) ?_;unfold xeM xgw;repeat' first|exact eN|exact eS rfl|apply eB
def xmu:LA→Option (Bool×AV):=ocOf (sCons (sList 2 pAny) (sCons (sEq (pInt .i64)) sNil)) fun (l,(t,_))=>((xeM l t).isSome,(AV.int .i64 ((xeM l t).getD 0)))
theorem xqX:OcOk Tryz.prog ITryz 34 (xmu):=xa3 fun c f e=>by
 obtain ⟨l,⟨t,_⟩⟩:=c
 obtain ⟨a,b⟩:=Prod.mk.inj e
 refine xal (p:=xe8.pin) (xat mxTryz (inv0Ok Tryz.prog _) rfl xm9 Tryz.func34 rfl (by kernel_rfl) xlz ((xqY _ _ _ (xaa (d:=0) a)).trans ?_))
 exact congrArg some b
def xlX:Env:=xlW.with 34 xmu
theorem xjn:OrcOk Tryz.prog ITryz xlX:=xjm.with xqX
def xde:Env:=xlX.fn 52 0 (lsOf []) (lpsOf [])
theorem xlJ:OrcOk Tryz.prog (ITryz.at 0) xde:=xjn.fn
theorem xiP:LoOk Tryz.prog (ITryz.at xde.pin) xde (loopAt Tryz.f22 0):=xah (by kernel_rfl)
def xc5 (l:LA) (i:Int):=decide (0≤i)&&decide (i<l.length)
def xdB {T:Type} (l:LA) (n c i a b:Int) (δ:T) (κl:(Int×Int×Int×Int×Int)→T) (κr:(Int×Int)→T):T:=br (decide (i<l.length)) (br (xc5 l i) (br (decide (i.toNat<l.length)&&hasSh1 (Sh.int .i64) ((l.getD i.toNat .top).cells.getD 0 .top)) (br (xb4 a b ((l.getD i.toNat .top).cells.getD 0 .top).toInt) (br (xc5 l i) (br (decide (i.toNat<l.length)&&hasSh1 (Sh.int .i64) ((l.getD i.toNat .top).cells.getD 1 .top)) (br (decide (((l.getD i.toNat .top).cells.getD 1 .top).toInt>n)) (br (xc5 l i) (br (decide (i.toNat<l.length)&&hasSh1 (Sh.int .i64) ((l.getD i.toNat .top).cells.getD 1 .top)) (br (xc5 l i) (br (decide (i.toNat<l.length)&&hasSh1 (Sh.int .i64) ((l.getD i.toNat .top).cells.getD 0 .top)) (κl (((l.getD i.toNat .top).cells.getD 1 .top).toInt,((l.getD i.toNat .top).cells.getD 0 .top).toInt,i64.wrap (i+1),a,b)) δ) δ) δ) δ) (κl (n,c,i64.wrap (i+1),a,b))) δ) δ) (κl (n,c,i64.wrap (i+1),a,b))) δ) δ) (κr (n,c))
def xaE (l:LA):(Int×Int×Int×Int×Int)→Option ((Int×Int×Int×Int×Int)⊕(Int×Int)):=fun (n,c,i,a,b)=>xdB l n c i a b none (fun s=>some (.inl s)) (fun p=>some (.inr p))
def xcG (l:LA):(Int×Int×Int×Int×Int)→LA×List Box:=fun (n,c,i,a,b)=>([AV.list 2 l,AV.own 0 0 0 0,AV.int .i64 n,AV.int .i64 c,AV.int .i64 i],[⟨0,2,35,[AV.agg [AV.int .i64 a,AV.int .i64 b]],false,true⟩])
def xbW (l:LA):(Int×Int)→LR:=fun p=>(.leaf (.exit 0) [AV.int .i64 p.1,AV.int .i64 p.2] [])
abbrev xmC (a:LA) (H:List Box):=XR Tryz.prog xde [0,3,6,7,8] [6,7] [] (loopAt Tryz.f22 0) a H
theorem xmD (l:LA) (s:Int×Int×Int×Int×Int):Enc (encR (xcG l) (xbW l)) (xaE l s) (xmC (xcG l s).1 (xcG l s).2):=by
 obtain ⟨n,c,i,a,b⟩:=s
 refine eV (xdB l n c i a b none (fun s=>some (encR (xcG l) (xbW l) (.inl s))) (fun p=>some (encR (xcG l) (xbW l) (.inr p)))) (by kernel_rfl) ?_;unfold xaE xdB;repeat' first|exact eN|exact eS rfl|apply eB
def xg3:Lp:=lpOf [0,3,6,7,8] [6,7] [] (pCons (pList 2 pAny) (pCons (pOwn 0 0 0 0) (pCons (pInt .i64) (pCons (pInt .i64) (pCons (pInt .i64) pNil))))) (pCons (pBox 0 2 35 false true (pCons (pAgg (pCons (pInt .i64) (pCons (pInt .i64) pNil))) pNil)) pNil) fun (l,(_,(n,(c,(i,_))))) (((a,(b,_)),_),_)=>((Iter (xaE l) (n,c,i,a,b)).isSome,xbW l ((Iter (xaE l) (n,c,i,a,b)).getD (0,0)))
theorem xkM:LoopOk Tryz.prog (ITryz.at xde.pin) xde.nt (loopAt Tryz.f22 0) xg3:=xb2 fun e f h g=>by
 obtain ⟨l,⟨_,⟨n,⟨c,⟨i,_⟩⟩⟩⟩⟩:=e
 obtain ⟨⟨⟨a,⟨b,_⟩⟩,_⟩,_⟩:=f
 obtain ⟨d,rfl⟩:=Prod.mk.inj g
 exact xau mxTryz (inv0Ok Tryz.prog _) rfl xlJ xiP (xcG l) (xbW l) (fun p=>by simp only [xbW,LR.eval];first|(simp;done)|(repeat' split<;>simp)) (xmD l) (s:=(n,c,i,a,b)) (xaa d)
def xeg:Env:=xlX.fn 52 0 (lsOf []) (lpsOf [(5,xg3)])
theorem xlK:OrcOk Tryz.prog (ITryz.at 0) xeg:=xjn.fn
theorem xj2:LoOk Tryz.prog (ITryz.at xeg.pin) xeg (Tryz.f22.body.getD .skip):=xaY (ls:=[loopAt Tryz.f22 0]) (by kernel_rfl) (lkC xkM lkN)
def xgh (l:LA) (a b:Int):=Iter (xaE l) ((xeM l a).getD 0,a,0,a,b)
def xgg (l:LA) (a b:Int):=(xgh l a b).getD (0,0)
def xfy {T:Type} (l:LA) (a b:Int) (δ:T) (κ:Int×Int→T):T:=br (!xaV a b) (κ (0,0)) (br ((xeM l a).isSome) (br ((xgh l a b).isSome) (κ ((xgg l a b).fst,(xgg l a b).snd)) δ) δ)
def xcp (l:LA) (a b:Int):Option (Int×Int):=xfy l a b none some
theorem xpf (l:LA) (a b:Int):Enc (fun (p:Int×Int)=>((AV.tuple [AV.int .i64 p.1,AV.int .i64 p.2]):AV)) (xcp l a b) (XF Tryz.prog xeg Tryz.f22 (Tryz.f22.body.getD .skip) [AV.list 2 l,AV.agg [AV.int .i64 a,AV.int .i64 b]]):=by
 refine eV (xfy l a b none (fun (p:Int×Int)=>some ((AV.tuple [AV.int .i64 p.1,AV.int .i64 p.2]):AV))) (by kernel_rfl) ?_;unfold xcp xfy;repeat' first|exact eN|exact eS rfl|apply eB
def xj3:LA→Option (Bool×AV):=ocOf (sCons (sList 2 pAny) (sCons (sAgg (sCons (sEq (pInt .i64)) (sCons (sEq (pInt .i64)) sNil))) sNil)) fun (l,((a,(b,_)),_))=>((xcp l a b).isSome,(AV.tuple [AV.int .i64 ((xcp l a b).getD (0,0)).1,AV.int .i64 ((xcp l a b).getD (0,0)).2]))
theorem xpe:OcOk Tryz.prog ITryz 22 (xj3):=xa3 fun c h e=>by
 obtain ⟨l,⟨⟨f,⟨g,_⟩⟩,_⟩⟩:=c
 obtain ⟨a,b⟩:=Prod.mk.inj e
 refine xal (p:=xeg.pin) (xat mxTryz (inv0Ok Tryz.prog _) rfl xlK Tryz.func22 rfl (by kernel_rfl) xj2 ((xpf _ _ _ _ (xaa (d:=(0,0)) a)).trans ?_))
 exact congrArg some b
def xp6:Env:=xlX.with 22 xj3
theorem xqq:OrcOk Tryz.prog ITryz xp6:=xjn.with xpe
abbrev EKA2:Env:=xp6
theorem xp7:OrcOk Tryz.prog ITryz EKA2:=xqq
end Go.Sim.M
end
noncomputable section
set_option maxRecDepth 100000
namespace Go.Sim.M
open Go.IntKind (i64 u64 u8)
open Go.RowKit Go.Proofs
def xbP:Env:=EKA2.fn 25 0 (lsOf []) (lpsOf [])
theorem xiK:OrcOk Tryz.prog (ITryz.at 0) xbP:=xp7.fn
theorem xhK:LoOk Tryz.prog (ITryz.at xbP.pin) xbP (Tryz.f30.body.getD .skip):=xah (by kernel_rfl)
def xb5 (a b c d:Int):Bool:=(br (xaV a b) (br (xaV c d) (br (decide (a<d)) ((decide (c<b))) ((false))) ((false))) ((false)))
def xf5 (a b c d:Int):Bool:=true
def xgx {T:Type} (a b c d:Int) (δ:T) (κ:Bool→T):T:=br (xaV a b) (br (xaV c d) (br (decide (a<d)) (κ (decide (c<b))) (κ (false))) (κ (false))) (κ (false))
theorem xly (a b c d:Int):Pre (xf5 a b c d) (XF Tryz.prog xbP Tryz.f30 (Tryz.f30.body.getD .skip) [AV.agg [AV.int .i64 a,AV.int .i64 b],AV.agg [AV.int .i64 c,AV.int .i64 d]]) (AV.bool (xb5 a b c d)):=by
 have h:XF Tryz.prog xbP Tryz.f30 (Tryz.f30.body.getD .skip) [AV.agg [AV.int .i64 a,AV.int .i64 b],AV.agg [AV.int .i64 c,AV.int .i64 d]]=xgx a b c d none (fun (p:Bool)=>some ((AV.bool p):AV)):=by kernel_rfl
 rw [h];unfold xb5 xf5 xgx;repeat' (first|exact Pre.none|exact Pre.tt rfl|exact Pre.some rfl|refine Pre.l ?_|refine Pre.r ?_|refine Pre.br (f:=fun (p:Bool)=>((AV.bool p):AV)) ?_ ?_|refine Pre.brt (f:=fun (p:Bool)=>((AV.bool p):AV)) ?_ ?_)
def xgZ:LA→Option (Bool×AV):=ocOf (sCons (sAgg (sCons (sEq (pInt .i64)) (sCons (sEq (pInt .i64)) sNil))) (sCons (sAgg (sCons (sEq (pInt .i64)) (sCons (sEq (pInt .i64)) sNil))) sNil)) fun ((a,(b,_)),((c,(d,_)),_))=>(true,(AV.bool (xb5 a b c d)))
theorem xlw:OcOk Tryz.prog ITryz 30 (xgZ):=xa3 fun b i c=>by
 obtain ⟨⟨d,⟨e,_⟩⟩,⟨⟨f,⟨g,_⟩⟩,_⟩⟩:=b
 obtain ⟨h,a⟩:=Prod.mk.inj c
 refine xal (p:=xbP.pin) (xat mxTryz (inv0Ok Tryz.prog _) rfl xiK Tryz.func30 rfl (by kernel_rfl) xhK ((Pre.get (xly _ _ _ _) rfl).trans ?_))
 exact congrArg some a
def xoM:Env:=EKA2.with 30 xgZ
theorem xnz:OrcOk Tryz.prog ITryz xoM:=xp7.with xlw
def xbA:Env:=xoM.fn 22 0 (lsOf []) (lpsOf [])
theorem xii:OrcOk Tryz.prog (ITryz.at 0) xbA:=xnz.fn
theorem xhe:LoOk Tryz.prog (ITryz.at xbA.pin) xbA (Tryz.f31.body.getD .skip):=xah (by kernel_rfl)
def xap (a b c d:Int):Int×Int×Bool:=(br (!xb5 a b c d) ((0,0,false)) ((if c>a then c else a,if d<b then d else b,true)))
def xfD (a b c d:Int):Bool:=true
def xgo {T:Type} (a b c d:Int) (δ:T) (κ:Int×Int×Bool→T):T:=br (!xb5 a b c d) (κ (0,0,false)) (κ (if c>a then c else a,if d<b then d else b,true))
theorem xkA (a b c d:Int):Pre (xfD a b c d) (XF Tryz.prog xbA Tryz.f31 (Tryz.f31.body.getD .skip) [AV.agg [AV.int .i64 a,AV.int .i64 b],AV.agg [AV.int .i64 c,AV.int .i64 d]]) (AV.tuple [AV.agg [AV.int .i64 (xap a b c d).1,AV.int .i64 (xap a b c d).2.1],AV.bool (xap a b c d).2.2]):=by
 have h:XF Tryz.prog xbA Tryz.f31 (Tryz.f31.body.getD .skip) [AV.agg [AV.int .i64 a,AV.int .i64 b],AV.agg [AV.int .i64 c,AV.int .i64 d]]=xgo a b c d none (fun (p:Int×Int×Bool)=>some ((AV.tuple [AV.agg [AV.int .i64 p.1,AV.int .i64 p.2.1],AV.bool p.2.2]):AV)):=by kernel_rfl
 rw [h];unfold xap xfD xgo;repeat' (first|exact Pre.none|exact Pre.tt rfl|exact Pre.some rfl|refine Pre.l ?_|refine Pre.r ?_|refine Pre.br (f:=fun (p:Int×Int×Bool)=>((AV.tuple [AV.agg [AV.int .i64 p.1,AV.int .i64 p.2.1],AV.bool p.2.2]):AV)) ?_ ?_|refine Pre.brt (f:=fun (p:Int×Int×Bool)=>((AV.tuple [AV.agg [AV.int .i64 p.1,AV.int .i64 p.2.1],AV.bool p.2.2]):AV)) ?_ ?_)
def xgn:LA→Option (Bool×AV):=ocOf (sCons (sAgg (sCons (sEq (pInt .i64)) (sCons (sEq (pInt .i64)) sNil))) (sCons (sAgg (sCons (sEq (pInt .i64)) (sCons (sEq (pInt .i64)) sNil))) sNil)) fun ((a,(b,_)),((c,(d,_)),_))=>(true,(AV.tuple [AV.agg [AV.int .i64 (xap a b c d).1,AV.int .i64 (xap a b c d).2.1],AV.bool (xap a b c d).2.2]))
theorem xkz:OcOk Tryz.prog ITryz 31 (xgn):=xa3 fun b i c=>by
 obtain ⟨⟨d,⟨e,_⟩⟩,⟨⟨f,⟨g,_⟩⟩,_⟩⟩:=b
 obtain ⟨h,a⟩:=Prod.mk.inj c
 refine xal (p:=xbA.pin) (xat mxTryz (inv0Ok Tryz.prog _) rfl xii Tryz.func31 rfl (by kernel_rfl) xhe ((Pre.get (xkA _ _ _ _) rfl).trans ?_))
 exact congrArg some a
def xlY:Env:=xoM.with 31 xgn
theorem xjo:OrcOk Tryz.prog ITryz xlY:=xnz.with xkz
def xbV:Env:=xlY.fn 54 0 (lsOf []) (lpsOf [])
theorem xiN:OrcOk Tryz.prog (ITryz.at 0) xbV:=xjo.fn
theorem xg1:LoOk Tryz.prog (ITryz.at xbV.pin) xbV (loopAt Tryz.f24 0):=xah (by kernel_rfl)
def xbL (l:LA) (i:Int):=decide (0≤i)&&decide (i<l.length)
def xcS (l:LA) (i a b:Int):=xap ((l.getD i.toNat .top).cells.getD 0 .top).toInt ((l.getD (i64.wrap (i+1)).toNat .top).cells.getD 0 .top).toInt a b
def xcT (l:LA) (i:Int):=decide (i64.wrap (i+1)<(↑l.length:Int))
def xcR (l:LA) (i a b:Int):=(xcS l i a b).snd
def xbq {T:Type} (l:LA) (n i a b:Int) (δ:T) (κl:(Int×Int×Int×Int)→T) (κr:(Int)→T):T:=br (decide (i<l.length)) (br (xbL l i) (br (decide (i.toNat<l.length)&&hasSh1 (Sh.int .i64) ((l.getD i.toNat .top).cells.getD 0 .top)) (br (xcT l i) (br (decide (0≤i64.wrap (i+1))&&xcT l i) (br (decide ((i64.wrap (i+1)).toNat<l.length)&&hasSh1 (Sh.int .i64) ((l.getD (i64.wrap (i+1)).toNat .top).cells.getD 0 .top)) (br ((xcR l i a b).snd) (br (xbL l i) (br (decide (i.toNat<l.length)&&hasSh1 (Sh.int .i64) ((l.getD i.toNat .top).cells.getD 1 .top)) (κl (i64.wrap (n+i64.wrap (((l.getD i.toNat .top).cells.getD 1 .top).toInt*i64.wrap ((xcR l i a b).fst - (xcS l i a b).fst))),i64.wrap (i+1),a,b)) δ) δ) (κl (n,i64.wrap (i+1),a,b))) δ) δ) (br ((xap ((l.getD i.toNat .top).cells.getD 0 .top).toInt 1099511627776 a b).snd.snd) (br (xbL l i) (br (decide (i.toNat<l.length)&&hasSh1 (Sh.int .i64) ((l.getD i.toNat .top).cells.getD 1 .top)) (κl (i64.wrap (n+i64.wrap (((l.getD i.toNat .top).cells.getD 1 .top).toInt*i64.wrap ((xap ((l.getD i.toNat .top).cells.getD 0 .top).toInt 1099511627776 a b).snd.fst - (xap ((l.getD i.toNat .top).cells.getD 0 .top).toInt 1099511627776 a b).fst))),i64.wrap (i+1),a,b)) δ) δ) (κl (n,i64.wrap (i+1),a,b)))) δ) δ) (κr (n))
def xai (l:LA):(Int×Int×Int×Int)→Option ((Int×Int×Int×Int)⊕(Int)):=fun (n,i,a,b)=>xbq l n i a b none (fun s=>some (.inl s)) (fun p=>some (.inr p))
def xbp (l:LA):(Int×Int×Int×Int)→LA×List Box:=fun (n,i,a,b)=>([AV.list 2 l,AV.own 0 0 0 0,AV.int .i64 n,AV.int .i64 i],[⟨0,2,35,[AV.agg [AV.int .i64 a,AV.int .i64 b]],false,true⟩])
def xa4 (l:LA):(Int)→LR:=fun p=>(.leaf (.exit 0) [AV.int .i64 p] [])
abbrev xjf (a:LA) (H:List Box):=XR Tryz.prog xbV [0,3,5,6] [5] [] (loopAt Tryz.f24 0) a H
theorem xjg (l:LA) (s:Int×Int×Int×Int):Enc (encR (xbp l) (xa4 l)) (xai l s) (xjf (xbp l s).1 (xbp l s).2):=by
 obtain ⟨n,i,a,b⟩:=s
 refine eV (xbq l n i a b none (fun s=>some (encR (xbp l) (xa4 l) (.inl s))) (fun p=>some (encR (xbp l) (xa4 l) (.inr p)))) (by kernel_rfl) ?_;unfold xai xbq;repeat' first|exact eN|exact eS rfl|apply eB
def xfw:Lp:=lpOf [0,3,5,6] [5] [] (pCons (pList 2 pAny) (pCons (pOwn 0 0 0 0) (pCons (pInt .i64) (pCons (pInt .i64) pNil)))) (pCons (pBox 0 2 35 false true (pCons (pAgg (pCons (pInt .i64) (pCons (pInt .i64) pNil))) pNil)) pNil) fun (l,(_,(n,(i,_)))) (((a,(b,_)),_),_)=>((Iter (xai l) (n,i,a,b)).isSome,xa4 l ((Iter (xai l) (n,i,a,b)).getD 0))
theorem xio:LoopOk Tryz.prog (ITryz.at xbV.pin) xbV.nt (loopAt Tryz.f24 0) xfw:=xb2 fun d e g f=>by
 obtain ⟨l,⟨_,⟨n,⟨i,_⟩⟩⟩⟩:=d
 obtain ⟨⟨⟨a,⟨b,_⟩⟩,_⟩,_⟩:=e
 obtain ⟨c,rfl⟩:=Prod.mk.inj f
 exact xau mxTryz (inv0Ok Tryz.prog _) rfl xiN xg1 (xbp l) (xa4 l) (fun p=>by simp only [xa4,LR.eval];first|(simp;done)|(repeat' split<;>simp)) (xjg l) (s:=(n,i,a,b)) (xaa c)
def xcO:Env:=xlY.fn 54 0 (lsOf []) (lpsOf [(3,xfw)])
theorem xiO:OrcOk Tryz.prog (ITryz.at 0) xcO:=xjo.fn
theorem xhR:LoOk Tryz.prog (ITryz.at xcO.pin) xcO (Tryz.f24.body.getD .skip):=xaY (ls:=[loopAt Tryz.f24 0]) (by kernel_rfl) (lkC xio lkN)
def xeb {T:Type} (l:LA) (a b:Int) (δ:T) (κ:Int→T):T:=br ((Iter (xai l) (0,0,a,b)).isSome) (κ ((Iter (xai l) (0,0,a,b)).getD 0)) δ
def xbD (l:LA) (a b:Int):Option (Int):=xeb l a b none some
theorem xlI (l:LA) (a b:Int):Enc (fun (p:Int)=>((AV.int .i64 p):AV)) (xbD l a b) (XF Tryz.prog xcO Tryz.f24 (Tryz.f24.body.getD .skip) [AV.list 2 l,AV.agg [AV.int .i64 a,AV.int .i64 b]]):=by
 refine eV (xeb l a b none (fun (p:Int)=>some ((AV.int .i64 p):AV))) (by kernel_rfl) ?_;unfold xbD xeb;repeat' first|exact eN|exact eS rfl|apply eB
def xg2:LA→Option (Bool×AV):=ocOf (sCons (sList 2 pAny) (sCons (sAgg (sCons (sEq (pInt .i64)) (sCons (sEq (pInt .i64)) sNil))) sNil)) fun (l,((a,(b,_)),_))=>((xbD l a b).isSome,(AV.int .i64 ((xbD l a b).getD 0)))
theorem xlH:OcOk Tryz.prog ITryz 24 (xg2):=xa3 fun c h e=>by
 obtain ⟨l,⟨⟨f,⟨g,_⟩⟩,_⟩⟩:=c
 obtain ⟨a,b⟩:=Prod.mk.inj e
 refine xal (p:=xcO.pin) (xat mxTryz (inv0Ok Tryz.prog _) rfl xiO Tryz.func24 rfl (by kernel_rfl) xhR ((xlI _ _ _ _ (xaa (d:=0) a)).trans ?_))
 exact congrArg some b
def xrm:Env:=xlY.with 24 xg2
theorem xrn:OrcOk Tryz.prog ITryz xrm:=xjo.with xlH
abbrev EKA3:Env:=xrm
theorem xsK:OrcOk Tryz.prog ITryz EKA3:=xrn
end Go.Sim.M
end
