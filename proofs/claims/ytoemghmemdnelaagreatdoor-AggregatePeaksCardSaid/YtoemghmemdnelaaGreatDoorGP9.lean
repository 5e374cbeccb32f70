/- Part 9 of the proof of the law. -/
import Derived.Test.YtoemghmemdnelaaGreatDoorGP8
import Derived.Shelf.Strings.Builder1
import Derived.Shelf.Small.Bits
import Derived.Shelf.Small.Strs
import Derived.Shelf.Small.Wraps
import Derived.Shelf.Strings.BuilderF
import Derived.Shelf.Strings.BuilderK
import Derived.Shelf.Strconv.Itoa0
import Derived.Shelf.Strconv.Itoa1
import Derived.Shelf.LaysM
import Derived.Shelf.Strconv.Itoa2
import Derived.Shelf.Strconv.Itoa3
import Derived.Shelf.Strings.BuilderCap
import Derived.Ground.SlsfProg
import Derived.Shelf.SlSortCmp.Insertion
set_option linter.unusedVariables false
set_option linter.unusedSimpArgs false
set_option linter.unnecessarySimpa false
noncomputable section
namespace Go.Proofs
open Go.Shelf
def Tryz.lays106_ren:Go.Shelf.Ren:=⟨fun|106=>136|213=>167|265=>191|n=>n,fun|9=>9|3=>3|n=>n,fun|n=>n⟩
theorem Tryz.lays106:Go.Proofs.Lays.n106 Tryz.prog Tryz.lays106_ren:={
 mixed:=by kernel_rfl
 f106:=Tryz.func136.trans (congrArg some (by kernel_rfl))
 f213:=Tryz.func167.trans (congrArg some (by kernel_rfl))
 f265:=Tryz.func191.trans (congrArg some (by kernel_rfl))
 t3:=Tryz.underlying3
 a3:=Tryz.isAgg3
 z3:=Tryz.sizeOf3
 v3:=Tryz.zeroValue3
 t9:=Tryz.underlying9
 a9:=Tryz.isAgg9
 z9:=Tryz.sizeOf9
 v9:=Tryz.zeroValue9 }
open Go.RowKit in
theorem Tryz.strings_Compare (a b:ByteArray) (w:World) :
 Calls Tryz.prog 136 #[.string a,.string b] w fun e w'=>e=.returned (.int .i64 (Lib.compareBytes a.data.toList b.data.toList))∧w'=w:=Any.strings_Compare Tryz.lays106 a b w
def Tryz.laysM171_ren:Go.Shelf.Ren:=⟨fun|171=>98|243=>130|246=>154|283=>182|284=>183|285=>184|286=>185|129=>150|317=>198|318=>199|319=>200|320=>201|337=>207|338=>208|n=>n,fun|3=>3|9=>9|2=>2|4=>4|171=>221|0=>0|53=>194|37=>140|5=>5|173=>223|212=>236|51=>192|20=>20|213=>237|46=>170|232=>242|233=>243|n=>n,fun|17=>1|18=>2|19=>3|n=>n⟩
theorem Tryz.laysM171:Go.Proofs.LaysM.n171 Tryz.prog Tryz.laysM171_ren:={
 mixed:=by kernel_rfl
 f129:=Tryz.func150.trans (congrArg some (by kernel_rfl))
 f171:=Tryz.func98.trans (congrArg some (by kernel_rfl))
 f243:=Tryz.func130.trans (congrArg some (by kernel_rfl))
 f246:=Tryz.func154.trans (congrArg some (by kernel_rfl))
 f283:=Tryz.func182.trans (congrArg some (by kernel_rfl))
 f284:=Tryz.func183.trans (congrArg some (by kernel_rfl))
 f285:=Tryz.func184.trans (congrArg some (by kernel_rfl))
 f286:=Tryz.func185.trans (congrArg some (by kernel_rfl))
 f317:=Tryz.func198.trans (congrArg some (by kernel_rfl))
 f318:=Tryz.func199.trans (congrArg some (by kernel_rfl))
 f319:=Tryz.func200.trans (congrArg some (by kernel_rfl))
 f320:=Tryz.func201.trans (congrArg some (by kernel_rfl))
 f337:=Tryz.func207.trans (congrArg some (by kernel_rfl))
 f338:=Tryz.func208.trans (congrArg some (by kernel_rfl))
 t0:=Tryz.underlying0
 a0:=Tryz.isAgg0
 z0:=Tryz.sizeOf0
 v0:=Tryz.zeroValue0
 t2:=Tryz.underlying2
 a2:=Tryz.isAgg2
 z2:=Tryz.sizeOf2
 v2:=Tryz.zeroValue2
 t3:=Tryz.underlying3
 a3:=Tryz.isAgg3
 z3:=Tryz.sizeOf3
 v3:=Tryz.zeroValue3
 t4:=Tryz.underlying4
 a4:=Tryz.isAgg4
 z4:=Tryz.sizeOf4
 v4:=Tryz.zeroValue4
 t5:=Tryz.underlying5
 a5:=Tryz.isAgg5
 z5:=Tryz.sizeOf5
 v5:=Tryz.zeroValue5
 t9:=Tryz.underlying9
 a9:=Tryz.isAgg9
 z9:=Tryz.sizeOf9
 v9:=Tryz.zeroValue9
 t20:=Tryz.underlying20
 a20:=Tryz.isAgg20
 z20:=Tryz.sizeOf20
 v20:=Tryz.zeroValue20
 t37:=Tryz.underlying140
 a37:=Tryz.isAgg140
 z37:=Tryz.sizeOf140
 v37:=Tryz.zeroValue140
 t46:=Tryz.underlying170
 a46:=Tryz.isAgg170
 z46:=Tryz.sizeOf170
 v46:=Tryz.zeroValue170
 t51:=Tryz.underlying192
 a51:=Tryz.isAgg192
 z51:=Tryz.sizeOf192
 v51:=Tryz.zeroValue192
 t53:=Tryz.underlying194
 a53:=Tryz.isAgg194
 z53:=Tryz.sizeOf194
 v53:=Tryz.zeroValue194
 t171:=Tryz.underlying221
 a171:=Tryz.isAgg221
 z171:=Tryz.sizeOf221
 v171:=Tryz.zeroValue221
 t173:=Tryz.underlying223
 a173:=Tryz.isAgg223
 z173:=Tryz.sizeOf223
 v173:=Tryz.zeroValue223
 t212:=Tryz.underlying236
 a212:=Tryz.isAgg236
 z212:=Tryz.sizeOf236
 v212:=Tryz.zeroValue236
 t213:=Tryz.underlying237
 a213:=Tryz.isAgg237
 z213:=Tryz.sizeOf237
 t232:=Tryz.underlying242
 a232:=Tryz.isAgg242
 z232:=Tryz.sizeOf242
 v232:=Tryz.zeroValue242
 t233:=Tryz.underlying243
 a233:=Tryz.isAgg243
 z233:=Tryz.sizeOf243
 v233:=Tryz.zeroValue243
 g17:=by kernel_rfl
 g18:=by kernel_rfl
 g19:=by kernel_rfl
 i0:=by kernel_rfl
 i2:=by kernel_rfl
 i3:=by kernel_rfl
 i4:=by kernel_rfl
 i5:=by kernel_rfl
 i9:=by kernel_rfl
 i20:=by kernel_rfl
 i37:=by kernel_rfl
 i46:=by kernel_rfl
 i51:=by kernel_rfl
 i53:=by kernel_rfl
 i171:=by kernel_rfl
 i173:=by kernel_rfl
 i212:=by kernel_rfl
 i232:=by kernel_rfl
 i233:=by kernel_rfl
 m17:=by kernel_rfl
 m18:=by kernel_rfl
 m19:=by kernel_rfl }
open Go.RowKit Go.Sort Go.Lib in
theorem Tryz.strconv_Itoa (n:Int) (h0:-9223372036854775808≤n) (h1:n≤9223372036854775807) (w:World) (htab:Lib.TabIs Tryz.prog w "internal/strconv.uint64pow10" .u64 Lib.pow10Tab) :
 Calls Tryz.prog 98 #[.int .i64 n] w fun e w'=>e=.returned (.string ⟨(Lib.itoa n).toArray⟩)∧∃ k os,w'=grow (w.drewN k) os:=Any.strconv_Itoa Tryz.laysM171 n h0 h1 w htab
end Go.Proofs
end
noncomputable section
namespace Go.Sim
open Go.RowKit Go.Proofs
theorem xjv {w:World} {k:Nat} {os:Array Obj}:Below w.heap.size w (Sort.grow (w.drewN k) os):=by
 refine ⟨rfl,rfl,rfl,?_,fun i hi=>?_⟩
 · show w.heap.size≤(w.heap++os).size
   simp
 · show (w.heap++os)[i]?=_
   rw [Array.getElem?_append,if_pos hi]
def xcg:List AV→Option (Bool×AV)
 | [.str a,.str b]=>some (true,.int .i64 (Lib.compareBytes a b))
 | _=>none
theorem xfu:OcOk Tryz.prog ITryz 136 xcg:=fun xs r h=>by
 unfold xcg at h;split at h
 · rename_i a b
   simp only [Option.some.injEq,Prod.mk.injEq,true_and] at h;subst h
   refine ⟨xbF Tryz.func136 rfl (by kernel_rfl),fun w A vs hI hA hrc=>?_⟩
   obtain ⟨v,u,rfl,h1,h2⟩:=rc2 hrc
   obtain ⟨s,rfl,rfl⟩:=h1.str_inv
   obtain ⟨t,rfl,rfl⟩:=h2.str_inv
   refine (Tryz.strings_Compare s t w).mono ?_
   rintro e w' ⟨rfl,rfl⟩
   exact ⟨_,rfl,Below.refl _ _,.int _ _⟩
 · simp at h
def xcL:List AV→Option (Bool×AV)
 | [.int .i64 n]=>some (decide (-9223372036854775808≤n)&&decide (n≤9223372036854775807),.str (Lib.itoa n))
 | _=>none
theorem xhb:OcOk Tryz.prog ITryz 98 xcL:=fun xs r h=>by
 unfold xcL at h;split at h
 · rename_i n
   simp only [Option.some.injEq,Prod.mk.injEq,decide_eq_true_eq,Bool.and_eq_true] at h;obtain ⟨⟨g1,g2⟩,rfl⟩:=h
   refine ⟨xbF Tryz.func98 rfl (by kernel_rfl),fun w A vs hI hA hrc=>?_⟩
   obtain ⟨v,rfl,h1⟩:=rc1 hrc
   obtain rfl:=h1.int_inv
   refine (Tryz.strconv_Itoa n g1 g2 w hI.tab).mono ?_
   rintro e w' ⟨rfl,k,os,rfl⟩
   exact ⟨_,rfl,xjv,.str _⟩
 · simp at h
end Go.Sim
end
noncomputable section
namespace Go.Sim
open Go.RowKit
variable {α β γ : Type}
structure Pat (α β:Type) where
 enc:β→α
 dec:α→Option β
 ok:∀ a b,dec a=some b→a=enc b
def pAny:Pat α α:=⟨fun b=>b,some,fun a b h=>by simpa using h⟩
def pInt (k:IntKind):Pat AV Int:=⟨.int k,fun v=>match v with
 | .int k' n=>match decide (k'=k) with
  | true=>some n
  | false=>none
 | _=>none,fun v n h=>by
 split at h
 · split at h
   · rename_i hk;simp only [Option.some.injEq] at h;rw [of_decide_eq_true hk,h]
   · simp at h
 · simp at h⟩
def pBool:Pat AV Bool:=⟨.bool,fun v=>match v with
 | .bool s=>some s
 | _=>none,fun v n h=>by
 split at h
 · simp only [Option.some.injEq] at h;rw [h]
 · simp at h⟩
def pList (sz:Nat) (q:Pat (List AV) β):Pat AV β:=⟨fun b=>.list sz (q.enc b),fun v=>match v with
 | .list z xs=>match Nat.beq z sz with
  | true=>q.dec xs
  | false=>none
 | _=>none,fun v n h=>by
 split at h
 · split at h
   · rename_i hz;rw [Nat.eq_of_beq_eq_true hz,q.ok _ _ h]
   · simp at h
 · simp at h⟩
def pOwn (id ver i j:Nat):Pat AV Unit:=⟨fun _=>.own id ver i j,fun v=>match v with
 | .own (.b a) b c d=>match Nat.beq a id&&(Nat.beq b ver&&(Nat.beq c i&&Nat.beq d j)) with
  | true=>some ()
  | false=>none
 | _=>none,fun v n h=>by
 split at h
 · split at h
   · rename_i hz
     simp only [Bool.and_eq_true] at hz
     rw [Nat.eq_of_beq_eq_true hz.1,Nat.eq_of_beq_eq_true hz.2.1,Nat.eq_of_beq_eq_true hz.2.2.1,Nat.eq_of_beq_eq_true hz.2.2.2]
   · simp at h
 · simp at h⟩
def pAgg (q:Pat (List AV) β):Pat AV β:=⟨fun b=>.agg (q.enc b),fun v=>match v with
 | .agg cs=>q.dec cs
 | _=>none,fun v n h=>by
 split at h
 · rw [q.ok _ _ h]
 · simp at h⟩
def pFunc (f:Nat) (q:Pat (List AV) β):Pat AV β:=⟨fun b=>.func f (q.enc b),fun v=>match v with
 | .func g cs=>match Nat.beq g f with
  | true=>q.dec cs
  | false=>none
 | _=>none,fun v n h=>by
 split at h
 · split at h
   · rename_i hz;rw [Nat.eq_of_beq_eq_true hz,q.ok _ _ h]
   · simp at h
 · simp at h⟩
def pNil:Pat (List α) Unit:=⟨fun _=>[],fun v=>match v with
 | []=>some ()
 | _=>none,fun v n h=>by
 split at h
 · rfl
 · simp at h⟩
def pCons (p:Pat α β) (q:Pat (List α) γ):Pat (List α) (β×γ):=⟨fun b=>p.enc b.1::q.enc b.2,fun v=>match v with
 | x::t=>match p.dec x with
  | some b=>match q.dec t with
   | some c=>some (b,c)
   | none=>none
  | none=>none
 | _=>none,fun v n h=>by
 split at h
 · split at h
   · rename_i hp
     split at h
     · rename_i hq
       simp only [Option.some.injEq] at h
       subst h
       rw [p.ok _ _ hp,q.ok _ _ hq]
     · simp at h
   · simp at h
 · simp at h⟩
def pBox (ver sz ty:Nat) (frz pm:Bool) (q:Pat (List AV) β):Pat Box β:=⟨fun b=>⟨ver,sz,ty,q.enc b,frz,pm⟩,fun v=>match v with
 | ⟨a,b,c,xs,f,p⟩=>match Nat.beq a ver&&(Nat.beq b sz&&(Nat.beq c ty&&((f==frz)&&(p==pm)))) with
  | true=>q.dec xs
  | false=>none,fun v n h=>by
 obtain ⟨a,b,c,xs,f,p⟩:=v
 dsimp only at h;split at h
 · rename_i hz
   simp only [Bool.and_eq_true,beq_iff_eq] at hz
   rw [Nat.eq_of_beq_eq_true hz.1,Nat.eq_of_beq_eq_true hz.2.1,Nat.eq_of_beq_eq_true hz.2.2.1,hz.2.2.2.1,hz.2.2.2.2,q.ok _ _ h]
 · simp at h⟩
def Sub (a b:AV):Prop:=∀ (w:World) (A:Nat→Prop) (M:Id→Option MB) (v:Value),Rel w A M v a→Rel w A M v b
def SubL (aS bs:List AV):Prop:=aS.length=bs.length∧∀ i,i<aS.length→Sub (aS.getD i .top) (bs.getD i .top)
theorem Sub.refl (a:AV):Sub a a:=fun _ _ _ _ h=>h
theorem Sub.of_eq {a b:AV} (h:a=b):Sub a b:=h▸Sub.refl a
theorem xlI (sz:Nat):Sub .nils (.list sz []):=fun w A M v h=>by
 cases h;exact .list0 _ _ _
theorem xml {aS bs:List AV} (h:SubL aS bs):Sub (.agg aS) (.agg bs):=fun w A M v hr=>by
 obtain ⟨vs,rfl,h1,h2⟩:=hr.agg_inv
 exact .agg vs bs (h1.trans h.1) fun i hi=>h.2 i (h.1.symm▸hi) w A M _ (h2 i (h.1.symm▸hi))
theorem xk3 {w:World} {A:Nat→Prop} {M:Id→Option MB} {vs:List Value} {aS bs:List AV} (h:SubL aS bs) (hr:RC w A M vs aS):RC w A M vs bs :=
 ⟨hr.1.trans h.1,fun i hi=>h.2 i (h.1.symm▸hi) w A M _ (hr.2 i (h.1.symm▸hi))⟩
structure SPat (β:Type) where
 enc:β→AV
 dec:AV→Option β
 ok:∀ a b,dec a=some b→Sub a (enc b)
structure SPatL (β:Type) where
 enc:β→List AV
 dec:List AV→Option β
 ok:∀ a b,dec a=some b→SubL a (enc b)
def sEq (p:Pat AV β):SPat β:=⟨p.enc,p.dec,fun a b h=>Sub.of_eq (p.ok a b h)⟩
def sList (sz:Nat) (q:Pat (List AV) β):SPat β:=⟨fun b=>.list sz (q.enc b),fun v=>match v with
 | .nils=>q.dec []
 | .list z xs=>match Nat.beq z sz with
  | true=>q.dec xs
  | false=>none
 | _=>none,fun v n h=>by
 split at h
 · rw [←q.ok _ _ h];exact xlI sz
 · split at h
   · rename_i hz;rw [Nat.eq_of_beq_eq_true hz,q.ok _ _ h];exact Sub.refl _
   · simp at h
 · simp at h⟩
def sAgg (q:SPatL β):SPat β:=⟨fun b=>.agg (q.enc b),fun v=>match v with
 | .agg cs=>q.dec cs
 | _=>none,fun v n h=>by
 split at h
 · exact xml (q.ok _ _ h)
 · simp at h⟩
def sNil:SPatL Unit:=⟨fun _=>[],fun v=>match v with
 | []=>some ()
 | _=>none,fun v n h=>by
 split at h
 · exact ⟨rfl,fun i hi=>by simp at hi⟩
 · simp at h⟩
def sCons (p:SPat β) (q:SPatL γ):SPatL (β×γ):=⟨fun b=>p.enc b.1::q.enc b.2,fun v=>match v with
 | x::t=>match p.dec x with
  | some b=>match q.dec t with
   | some c=>some (b,c)
   | none=>none
  | none=>none
 | _=>none,fun v n h=>by
 split at h
 · split at h
   · rename_i hp
     split at h
     · rename_i hq
       simp only [Option.some.injEq] at h
       subst h
       obtain ⟨h1,h2⟩:=q.ok _ _ hq
       refine ⟨by simp [h1],fun i hi=>?_⟩
       cases i with
       | zero=>exact p.ok _ _ hp
       | succ i=>exact h2 i (by simpa using hi)
     · simp at h
   · simp at h
 · simp at h⟩
def ocOf (pv:SPatL β) (g:β→Bool×AV):List AV→Option (Bool×AV):=fun xs=>match pv.dec xs with
 | some b=>some (g b)
 | none=>none
def omOf (pv:SPatL β) (pb:Pat (List Box) γ) (g:β→γ→Bool×AV×List Box):List AV→List Box→Option (Bool×AV×List Box):=fun xs H=>match pv.dec xs with
 | some b=>match pb.dec H with
  | some c=>some (g b c)
  | none=>none
 | none=>none
def lpOf (live liveO:List Nat) (conv:List (Nat×Nat×TypeId)) (pv:Pat (List AV) β) (pb:Pat (List Box) γ) (g:β→γ→Bool×LR):Lp:=⟨live,liveO,conv,fun xs H=>match pv.dec xs with
 | some b=>match pb.dec H with
  | some c=>some (g b c)
  | none=>none
 | none=>none⟩
section
variable {P : Program} {Inv : IV}
theorem xcb {n:FuncId} {pv:SPatL β} {g:β→Bool×AV} (h:∀ b r,g b=(true,r)→Good P Inv n (pv.enc b) r):OcOk P Inv n (ocOf pv g):=fun xs r e=>by
 unfold ocOf at e;split at e
 · rename_i b hb
   simp only [Option.some.injEq] at e
   obtain ⟨h1,h2⟩:=h b r e
   exact ⟨h1,fun w A vs hi ha hr=>h2 w A vs hi ha (xk3 (pv.ok _ _ hb) hr)⟩
 · simp at e
theorem xji {n:FuncId} {pv:SPatL β} {pb:Pat (List Box) γ} {g:β→γ→Bool×AV×List Box} (h:∀ b c r H',g b c=(true,r,H')→GoodM P Inv n (pv.enc b) (pb.enc c) r H'):OmOk P Inv n (omOf pv pb g):=fun xs H r H' e=>by
 unfold omOf at e;split at e
 · rename_i b hb
   split at e
   · rename_i c hc
     simp only [Option.some.injEq] at e
     rw [pb.ok _ _ hc]
     obtain ⟨h1,h2⟩:=h b c r H' e
     exact ⟨h1,fun w0 w A M vs hi hb' hR hr=>h2 w0 w A M vs hi hb' hR (xk3 (pv.ok _ _ hb) hr)⟩
   · simp at e
 · simp at e
theorem xio {nt:Nat} {l:Code} {live liveO:List Nat} {conv:List (Nat×Nat×TypeId)} {pv:Pat (List AV) β} {pb:Pat (List Box) γ} {g:β→γ→Bool×LR}
  (h:∀ b c r,g b c=(true,r)→DoesL P Inv l (fun e1 s1=>e1=r.eval.1∧s1=⟨mkTs nt (liveO.zip r.eval.2.1),r.eval.2.2⟩) ⟨mkTs nt (live.zip (pv.enc b)),pb.enc c⟩):LoopOk P Inv nt l (lpOf live liveO conv pv pb g):=fun vals H r e=>by
 unfold lpOf at e;dsimp only at e;split at e
 · rename_i b hb
   split at e
   · rename_i c hc
     simp only [Option.some.injEq] at e
     rw [pv.ok _ _ hb,pb.ok _ _ hc]
     exact h b c r e
   · simp at e
 · simp at e
end
theorem xaL {x:Option α} {d:α} (h:x.isSome=true):x=some (x.getD d):=by
 cases x with
 | none=>simp at h
 | some y=>rfl
end Go.Sim
end
noncomputable section
namespace Go.Sim
open Go.RowKit
def EncS {α:Type} (f:α→AV) (a:Option α) (b:Option AV):Prop:=∀ r,a=some r→∃ x,b=some x∧Sub x (f r)
theorem EncS.none {α:Type} {f:α→AV} {b:Option AV}:EncS f .none b:=fun r h=>by simp at h
theorem EncS.some {α:Type} {f:α→AV} {a:α} {b:AV} (h:Sub b (f a)):EncS f (Option.some a) (Option.some b):=fun r e=>by simp only [Option.some.injEq] at e;subst e;exact ⟨b,rfl,h⟩
theorem EncS.br {α:Type} {f:α→AV} {t:Bool} {a a':Option α} {b b':Option AV} (h1:EncS f a b) (h2:EncS f a' b'):EncS f (Sim.br t a a') (Sim.br t b b'):=by cases t<;>assumption
theorem Good.sub {P:Program} {Inv:IV} {f:FuncId} {args:List AV} {r r':AV} (h:Good P Inv f args r) (hs:Sub r r'):Good P Inv f args r' :=
 ⟨h.1,fun w A vs hI hA hrc=>(h.2 w A vs hI hA hrc).mono fun e w' ⟨v,he,hb,hr⟩=>⟨v,he,hb,hs w' A noBox v hr⟩⟩
end Go.Sim
end
noncomputable section
namespace Go.Sim.M
open Go.RowKit Go.Proofs
noncomputable def EB:Env:=Env.none
theorem xlL:OrcOk Tryz.prog ITryz EB:=xgC
end Go.Sim.M
end
noncomputable section
set_option maxRecDepth 100000
namespace Go.Sim.M
open Go.IntKind (i64 u64 u8)
open Go.RowKit Go.Proofs
def xbl:Env:=EB.fn 18 0 (lsOf []) (lpsOf [])
theorem xe5:OrcOk Tryz.prog (ITryz.at 0) xbl:=xlL.fn
theorem xek:LoOk Tryz.prog (ITryz.at xbl.pin) xbl (Tryz.f79.body.getD .skip):=xbz (by kernel_rfl)
def xaV (a b:Int):Bool:=(br (decide (a≥0)) (br (decide (a<b)) ((decide (b≤1099511627776))) ((false))) ((false)))
def xdu (a b:Int):Bool:=true
def xd8 {T:Type} (a b:Int) (δ:T) (κ:Bool→T):T:=br (decide (a≥0)) (br (decide (a<b)) (κ (decide (b≤1099511627776))) (κ (false))) (κ (false))
theorem xg4 (a b:Int):Pre (xdu a b) (XF Tryz.prog xbl Tryz.f79 (Tryz.f79.body.getD .skip) [AV.agg [AV.int .i64 a,AV.int .i64 b]]) (AV.bool (xaV a b)):=by
 have h:XF Tryz.prog xbl Tryz.f79 (Tryz.f79.body.getD .skip) [AV.agg [AV.int .i64 a,AV.int .i64 b]]=xd8 a b none (fun (p:Bool)=>some ((AV.bool p):AV)):=by kernel_rfl
 rw [h];unfold xaV xdu xd8;repeat' (first|exact Pre.none|exact Pre.tt rfl|exact Pre.some rfl|refine Pre.l ?_|refine Pre.r ?_|refine Pre.br (f:=fun (p:Bool)=>((AV.bool p):AV)) ?_ ?_|refine Pre.brt (f:=fun (p:Bool)=>((AV.bool p):AV)) ?_ ?_)
def xd7:LA→Option (Bool×AV):=ocOf (sCons (sAgg (sCons (sEq (pInt .i64)) (sCons (sEq (pInt .i64)) sNil))) sNil) fun ((a,(b,_)),_)=>(true,(AV.bool (xaV a b)))
theorem xg3:OcOk Tryz.prog ITryz 79 (xd7):=xcb fun b g c=>by
 obtain ⟨⟨d,⟨e,_⟩⟩,_⟩:=b
 obtain ⟨f,a⟩:=Prod.mk.inj c
 refine xav (p:=xbl.pin) (xaM mxTryz (inv0Ok Tryz.prog _) rfl xe5 Tryz.func79 rfl (by kernel_rfl) xek ((Pre.get (xg4 _ _) rfl).trans ?_))
 exact congrArg some a
def xh3:Env:=EB.with 79 xd7
theorem xhc:OrcOk Tryz.prog ITryz xh3:=xlL.with xg3
def xaN:Env:=xh3.fn 25 0 (lsOf []) (lpsOf [])
theorem xd6:OrcOk Tryz.prog (ITryz.at 0) xaN:=xhc.fn
theorem xdt:LoOk Tryz.prog (ITryz.at xaN.pin) xaN (Tryz.f119.body.getD .skip):=xbz (by kernel_rfl)
def xaU (a b c d:Int):Bool:=(br (xaV a b) (br (xaV c d) (br (decide (a<d)) ((decide (c<b))) ((false))) ((false))) ((false)))
def xcG (a b c d:Int):Bool:=true
def xc5 {T:Type} (a b c d:Int) (δ:T) (κ:Bool→T):T:=br (xaV a b) (br (xaV c d) (br (decide (a<d)) (κ (decide (c<b))) (κ (false))) (κ (false))) (κ (false))
theorem xfq (a b c d:Int):Pre (xcG a b c d) (XF Tryz.prog xaN Tryz.f119 (Tryz.f119.body.getD .skip) [AV.agg [AV.int .i64 a,AV.int .i64 b],AV.agg [AV.int .i64 c,AV.int .i64 d]]) (AV.bool (xaU a b c d)):=by
 have h:XF Tryz.prog xaN Tryz.f119 (Tryz.f119.body.getD .skip) [AV.agg [AV.int .i64 a,AV.int .i64 b],AV.agg [AV.int .i64 c,AV.int .i64 d]]=xc5 a b c d none (fun (p:Bool)=>some ((AV.bool p):AV)):=by kernel_rfl
 rw [h];unfold xaU xcG xc5;repeat' (first|exact Pre.none|exact Pre.tt rfl|exact Pre.some rfl|refine Pre.l ?_|refine Pre.r ?_|refine Pre.br (f:=fun (p:Bool)=>((AV.bool p):AV)) ?_ ?_|refine Pre.brt (f:=fun (p:Bool)=>((AV.bool p):AV)) ?_ ?_)
def xc4:LA→Option (Bool×AV):=ocOf (sCons (sAgg (sCons (sEq (pInt .i64)) (sCons (sEq (pInt .i64)) sNil))) (sCons (sAgg (sCons (sEq (pInt .i64)) (sCons (sEq (pInt .i64)) sNil))) sNil)) fun ((a,(b,_)),((c,(d,_)),_))=>(true,(AV.bool (xaU a b c d)))
theorem xfp:OcOk Tryz.prog ITryz 119 (xc4):=xcb fun b i c=>by
 obtain ⟨⟨d,⟨e,_⟩⟩,⟨⟨f,⟨g,_⟩⟩,_⟩⟩:=b
 obtain ⟨h,a⟩:=Prod.mk.inj c
 refine xav (p:=xaN.pin) (xaM mxTryz (inv0Ok Tryz.prog _) rfl xd6 Tryz.func119 rfl (by kernel_rfl) xdt ((Pre.get (xfq _ _ _ _) rfl).trans ?_))
 exact congrArg some a
def xh4:Env:=xh3.with 119 xc4
theorem xhd:OrcOk Tryz.prog ITryz xh4:=xhc.with xfp
def xaI:Env:=xh4.fn 22 0 (lsOf []) (lpsOf [])
theorem xdW:OrcOk Tryz.prog (ITryz.at 0) xaI:=xhd.fn
theorem xds:LoOk Tryz.prog (ITryz.at xaI.pin) xaI (Tryz.f85.body.getD .skip):=xbz (by kernel_rfl)
def xae (a b c d:Int):Int×Int×Bool:=(br (!xaU a b c d) ((0,0,false)) ((if c>a then c else a,if d<b then d else b,true)))
def xcA (a b c d:Int):Bool:=true
def xcX {T:Type} (a b c d:Int) (δ:T) (κ:Int×Int×Bool→T):T:=br (!xaU a b c d) (κ (0,0,false)) (κ (if c>a then c else a,if d<b then d else b,true))
theorem xe4 (a b c d:Int):Pre (xcA a b c d) (XF Tryz.prog xaI Tryz.f85 (Tryz.f85.body.getD .skip) [AV.agg [AV.int .i64 a,AV.int .i64 b],AV.agg [AV.int .i64 c,AV.int .i64 d]]) (AV.tuple [AV.agg [AV.int .i64 (xae a b c d).1,AV.int .i64 (xae a b c d).2.1],AV.bool (xae a b c d).2.2]):=by
 have h:XF Tryz.prog xaI Tryz.f85 (Tryz.f85.body.getD .skip) [AV.agg [AV.int .i64 a,AV.int .i64 b],AV.agg [AV.int .i64 c,AV.int .i64 d]]=xcX a b c d none (fun (p:Int×Int×Bool)=>some ((AV.tuple [AV.agg [AV.int .i64 p.1,AV.int .i64 p.2.1],AV.bool p.2.2]):AV)):=by kernel_rfl
 rw [h];unfold xae xcA xcX;repeat' (first|exact Pre.none|exact Pre.tt rfl|exact Pre.some rfl|refine Pre.l ?_|refine Pre.r ?_|refine Pre.br (f:=fun (p:Int×Int×Bool)=>((AV.tuple [AV.agg [AV.int .i64 p.1,AV.int .i64 p.2.1],AV.bool p.2.2]):AV)) ?_ ?_|refine Pre.brt (f:=fun (p:Int×Int×Bool)=>((AV.tuple [AV.agg [AV.int .i64 p.1,AV.int .i64 p.2.1],AV.bool p.2.2]):AV)) ?_ ?_)
def xcW:LA→Option (Bool×AV):=ocOf (sCons (sAgg (sCons (sEq (pInt .i64)) (sCons (sEq (pInt .i64)) sNil))) (sCons (sAgg (sCons (sEq (pInt .i64)) (sCons (sEq (pInt .i64)) sNil))) sNil)) fun ((a,(b,_)),((c,(d,_)),_))=>(true,(AV.tuple [AV.agg [AV.int .i64 (xae a b c d).1,AV.int .i64 (xae a b c d).2.1],AV.bool (xae a b c d).2.2]))
theorem xe3:OcOk Tryz.prog ITryz 85 (xcW):=xcb fun b i c=>by
 obtain ⟨⟨d,⟨e,_⟩⟩,⟨⟨f,⟨g,_⟩⟩,_⟩⟩:=b
 obtain ⟨h,a⟩:=Prod.mk.inj c
 refine xav (p:=xaI.pin) (xaM mxTryz (inv0Ok Tryz.prog _) rfl xdW Tryz.func85 rfl (by kernel_rfl) xds ((Pre.get (xe4 _ _ _ _) rfl).trans ?_))
 exact congrArg some a
def xka:Env:=xh4.with 85 xcW
theorem xkb:OrcOk Tryz.prog ITryz xka:=xhd.with xe3
abbrev xkc:Env:=xka
theorem xkd:OrcOk Tryz.prog ITryz xkc:=xkb
abbrev xh5:Env:=xkc
theorem xhe:OrcOk Tryz.prog ITryz xh5:=xkd
def xbL:Env:=xh5.fn 17 3 (lsOf [1000035]) (lpsOf [])
theorem xgf:OrcOk Tryz.prog (ITryz.at 3) xbL:=xhe.fn
theorem xfo:LoOk Tryz.prog (ITryz.at xbL.pin) xbL (Tryz.f50.body.getD .skip):=xbz (by kernel_rfl)
def xa0 (f t n:Int) (a:Bool) (b c:Int):Bool×Int×Int:=(br (!a) ((true,n,f)) (br (decide (n>b)) ((true,n,f)) ((a,b,c))))
def xew (f t n:Int) (b:Bool) (c a:Int):Bool:=true
def xfw {T:Type} (f t n:Int) (a:Bool) (b c:Int) (δ:T) (κ:Bool×Int×Int→T):T:=br (!a) (κ (true,n,f)) (br (decide (n>b)) (κ (true,n,f)) (κ (a,b,c)))
theorem xiJ (f t n:Int) (b:Bool) (c a:Int):Pre (xew f t n b c a) (XFM Tryz.prog xbL Tryz.f50 (Tryz.f50.body.getD .skip) [AV.agg [AV.int .i64 f,AV.int .i64 t],AV.int .i64 n,AV.own (0:Id) 0 0 0,AV.own (1:Id) 0 0 0,AV.own (2:Id) 0 0 0] [{ ver:=0,sz:=1,ty:=(4:TypeId),xs:=[AV.bool b],frz:=false,pm:=true },{ ver:=0,sz:=1,ty:=(3:TypeId),xs:=[AV.int .i64 c],frz:=false,pm:=true },{ ver:=0,sz:=1,ty:=(3:TypeId),xs:=[AV.int .i64 a],frz:=false,pm:=true }]) ((AV.tuple [],([⟨0,1,4,[AV.bool (xa0 f t n b c a).1],false,true⟩,⟨0,1,3,[AV.int .i64 (xa0 f t n b c a).2.1],false,true⟩,⟨0,1,3,[AV.int .i64 (xa0 f t n b c a).2.2],false,true⟩]:List Box))):=by
 have h:XFM Tryz.prog xbL Tryz.f50 (Tryz.f50.body.getD .skip) [AV.agg [AV.int .i64 f,AV.int .i64 t],AV.int .i64 n,AV.own (0:Id) 0 0 0,AV.own (1:Id) 0 0 0,AV.own (2:Id) 0 0 0] [{ ver:=0,sz:=1,ty:=(4:TypeId),xs:=[AV.bool b],frz:=false,pm:=true },{ ver:=0,sz:=1,ty:=(3:TypeId),xs:=[AV.int .i64 c],frz:=false,pm:=true },{ ver:=0,sz:=1,ty:=(3:TypeId),xs:=[AV.int .i64 a],frz:=false,pm:=true }]=xfw f t n b c a none (fun (p:Bool×Int×Int)=>some (((AV.tuple [],([⟨0,1,4,[AV.bool p.1],false,true⟩,⟨0,1,3,[AV.int .i64 p.2.1],false,true⟩,⟨0,1,3,[AV.int .i64 p.2.2],false,true⟩]:List Box))):(AV×List Box))):=by kernel_rfl
 rw [h];unfold xa0 xew xfw;repeat' (first|exact Pre.none|exact Pre.tt rfl|exact Pre.some rfl|refine Pre.l ?_|refine Pre.r ?_|refine Pre.br (f:=fun (p:Bool×Int×Int)=>(((AV.tuple [],([⟨0,1,4,[AV.bool p.1],false,true⟩,⟨0,1,3,[AV.int .i64 p.2.1],false,true⟩,⟨0,1,3,[AV.int .i64 p.2.2],false,true⟩]:List Box))):(AV×List Box))) ?_ ?_|refine Pre.brt (f:=fun (p:Bool×Int×Int)=>(((AV.tuple [],([⟨0,1,4,[AV.bool p.1],false,true⟩,⟨0,1,3,[AV.int .i64 p.2.1],false,true⟩,⟨0,1,3,[AV.int .i64 p.2.2],false,true⟩]:List Box))):(AV×List Box))) ?_ ?_)
def xfv:LA→List Box→Option (Bool×AV×List Box):=omOf (sCons (sAgg (sCons (sEq (pInt .i64)) (sCons (sEq (pInt .i64)) sNil))) (sCons (sEq (pInt .i64)) (sCons (sEq (pOwn 0 0 0 0)) (sCons (sEq (pOwn 1 0 0 0)) (sCons (sEq (pOwn 2 0 0 0)) sNil))))) (pCons (pBox 0 1 (4:TypeId) false true (pCons pBool pNil)) (pCons (pBox 0 1 (3:TypeId) false true (pCons (pInt .i64) pNil)) (pCons (pBox 0 1 (3:TypeId) false true (pCons (pInt .i64) pNil)) pNil))) fun ((f,(t,_)),(n,(_,(_,(_,_))))) ((b,_),((c,_),((a,_),_)))=>(true,((AV.tuple [],([⟨0,1,4,[AV.bool (xa0 f t n b c a).1],false,true⟩,⟨0,1,3,[AV.int .i64 (xa0 f t n b c a).2.1],false,true⟩,⟨0,1,3,[AV.int .i64 (xa0 f t n b c a).2.2],false,true⟩]:List Box))))
theorem xiI:OmOk Tryz.prog ITryz 50 (xfv):=xji fun b c i e d=>by
 obtain ⟨⟨f,⟨t,_⟩⟩,⟨n,⟨_,⟨_,⟨_,_⟩⟩⟩⟩⟩:=b
 obtain ⟨⟨j,_⟩,⟨⟨k,_⟩,⟨⟨g,_⟩,_⟩⟩⟩:=c
 obtain ⟨h,a⟩:=Prod.mk.inj d
 refine xdE (p:=xbL.pin) (xeX mxTryz (inv0Ok Tryz.prog _) rfl xgf rfl Tryz.func50 rfl (by kernel_rfl) xfo ((Pre.get (xiJ _ _ _ _ _ _) rfl).trans ?_))
 exact congrArg some a
def xke:Env:=xh5.withM 50 xfv
theorem xkf:OrcOk Tryz.prog ITryz xke:=xhe.withM xiI
abbrev xgb:Env:=xke
theorem xeJ:OrcOk Tryz.prog ITryz xgb:=xkf
def xaH:Env:=xgb.fn 45 3 (lsOf []) (lpsOf [])
theorem xdN:OrcOk Tryz.prog (ITryz.at 3) xaH:=xeJ.fn
theorem xcZ:LoOk Tryz.prog (ITryz.at xaH.pin) xaH (loopAt Tryz.f49 0):=xbz (by kernel_rfl)
def xba (a:LA) (b:Int) (e:Bool) (f g c d:Int):=xa0 (xae c d ((a.getD b.toNat .top).cells.getD 0 .top).toInt 1099511627776).fst (xae c d ((a.getD b.toNat .top).cells.getD 0 .top).toInt 1099511627776).snd.fst ((a.getD b.toNat .top).cells.getD 1 .top).toInt e f g
def xbc (l d:LA) (a b c:Int):=xae b c ((d.getD a.toNat .top).cells.getD 0 .top).toInt ((l.getD (i64.wrap (a+1)).toNat .top).cells.getD 0 .top).toInt
def xbd (l:LA) (a:Int):=decide (i64.wrap (a+1)<(↑l.length:Int))
def xa9 (f:LA) (g:Int) (a:Bool) (b c d e:Int):=(xba f g a b c d e).snd
def xbb (l c:LA) (d a b:Int):=(xbc l c d a b).snd
def xa8 (l a:LA) (b:Int) (e:Bool) (f g c d:Int):=xa0 (xbc l a b c d).fst (xbb l a b c d).fst ((a.getD b.toNat .top).cells.getD 1 .top).toInt e f g
def xa7 (l f:LA) (g:Int) (a:Bool) (b c d e:Int):=(xa8 l f g a b c d e).snd
def xay {T:Type} (l g:LA) (h a:Int) (d:Bool) (e f b c:Int) (δ:T) (κl:(Int×Bool×Int×Int×Int×Int)→T) (κr:(Bool×Int×Int)→T):T:=br (decide (a<h)) (br (decide (0≤a)&&decide (a<g.length)) (br (decide (a.toNat<g.length)&&((g.getD a.toNat .top).cells.length==2&&hasShs [Sh.int .i64,Sh.int .i64] (g.getD a.toNat .top).cells 0)) (br (xbd l a) (br (decide (0≤i64.wrap (a+1))&&xbd l a) (br (decide ((i64.wrap (a+1)).toNat<l.length)&&hasSh1 (Sh.int .i64) ((l.getD (i64.wrap (a+1)).toNat .top).cells.getD 0 .top)) (br ((xbb l g a b c).snd) (κl (i64.wrap (a+1),(xa8 l g a d e f b c).fst,(xa7 l g a d e f b c).fst,(xa7 l g a d e f b c).snd,b,c)) (κl (i64.wrap (a+1),d,e,f,b,c))) δ) δ) (br ((xae b c ((g.getD a.toNat .top).cells.getD 0 .top).toInt 1099511627776).snd.snd) (κl (i64.wrap (a+1),(xba g a d e f b c).fst,(xa9 g a d e f b c).fst,(xa9 g a d e f b c).snd,b,c)) (κl (i64.wrap (a+1),d,e,f,b,c)))) δ) δ) (κr (d,e,f))
def xac (l f:LA) (g:Int):(Int×Bool×Int×Int×Int×Int)→Option ((Int×Bool×Int×Int×Int×Int)⊕(Bool×Int×Int)):=fun (h,a,b,c,d,e)=>xay l f g h a b c d e none (fun s=>some (.inl s)) (fun p=>some (.inr p))
def xaw (l f:LA) (g:Int):(Int×Bool×Int×Int×Int×Int)→LA×List Box:=fun (h,a,b,c,d,e)=>([AV.list 2 l,AV.func 50 [AV.own 0 0 0 0,AV.own 1 0 0 0,AV.own 2 0 0 0],AV.own 3 0 0 0,AV.list 2 f,AV.int .i64 g,AV.int .i64 h],[⟨0,1,4,[AV.bool a],false,true⟩,⟨0,1,3,[AV.int .i64 b],false,true⟩,⟨0,1,3,[AV.int .i64 c],false,true⟩,⟨0,2,35,[AV.agg [AV.int .i64 d,AV.int .i64 e]],false,true⟩])
def xap (l a:LA) (b:Int):(Bool×Int×Int)→LR:=fun p=>(.leaf (.exit 0) [] [⟨0,1,4,[AV.bool p.1],false,true⟩,⟨0,1,3,[AV.int .i64 p.2.1],false,true⟩,⟨0,1,3,[AV.int .i64 p.2.2],false,true⟩])
abbrev xd2 (a:LA) (H:List Box):=XR Tryz.prog xaH [0,2,4,11,12,13] [] [] (loopAt Tryz.f49 0) a H
theorem xd3 (l a:LA) (b:Int) (s:Int×Bool×Int×Int×Int×Int):Enc (encR (xaw l a b) (xap l a b)) (xac l a b s) (xd2 (xaw l a b s).1 (xaw l a b s).2):=by
 obtain ⟨h,c,d,e,f,g⟩:=s
 refine eV (xay l a b h c d e f g none (fun s=>some (encR (xaw l a b) (xap l a b) (.inl s))) (fun p=>some (encR (xaw l a b) (xap l a b) (.inr p)))) (by kernel_rfl) ?_;unfold xac xay;repeat' first|exact eN|exact eS rfl|apply eB
def xch:Lp:=lpOf [0,2,4,11,12,13] [] [] (pCons (pList 2 pAny) (pCons (pFunc 50 (pCons (pOwn 0 0 0 0) (pCons (pOwn 1 0 0 0) (pCons (pOwn 2 0 0 0) pNil)))) (pCons (pOwn 3 0 0 0) (pCons (pList 2 pAny) (pCons (pInt .i64) (pCons (pInt .i64) pNil)))))) (pCons (pBox 0 1 4 false true (pCons pBool pNil)) (pCons (pBox 0 1 3 false true (pCons (pInt .i64) pNil)) (pCons (pBox 0 1 3 false true (pCons (pInt .i64) pNil)) (pCons (pBox 0 2 35 false true (pCons (pAgg (pCons (pInt .i64) (pCons (pInt .i64) pNil))) pNil)) pNil)))) fun (l,((_,(_,(_,_))),(_,(a,(b,(h,_)))))) ((c,_),((d,_),((e,_),(((f,(g,_)),_),_))))=>((Iter (xac l a b) (h,c,d,e,f,g)).isSome,xap l a b ((Iter (xac l a b) (h,c,d,e,f,g)).getD (false,0,0)))
theorem xdA:LoopOk Tryz.prog (ITryz.at xaH.pin) xaH.nt (loopAt Tryz.f49 0) xch:=xio fun j k n m=>by
 obtain ⟨l,⟨⟨_,⟨_,⟨_,_⟩⟩⟩,⟨_,⟨a,⟨b,⟨h,_⟩⟩⟩⟩⟩⟩:=j
 obtain ⟨⟨c,_⟩,⟨⟨d,_⟩,⟨⟨e,_⟩,⟨⟨⟨f,⟨g,_⟩⟩,_⟩,_⟩⟩⟩⟩:=k
 obtain ⟨i,rfl⟩:=Prod.mk.inj m
 exact xdb mxTryz (inv0Ok Tryz.prog _) rfl xdN xcZ (xaw l a b) (xap l a b) (fun p=>by simp only [xap,LR.eval];first|(simp;done)|(repeat' split<;>simp)) (xd3 l a b) (s:=(h,c,d,e,f,g)) (xaL i)
def xa4:Env:=xgb.fn 45 3 (lsOf []) (lpsOf [(2,xch)])
theorem xdO:OrcOk Tryz.prog (ITryz.at 3) xa4:=xeJ.fn
theorem xdi:LoOk Tryz.prog (ITryz.at xa4.pin) xa4 (Tryz.f49.body.getD .skip):=xcp (ls:=[loopAt Tryz.f49 0]) (by kernel_rfl) (lkC xdA lkN)
def xb1 (l:LA) (f t:Int) (b:Bool) (c a:Int):=Iter (xac l l (↑l.length:Int)) (0,b,c,a,f,t)
def xb0 (l:LA) (f t:Int) (b:Bool) (c a:Int):=(xb1 l f t b c a).getD (false,0,0)
def xbx (l:LA) (f t:Int) (b:Bool) (c a:Int):=(xb0 l f t b c a).snd
def xbE {T:Type} (l:LA) (f t:Int) (b:Bool) (c a:Int) (δ:T) (κ:Bool×Int×Int→T):T:=br ((xb1 l f t b c a).isSome) (κ ((xb0 l f t b c a).fst,(xbx l f t b c a).fst,(xbx l f t b c a).snd)) δ
def xam (l:LA) (f t:Int) (b:Bool) (c a:Int):Option (Bool×Int×Int):=xbE l f t b c a none some
theorem xeS (l:LA) (f t:Int) (b:Bool) (c a:Int):Enc (fun (p:Bool×Int×Int)=>(((AV.tuple [],([⟨0,1,4,[AV.bool p.1],false,true⟩,⟨0,1,3,[AV.int .i64 p.2.1],false,true⟩,⟨0,1,3,[AV.int .i64 p.2.2],false,true⟩]:List Box))):(AV×List Box))) (xam l f t b c a) (XFM Tryz.prog xa4 Tryz.f49 (Tryz.f49.body.getD .skip) [AV.list 2 l,AV.agg [AV.int .i64 f,AV.int .i64 t],AV.func (50:FuncId) [AV.own (0:Id) 0 0 0,AV.own (1:Id) 0 0 0,AV.own (2:Id) 0 0 0]] [{ ver:=0,sz:=1,ty:=(4:TypeId),xs:=[AV.bool b],frz:=false,pm:=true },{ ver:=0,sz:=1,ty:=(3:TypeId),xs:=[AV.int .i64 c],frz:=false,pm:=true },{ ver:=0,sz:=1,ty:=(3:TypeId),xs:=[AV.int .i64 a],frz:=false,pm:=true }]):=by
 refine eV (xbE l f t b c a none (fun (p:Bool×Int×Int)=>some (((AV.tuple [],([⟨0,1,4,[AV.bool p.1],false,true⟩,⟨0,1,3,[AV.int .i64 p.2.1],false,true⟩,⟨0,1,3,[AV.int .i64 p.2.2],false,true⟩]:List Box))):(AV×List Box)))) (by kernel_rfl) ?_;unfold xam xbE;repeat' first|exact eN|exact eS rfl|apply eB
def xcT:LA→List Box→Option (Bool×AV×List Box):=omOf (sCons (sList 2 pAny) (sCons (sAgg (sCons (sEq (pInt .i64)) (sCons (sEq (pInt .i64)) sNil))) (sCons (sEq (pFunc (50:FuncId) (pCons (pOwn 0 0 0 0) (pCons (pOwn 1 0 0 0) (pCons (pOwn 2 0 0 0) pNil))))) sNil))) (pCons (pBox 0 1 (4:TypeId) false true (pCons pBool pNil)) (pCons (pBox 0 1 (3:TypeId) false true (pCons (pInt .i64) pNil)) (pCons (pBox 0 1 (3:TypeId) false true (pCons (pInt .i64) pNil)) pNil))) fun (l,((f,(t,_)),((_,(_,(_,_))),_))) ((b,_),((c,_),((a,_),_)))=>((xam l f t b c a).isSome,((AV.tuple [],([⟨0,1,4,[AV.bool ((xam l f t b c a).getD (false,0,0)).1],false,true⟩,⟨0,1,3,[AV.int .i64 ((xam l f t b c a).getD (false,0,0)).2.1],false,true⟩,⟨0,1,3,[AV.int .i64 ((xam l f t b c a).getD (false,0,0)).2.2],false,true⟩]:List Box))))
theorem xeR:OmOk Tryz.prog ITryz 49 (xcT):=xji fun c e j h g=>by
 obtain ⟨l,⟨⟨f,⟨t,_⟩⟩,⟨⟨_,⟨_,⟨_,_⟩⟩⟩,_⟩⟩⟩:=c
 obtain ⟨⟨k,_⟩,⟨⟨m,_⟩,⟨⟨i,_⟩,_⟩⟩⟩:=e
 obtain ⟨a,b⟩:=Prod.mk.inj g
 refine xdE (p:=xa4.pin) (xeX mxTryz (inv0Ok Tryz.prog _) rfl xdO rfl Tryz.func49 rfl (by kernel_rfl) xdi ((xeS _ _ _ _ _ _ _ (xaL (d:=(false,0,0)) a)).trans ?_))
 exact congrArg some b
def xkg:Env:=xgb.withM 49 xcT
theorem xkh:OrcOk Tryz.prog ITryz xkg:=xeJ.withM xeR
abbrev xh6:Env:=xkg
theorem xhf:OrcOk Tryz.prog ITryz xh6:=xkh
def xbo:Env:=xh6.fn 15 0 (lsOf []) (lpsOf [])
theorem xee:OrcOk Tryz.prog (ITryz.at 0) xbo:=xhf.fn
theorem xdM:LoOk Tryz.prog (ITryz.at xbo.pin) xbo (Tryz.f21.body.getD .skip):=xbz (by kernel_rfl)
def xbS {T:Type} (l:LA) (a b:Int) (δ:T) (κ:Int×Int→T):T:=br ((xam l a b false 0 0).isSome) (κ (((xam l a b false 0 0).getD (false,0,0)).snd.fst,((xam l a b false 0 0).getD (false,0,0)).snd.snd)) δ
def xah (l:LA) (a b:Int):Option (Int×Int):=xbS l a b none some
theorem xfT (l:LA) (a b:Int):Enc (fun (p:Int×Int)=>((AV.tuple [AV.int .i64 p.1,AV.int .i64 p.2]):AV)) (xah l a b) (XF Tryz.prog xbo Tryz.f21 (Tryz.f21.body.getD .skip) [AV.list 2 l,AV.agg [AV.int .i64 a,AV.int .i64 b]]):=by
 refine eV (xbS l a b none (fun (p:Int×Int)=>some ((AV.tuple [AV.int .i64 p.1,AV.int .i64 p.2]):AV))) (by kernel_rfl) ?_;unfold xah xbS;repeat' first|exact eN|exact eS rfl|apply eB
def xdh:LA→Option (Bool×AV):=ocOf (sCons (sList 2 pAny) (sCons (sAgg (sCons (sEq (pInt .i64)) (sCons (sEq (pInt .i64)) sNil))) sNil)) fun (l,((a,(b,_)),_))=>((xah l a b).isSome,(AV.tuple [AV.int .i64 ((xah l a b).getD (0,0)).1,AV.int .i64 ((xah l a b).getD (0,0)).2]))
theorem xfS:OcOk Tryz.prog ITryz 21 (xdh):=xcb fun c h e=>by
 obtain ⟨l,⟨⟨f,⟨g,_⟩⟩,_⟩⟩:=c
 obtain ⟨a,b⟩:=Prod.mk.inj e
 refine xav (p:=xbo.pin) (xaM mxTryz (inv0Ok Tryz.prog _) rfl xee Tryz.func21 rfl (by kernel_rfl) xdM ((xfT _ _ _ _ (xaL (d:=(0,0)) a)).trans ?_))
 exact congrArg some b
def xjb:Env:=xh6.with 21 xdh
theorem xjp:OrcOk Tryz.prog ITryz xjb:=xhf.with xfS
abbrev EKA1:Env:=xjb
theorem xlQ:OrcOk Tryz.prog ITryz EKA1:=xjp
end Go.Sim.M
end
noncomputable section
set_option maxRecDepth 100000
namespace Go.Sim.M
open Go.IntKind (i64 u64 u8)
open Go.RowKit Go.Proofs
abbrev xh7:Env:=EKA1
theorem xhg:OrcOk Tryz.prog ITryz xh7:=xlQ
def xbt:Env:=xh7.fn 18 0 (lsOf []) (lpsOf [])
theorem xfr:OrcOk Tryz.prog (ITryz.at 0) xbt:=xhg.fn
theorem xeH:LoOk Tryz.prog (ITryz.at xbt.pin) xbt (Tryz.f32.body.getD .skip):=xbz (by kernel_rfl)
def xbq (a b:Int):Bool:=(br (decide (a≥0)) (br (decide (a<b)) ((decide (b≤1099511627776))) ((false))) ((false)))
def xdI (a b:Int):Bool:=true
def xeA {T:Type} (a b:Int) (δ:T) (κ:Bool→T):T:=br (decide (a≥0)) (br (decide (a<b)) (κ (decide (b≤1099511627776))) (κ (false))) (κ (false))
theorem xhX (a b:Int):Pre (xdI a b) (XF Tryz.prog xbt Tryz.f32 (Tryz.f32.body.getD .skip) [AV.agg [AV.int .i64 a,AV.int .i64 b]]) (AV.bool (xbq a b)):=by
 have h:XF Tryz.prog xbt Tryz.f32 (Tryz.f32.body.getD .skip) [AV.agg [AV.int .i64 a,AV.int .i64 b]]=xeA a b none (fun (p:Bool)=>some ((AV.bool p):AV)):=by kernel_rfl
 rw [h];unfold xbq xdI xeA;repeat' (first|exact Pre.none|exact Pre.tt rfl|exact Pre.some rfl|refine Pre.l ?_|refine Pre.r ?_|refine Pre.br (f:=fun (p:Bool)=>((AV.bool p):AV)) ?_ ?_|refine Pre.brt (f:=fun (p:Bool)=>((AV.bool p):AV)) ?_ ?_)
def xez:LA→Option (Bool×AV):=ocOf (sCons (sAgg (sCons (sEq (pInt .i64)) (sCons (sEq (pInt .i64)) sNil))) sNil) fun ((a,(b,_)),_)=>(true,(AV.bool (xbq a b)))
theorem xhW:OcOk Tryz.prog ITryz 32 (xez):=xcb fun b g c=>by
 obtain ⟨⟨d,⟨e,_⟩⟩,_⟩:=b
 obtain ⟨f,a⟩:=Prod.mk.inj c
 refine xav (p:=xbt.pin) (xaM mxTryz (inv0Ok Tryz.prog _) rfl xfr Tryz.func32 rfl (by kernel_rfl) xeH ((Pre.get (xhX _ _) rfl).trans ?_))
 exact congrArg some a
def xh8:Env:=xh7.with 32 xez
theorem xhh:OrcOk Tryz.prog ITryz xh8:=xhg.with xhW
def xaZ:Env:=xh8.fn 19 0 (lsOf []) (lpsOf [])
theorem xeo:OrcOk Tryz.prog (ITryz.at 0) xaZ:=xhh.fn
theorem xdY:LoOk Tryz.prog (ITryz.at xaZ.pin) xaZ (Tryz.f33.body.getD .skip):=xbz (by kernel_rfl)
def xaO (a b t:Int):Bool:=(br (xbq a b) (br (decide (a≤t)) ((decide (t<b))) ((false))) ((false)))
def xcY (a b t:Int):Bool:=true
def xdz {T:Type} (a b t:Int) (δ:T) (κ:Bool→T):T:=br (xbq a b) (br (decide (a≤t)) (κ (decide (t<b))) (κ (false))) (κ (false))
theorem xf4 (a b t:Int):Pre (xcY a b t) (XF Tryz.prog xaZ Tryz.f33 (Tryz.f33.body.getD .skip) [AV.agg [AV.int .i64 a,AV.int .i64 b],AV.int .i64 t]) (AV.bool (xaO a b t)):=by
 have h:XF Tryz.prog xaZ Tryz.f33 (Tryz.f33.body.getD .skip) [AV.agg [AV.int .i64 a,AV.int .i64 b],AV.int .i64 t]=xdz a b t none (fun (p:Bool)=>some ((AV.bool p):AV)):=by kernel_rfl
 rw [h];unfold xaO xcY xdz;repeat' (first|exact Pre.none|exact Pre.tt rfl|exact Pre.some rfl|refine Pre.l ?_|refine Pre.r ?_|refine Pre.br (f:=fun (p:Bool)=>((AV.bool p):AV)) ?_ ?_|refine Pre.brt (f:=fun (p:Bool)=>((AV.bool p):AV)) ?_ ?_)
def xdy:LA→Option (Bool×AV):=ocOf (sCons (sAgg (sCons (sEq (pInt .i64)) (sCons (sEq (pInt .i64)) sNil))) (sCons (sEq (pInt .i64)) sNil)) fun ((a,(b,_)),(t,_))=>(true,(AV.bool (xaO a b t)))
theorem xf3:OcOk Tryz.prog ITryz 33 (xdy):=xcb fun b g c=>by
 obtain ⟨⟨d,⟨e,_⟩⟩,⟨t,_⟩⟩:=b
 obtain ⟨f,a⟩:=Prod.mk.inj c
 refine xav (p:=xaZ.pin) (xaM mxTryz (inv0Ok Tryz.prog _) rfl xeo Tryz.func33 rfl (by kernel_rfl) xdY ((Pre.get (xf4 _ _ _) rfl).trans ?_))
 exact congrArg some a
def xki:Env:=xh8.with 33 xdy
theorem xkj:OrcOk Tryz.prog ITryz xki:=xhh.with xf3
abbrev xkk:Env:=xki
theorem xkl:OrcOk Tryz.prog ITryz xkk:=xkj
abbrev xkm:Env:=xkk
theorem xkn:OrcOk Tryz.prog ITryz xkm:=xkl
abbrev xko:Env:=xkm
theorem xkp:OrcOk Tryz.prog ITryz xko:=xkn
abbrev xgc:Env:=xko
theorem xeK:OrcOk Tryz.prog ITryz xgc:=xkp
def xbu:Env:=xgc.fn 54 0 (lsOf []) (lpsOf [])
theorem xfs:OrcOk Tryz.prog (ITryz.at 0) xbu:=xeK.fn
theorem xea:LoOk Tryz.prog (ITryz.at xbu.pin) xbu (loopAt Tryz.f20 0):=xbz (by kernel_rfl)
def xax (l:LA) (i:Int):=decide (0≤i64.wrap (i - 1))&&decide (i64.wrap (i - 1)<(↑l.length:Int))
def xaF (l:LA) (i:Int):=decide (0≤i)&&decide (i<l.length)
def xaB {T:Type} (l:LA) (i:Int) (δ:T) (κl:(Int)→T) (κr:(Bool×(Bool)×(Unit))→T):T:=br (decide (i<l.length)) (br (xaF l i) (br (decide (i.toNat<l.length)&&hasSh1 (Sh.int .i64) ((l.getD i.toNat .top).cells.getD 0 .top)) (br (xax l i) (br (decide ((i64.wrap (i - 1)).toNat<l.length)&&hasSh1 (Sh.int .i64) ((l.getD (i64.wrap (i - 1)).toNat .top).cells.getD 0 .top)) (br (decide (((l.getD i.toNat .top).cells.getD 0 .top).toInt≤((l.getD (i64.wrap (i - 1)).toNat .top).cells.getD 0 .top).toInt)) (κr (true,(false),())) (br (xaF l i) (br (decide (i.toNat<l.length)&&hasSh1 (Sh.int .i64) ((l.getD i.toNat .top).cells.getD 0 .top)) (br (decide (((l.getD i.toNat .top).cells.getD 0 .top).toInt≥1099511627776)) (κr (true,(false),())) (br (xaF l i) (br (decide (i.toNat<l.length)&&hasSh1 (Sh.int .i64) ((l.getD i.toNat .top).cells.getD 1 .top)) (br (xax l i) (br (decide ((i64.wrap (i - 1)).toNat<l.length)&&hasSh1 (Sh.int .i64) ((l.getD (i64.wrap (i - 1)).toNat .top).cells.getD 1 .top)) (br (((l.getD i.toNat .top).cells.getD 1 .top).toInt==((l.getD (i64.wrap (i - 1)).toNat .top).cells.getD 1 .top).toInt) (κr (true,(false),())) (κl (i64.wrap (i+1)))) δ) δ) δ) δ)) δ) δ)) δ) δ) δ) δ) (κr (false,false,()))
def xaa (l:LA):(Int)→Option ((Int)⊕(Bool×(Bool)×(Unit))):=fun (i)=>xaB l i none (fun s=>some (.inl s)) (fun p=>some (.inr p))
def xa6 (l:LA):(Int)→LA×List Box:=fun (i)=>([AV.list 2 l,AV.int .i64 i],[])
def xaP (l:LA):(Bool×(Bool)×(Unit))→LR:=fun p=>(.node p.1 (.leaf .ret [AV.bool p.2.1] []) (.leaf (.exit 0) [.top] []))
abbrev xf6 (a:LA) (H:List Box):=XR Tryz.prog xbu [0,3] [2] [] (loopAt Tryz.f20 0) a H
theorem xf7 (l:LA) (i:Int):Enc (encR (xa6 l) (xaP l)) (xaa l i) (xf6 (xa6 l i).1 (xa6 l i).2):=by
 refine eV (xaB l i none (fun s=>some (encR (xa6 l) (xaP l) (.inl s))) (fun p=>some (encR (xa6 l) (xaP l) (.inr p)))) (by kernel_rfl) ?_;unfold xaa xaB;repeat' first|exact eN|exact eS rfl|apply eB
def xc6:Lp:=lpOf [0,3] [2] [] (pCons (pList 2 pAny) (pCons (pInt .i64) pNil)) pNil fun (l,(i,_)) _=>((Iter (xaa l) (i)).isSome,xaP l ((Iter (xaa l) (i)).getD (false,false,())))
theorem xe8:LoopOk Tryz.prog (ITryz.at xbu.pin) xbu.nt (loopAt Tryz.f20 0) xc6:=xio fun b d e c=>by
 obtain ⟨l,⟨i,_⟩⟩:=b
 obtain ⟨a,rfl⟩:=Prod.mk.inj c
 exact xdb mxTryz (inv0Ok Tryz.prog _) rfl xfs xea (xa6 l) (xaP l) (fun p=>by simp only [xaP,LR.eval];first|(simp;done)|(repeat' split<;>simp)) (xf7 l) (s:=(i)) (xaL a)
def xbN:Env:=xgc.fn 54 0 (lsOf []) (lpsOf [(4,xc6)])
theorem xft:OrcOk Tryz.prog (ITryz.at 0) xbN:=xeK.fn
theorem xeI:LoOk Tryz.prog (ITryz.at xbN.pin) xbN (Tryz.f20.body.getD .skip):=xcp (ls:=[loopAt Tryz.f20 0]) (by kernel_rfl) (lkC xe8 lkN)
def xcn {T:Type} (l:LA) (δ:T) (κ:Bool→T):T:=br ((↑l.length:Int)==0) (κ (false)) (br (decide (0<(↑l.length:Int))) (br (decide (0<l.length)&&hasSh1 (Sh.int .i64) ((l.getD 0 .top).cells.getD 0 .top)) (br (((l.getD 0 .top).cells.getD 0 .top).toInt != 0) (κ (false)) (br ((Iter (xaa l) 1).isSome) (br (((Iter (xaa l) 1).getD (false,false,())).fst) (κ (((Iter (xaa l) 1).getD (false,false,())).snd.fst)) (κ (true))) δ)) δ) δ)
def xbr (l:LA):Option (Bool):=xcn l none some
theorem xh0 (l:LA):Enc (fun (p:Bool)=>((AV.bool p):AV)) (xbr l) (XF Tryz.prog xbN Tryz.f20 (Tryz.f20.body.getD .skip) [AV.list 2 l]):=by
 refine eV (xcn l none (fun (p:Bool)=>some ((AV.bool p):AV))) (by kernel_rfl) ?_;unfold xbr xcn;repeat' first|exact eN|exact eS rfl|apply eB
def xeB:LA→Option (Bool×AV):=ocOf (sCons (sList 2 pAny) sNil) fun (l,_)=>((xbr l).isSome,(AV.bool ((xbr l).getD false)))
theorem xhx:OcOk Tryz.prog ITryz 20 (xeB):=xcb fun c f e=>by
 obtain ⟨l,_⟩:=c
 obtain ⟨a,b⟩:=Prod.mk.inj e
 refine xav (p:=xbN.pin) (xaM mxTryz (inv0Ok Tryz.prog _) rfl xft Tryz.func20 rfl (by kernel_rfl) xeI ((xh0 _ _ (xaL (d:=false) a)).trans ?_))
 exact congrArg some b
def xgd:Env:=xgc.with 20 xeB
theorem xeL:OrcOk Tryz.prog ITryz xgd:=xeK.with xhx
def xbY:Env:=xgd.fn 34 0 (lsOf []) (lpsOf [])
theorem xg5:OrcOk Tryz.prog (ITryz.at 0) xbY:=xeL.fn
theorem xe7:LoOk Tryz.prog (ITryz.at xbY.pin) xbY (loopAt Tryz.f34 0):=xbz (by kernel_rfl)
def xbT {T:Type} (l:LA) (t n i:Int) (δ:T) (κl:(Int×Int)→T) (κr:(Int)→T):T:=br (decide (i<l.length)) (br (decide (t≥0)) (br (decide (t<1099511627776)) (br (decide (0≤i)&&decide (i<l.length)) (br (decide (i.toNat<l.length)&&hasSh1 (Sh.int .i64) ((l.getD i.toNat .top).cells.getD 0 .top)) (br (decide (((l.getD i.toNat .top).cells.getD 0 .top).toInt≤t)) (br (decide (0≤i)&&decide (i<l.length)) (br (decide (i.toNat<l.length)&&hasSh1 (Sh.int .i64) ((l.getD i.toNat .top).cells.getD 1 .top)) (κl (((l.getD i.toNat .top).cells.getD 1 .top).toInt,i64.wrap (i+1))) δ) δ) (κl (n,i64.wrap (i+1)))) δ) δ) (κr (n))) (κr (n))) (κr (n))
def xar (l:LA) (t:Int):(Int×Int)→Option ((Int×Int)⊕(Int)):=fun (n,i)=>xbT l t n i none (fun s=>some (.inl s)) (fun p=>some (.inr p))
def xbD (l:LA) (t:Int):(Int×Int)→LA×List Box:=fun (n,i)=>([AV.list 2 l,AV.int .i64 t,AV.int .i64 n,AV.int .i64 i],[])
def xbn (l:LA) (t:Int):(Int)→LR:=fun p=>(.leaf (.exit 0) [AV.int .i64 p] [])
abbrev xhY (a:LA) (H:List Box):=XR Tryz.prog xbY [0,1,5,6] [5] [] (loopAt Tryz.f34 0) a H
theorem xhZ (l:LA) (t:Int) (s:Int×Int):Enc (encR (xbD l t) (xbn l t)) (xar l t s) (xhY (xbD l t s).1 (xbD l t s).2):=by
 obtain ⟨n,i⟩:=s
 refine eV (xbT l t n i none (fun s=>some (encR (xbD l t) (xbn l t) (.inl s))) (fun p=>some (encR (xbD l t) (xbn l t) (.inr p)))) (by kernel_rfl) ?_;unfold xar xbT;repeat' first|exact eN|exact eS rfl|apply eB
def xd9:Lp:=lpOf [0,1,5,6] [5] [] (pCons (pList 2 pAny) (pCons (pInt .i64) (pCons (pInt .i64) (pCons (pInt .i64) pNil)))) pNil fun (l,(t,(n,(i,_)))) _=>((Iter (xar l t) (n,i)).isSome,xbn l t ((Iter (xar l t) (n,i)).getD 0))
theorem xgI:LoopOk Tryz.prog (ITryz.at xbY.pin) xbY.nt (loopAt Tryz.f34 0) xd9:=xio fun b d e c=>by
 obtain ⟨l,⟨t,⟨n,⟨i,_⟩⟩⟩⟩:=b
 obtain ⟨a,rfl⟩:=Prod.mk.inj c
 exact xdb mxTryz (inv0Ok Tryz.prog _) rfl xg5 xe7 (xbD l t) (xbn l t) (fun p=>by simp only [xbn,LR.eval];first|(simp;done)|(repeat' split<;>simp)) (xhZ l t) (s:=(n,i)) (xaL a)
def xcl:Env:=xgd.fn 34 0 (lsOf []) (lpsOf [(3,xd9)])
theorem xg6:OrcOk Tryz.prog (ITryz.at 0) xcl:=xeL.fn
theorem xf5:LoOk Tryz.prog (ITryz.at xcl.pin) xcl (Tryz.f34.body.getD .skip):=xcp (ls:=[loopAt Tryz.f34 0]) (by kernel_rfl) (lkC xgI lkN)
def xdc {T:Type} (l:LA) (t:Int) (δ:T) (κ:Int→T):T:=br ((Iter (xar l t) (0,0)).isSome) (κ ((Iter (xar l t) (0,0)).getD 0)) δ
def xbA (l:LA) (t:Int):Option (Int):=xdc l t none some
theorem xjT (l:LA) (t:Int):Enc (fun (p:Int)=>((AV.int .i64 p):AV)) (xbA l t) (XF Tryz.prog xcl Tryz.f34 (Tryz.f34.body.getD .skip) [AV.list 2 l,AV.int .i64 t]):=by
 refine eV (xdc l t none (fun (p:Int)=>some ((AV.int .i64 p):AV))) (by kernel_rfl) ?_;unfold xbA xdc;repeat' first|exact eN|exact eS rfl|apply eB
def xgJ:LA→Option (Bool×AV):=ocOf (sCons (sList 2 pAny) (sCons (sEq (pInt .i64)) sNil)) fun (l,(t,_))=>((xbA l t).isSome,(AV.int .i64 ((xbA l t).getD 0)))
theorem xjS:OcOk Tryz.prog ITryz 34 (xgJ):=xcb fun c f e=>by
 obtain ⟨l,⟨t,_⟩⟩:=c
 obtain ⟨a,b⟩:=Prod.mk.inj e
 refine xav (p:=xcl.pin) (xaM mxTryz (inv0Ok Tryz.prog _) rfl xg6 Tryz.func34 rfl (by kernel_rfl) xf5 ((xjT _ _ _ (xaL (d:=0) a)).trans ?_))
 exact congrArg some b
def xkq:Env:=xgd.with 34 xgJ
theorem xkr:OrcOk Tryz.prog ITryz xkq:=xeL.with xjS
abbrev xjc:Env:=xkq
theorem xjq:OrcOk Tryz.prog ITryz xjc:=xkr
abbrev EKA2:Env:=xjc
theorem xlR:OrcOk Tryz.prog ITryz EKA2:=xjq
end Go.Sim.M
end
noncomputable section
set_option maxRecDepth 100000
namespace Go.Sim.M
open Go.IntKind (i64 u64 u8)
open Go.RowKit Go.Proofs
abbrev xks:Env:=EKA2
theorem xkt:OrcOk Tryz.prog ITryz xks:=xlR
abbrev xku:Env:=xks
theorem xkv:OrcOk Tryz.prog ITryz xku:=xkt
abbrev xkw:Env:=xku
theorem xky:OrcOk Tryz.prog ITryz xkw:=xkv
abbrev EKA3:Env:=xkw
theorem xlS:OrcOk Tryz.prog ITryz EKA3:=xky
end Go.Sim.M
end
