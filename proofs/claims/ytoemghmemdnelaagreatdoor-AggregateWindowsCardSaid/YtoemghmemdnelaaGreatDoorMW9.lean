/- Part 9 of the proof of the law. -/
import Derived.Test.YtoemghmemdnelaaGreatDoorMW8
import Derived.Shelf.Strings.Builder1
import Derived.Shelf.Small.Bits
import Derived.Shelf.Small.Strs
import Derived.Shelf.Strings.BuilderF
import Derived.Shelf.Strings.BuilderK
import Derived.Shelf.Strconv.Itoa0
import Derived.Shelf.Strconv.Itoa1
import Derived.Shelf.LaysM
import Derived.Shelf.Strconv.Itoa2
import Derived.Shelf.Strconv.Itoa3
import Derived.Shelf.Strings.BuilderCap
import Derived.Ground.SlsfProg
import Derived.Shelf.SlSortCmp.Insertion
import Derived.Shelf.SlSortCmp.SiftDown1
import Derived.Shelf.SlSortCmp.HeapSort1
import Derived.Shelf.SlSortCmp.Insertion1
import Derived.Shelf.SlSortCmp.Median1
import Derived.Shelf.SlSortCmp.Pivot1
import Derived.Shelf.SlSortCmp.ReverseRange1
import Derived.Shelf.SlSortCmp.PartitionEqual1
import Derived.Shelf.SlSortCmp.Partition1
set_option linter.unusedVariables false
set_option linter.unusedSimpArgs false
set_option linter.unnecessarySimpa false
noncomputable section
namespace Go.Proofs
open Go.Shelf
def Tryz.lays106_ren:Go.Shelf.Ren:=⟨fun|106=>136|213=>167|265=>191|n=>n,fun|9=>9|3=>3|n=>n,fun|n=>n⟩
theorem Tryz.lays106:Go.Proofs.Lays.n106 Tryz.prog Tryz.lays106_ren:={
 mixed:=by kernel_rfl
 f106:=Tryz.func136.trans (congrArg some (by kernel_rfl))
 f213:=Tryz.func167.trans (congrArg some (by kernel_rfl))
 f265:=Tryz.func191.trans (congrArg some (by kernel_rfl))
 t3:=Tryz.underlying3
 a3:=Tryz.isAgg3
 z3:=Tryz.sizeOf3
 v3:=Tryz.zeroValue3
 t9:=Tryz.underlying9
 a9:=Tryz.isAgg9
 z9:=Tryz.sizeOf9
 v9:=Tryz.zeroValue9 }
open Go.RowKit in
theorem Tryz.strings_Compare (a b:ByteArray) (w:World) :
 Calls Tryz.prog 136 #[.string a,.string b] w fun e w'=>e=.returned (.int .i64 (Lib.compareBytes a.data.toList b.data.toList))/\w'=w:=Any.strings_Compare Tryz.lays106 a b w
def Tryz.laysM171_ren:Go.Shelf.Ren:=⟨fun|171=>98|243=>130|246=>154|283=>182|284=>183|285=>184|286=>185|129=>150|317=>198|318=>199|319=>200|320=>201|337=>207|338=>208|n=>n,fun|3=>3|9=>9|2=>2|4=>4|171=>221|0=>0|53=>194|37=>140|5=>5|173=>223|212=>236|51=>192|20=>20|213=>237|46=>170|232=>242|233=>243|n=>n,fun|17=>1|18=>2|19=>3|n=>n⟩
theorem Tryz.laysM171:Go.Proofs.LaysM.n171 Tryz.prog Tryz.laysM171_ren:={
 mixed:=by kernel_rfl
 f129:=Tryz.func150.trans (congrArg some (by kernel_rfl))
 f171:=Tryz.func98.trans (congrArg some (by kernel_rfl))
 f243:=Tryz.func130.trans (congrArg some (by kernel_rfl))
 f246:=Tryz.func154.trans (congrArg some (by kernel_rfl))
 f283:=Tryz.func182.trans (congrArg some (by kernel_rfl))
 f284:=Tryz.func183.trans (congrArg some (by kernel_rfl))
 f285:=Tryz.func184.trans (congrArg some (by kernel_rfl))
 f286:=Tryz.func185.trans (congrArg some (by kernel_rfl))
 f317:=Tryz.func198.trans (congrArg some (by kernel_rfl))
 f318:=Tryz.func199.trans (congrArg some (by kernel_rfl))
 f319:=Tryz.func200.trans (congrArg some (by kernel_rfl))
 f320:=Tryz.func201.trans (congrArg some (by kernel_rfl))
 f337:=Tryz.func207.trans (congrArg some (by kernel_rfl))
 f338:=Tryz.func208.trans (congrArg some (by kernel_rfl))
 t0:=Tryz.underlying0
 a0:=Tryz.isAgg0
 z0:=Tryz.sizeOf0
 v0:=Tryz.zeroValue0
 t2:=Tryz.underlying2
 a2:=Tryz.isAgg2
 z2:=Tryz.sizeOf2
 v2:=Tryz.zeroValue2
 t3:=Tryz.underlying3
 a3:=Tryz.isAgg3
 z3:=Tryz.sizeOf3
 v3:=Tryz.zeroValue3
 t4:=Tryz.underlying4
 a4:=Tryz.isAgg4
 z4:=Tryz.sizeOf4
 v4:=Tryz.zeroValue4
 t5:=Tryz.underlying5
 a5:=Tryz.isAgg5
 z5:=Tryz.sizeOf5
 v5:=Tryz.zeroValue5
 t9:=Tryz.underlying9
 a9:=Tryz.isAgg9
 z9:=Tryz.sizeOf9
 v9:=Tryz.zeroValue9
 t20:=Tryz.underlying20
 a20:=Tryz.isAgg20
 z20:=Tryz.sizeOf20
 v20:=Tryz.zeroValue20
 t37:=Tryz.underlying140
 a37:=Tryz.isAgg140
 z37:=Tryz.sizeOf140
 v37:=Tryz.zeroValue140
 t46:=Tryz.underlying170
 a46:=Tryz.isAgg170
 z46:=Tryz.sizeOf170
 v46:=Tryz.zeroValue170
 t51:=Tryz.underlying192
 a51:=Tryz.isAgg192
 z51:=Tryz.sizeOf192
 v51:=Tryz.zeroValue192
 t53:=Tryz.underlying194
 a53:=Tryz.isAgg194
 z53:=Tryz.sizeOf194
 v53:=Tryz.zeroValue194
 t171:=Tryz.underlying221
 a171:=Tryz.isAgg221
 z171:=Tryz.sizeOf221
 v171:=Tryz.zeroValue221
 t173:=Tryz.underlying223
 a173:=Tryz.isAgg223
 z173:=Tryz.sizeOf223
 v173:=Tryz.zeroValue223
 t212:=Tryz.underlying236
 a212:=Tryz.isAgg236
 z212:=Tryz.sizeOf236
 v212:=Tryz.zeroValue236
 t213:=Tryz.underlying237
 a213:=Tryz.isAgg237
 z213:=Tryz.sizeOf237
 t232:=Tryz.underlying242
 a232:=Tryz.isAgg242
 z232:=Tryz.sizeOf242
 v232:=Tryz.zeroValue242
 t233:=Tryz.underlying243
 a233:=Tryz.isAgg243
 z233:=Tryz.sizeOf243
 v233:=Tryz.zeroValue243
 g17:=by kernel_rfl
 g18:=by kernel_rfl
 g19:=by kernel_rfl
 i0:=by kernel_rfl
 i2:=by kernel_rfl
 i3:=by kernel_rfl
 i4:=by kernel_rfl
 i5:=by kernel_rfl
 i9:=by kernel_rfl
 i20:=by kernel_rfl
 i37:=by kernel_rfl
 i46:=by kernel_rfl
 i51:=by kernel_rfl
 i53:=by kernel_rfl
 i171:=by kernel_rfl
 i173:=by kernel_rfl
 i212:=by kernel_rfl
 i232:=by kernel_rfl
 i233:=by kernel_rfl
 m17:=by kernel_rfl
 m18:=by kernel_rfl
 m19:=by kernel_rfl }
open Go.RowKit Go.Sort Go.Lib in
theorem Tryz.strconv_Itoa (n:Int) (h0:-9223372036854775808<=n) (h1:n<=9223372036854775807) (w:World) (htab:Lib.TabIs Tryz.prog w "internal/strconv.uint64pow10" .u64 Lib.pow10Tab) :
 Calls Tryz.prog 98 #[.int .i64 n] w fun e w'=>e=.returned (.string ⟨(Lib.itoa n).toArray⟩)/\∃ k os,w'=grow (w.drewN k) os:=Any.strconv_Itoa Tryz.laysM171 n h0 h1 w htab
end Go.Proofs
end
noncomputable section
namespace Go.Sim
open Go.RowKit Go.Proofs
theorem xKH {w:World} {k:Nat} {os:Array Obj}:Below w.heap.size w (Sort.grow (w.drewN k) os):=by
 refine ⟨rfl,rfl,rfl,?_,fun i hi=>?_⟩
 . show w.heap.size<=(w.heap++os).size;simp
 . show (w.heap++os)[i]?=_;rw [Array.getElem?_append,if_pos hi]
def xmR:List AV->Option (Bool×AV)
 | [.str a,.str b]=>some (true,.int .i64 (Lib.compareBytes a b))
 | _=>none
theorem xy9:OcOk Tryz.prog xT5 136 xmR:=fun xs r h=>by
 unfold xmR at h;split at h
 . rename_i a b;simp only [z6,zb,true_and] at h;subst h;refine ⟨xfn Tryz.func136 rfl (by kernel_rfl),fun w A vs hI hA q=>?_⟩
   obtain ⟨v,u,rfl,h1,h2⟩:=rc2 q;obtain ⟨s,rfl,rfl⟩:=h1.str_inv;obtain ⟨t,rfl,rfl⟩:=h2.str_inv;refine (Tryz.strings_Compare s t w).mono ?_;rintro e w' ⟨rfl,rfl⟩;exact ⟨_,rfl,Below.refl _ _,.int _ _⟩
 . simp at h
def xrV:List AV->Option (Bool×AV)
 | [.int .i64 n]=>some (decide (-9223372036854775808<=n)&&decide (n<=9223372036854775807),.str (Lib.itoa n))
 | _=>none
theorem xBF:OcOk Tryz.prog xT5 98 xrV:=fun xs r h=>by
 unfold xrV at h;split at h
 . rename_i n;simp only [z6,zb,zl,zf] at h;obtain ⟨⟨g1,g2⟩,rfl⟩:=h;refine ⟨xfn Tryz.func98 rfl (by kernel_rfl),fun w A vs hI hA q=>?_⟩
   obtain ⟨v,rfl,h1⟩:=rc1 q;obtain rfl:=h1.int_inv;refine (Tryz.strconv_Itoa n g1 g2 w hI.tab).mono ?_;rintro e w' ⟨rfl,k,os,rfl⟩;exact ⟨_,rfl,xKH,.str _⟩
 . simp at h
end Go.Sim
end
noncomputable section
namespace Go.Sim
open Go.RowKit
variable {α β γ : Type}
structure Pat (α β:Type) where
 enc:β->α
 dec:α->Option β
 ok:∀ a b,dec a=some b->a=enc b
def xUa:Pat α α:=⟨fun b=>b,some,fun a b h=>by simpa using h⟩
def pInt (k:IntKind):Pat AV Int:=⟨.int k,fun v=>match v with
 | .int k' n=>match decide (k'=k) with
  | true=>some n
  | false=>none
 | _=>none,fun v n h=>by
 split at h
 . split at h
   . rename_i hk;simp only [z6] at h;rw [of_decide_eq_true hk,h]
   . simp at h
 . simp at h⟩
def pStr:Pat AV (List UInt8):=⟨.str,fun v=>match v with
 | .str s=>some s
 | _=>none,fun v n h=>by
 split at h
 . simp only [z6] at h;rw [h]
 . simp at h⟩
def pBool:Pat AV Bool:=⟨.bool,fun v=>match v with
 | .bool s=>some s
 | _=>none,fun v n h=>by
 split at h
 . simp only [z6] at h;rw [h]
 . simp at h⟩
def xUq (sz:Nat) (q:Pat (List AV) β):Pat AV β:=⟨fun b=>.list sz (q.enc b),fun v=>match v with
 | .list z xs=>match Nat.beq z sz with
  | true=>q.dec xs
  | false=>none
 | _=>none,fun v n h=>by
 split at h
 . split at h
   . rename_i hz;rw [zg hz,q.ok _ _ h]
   . simp at h
 . simp at h⟩
def xUk (id ver off:Nat):Pat AV Nat:=⟨.osl id ver off,fun v=>match v with
 | .osl (.b i) e o n=>match Nat.beq i id&&(Nat.beq e ver&&Nat.beq o off) with
  | true=>some n
  | false=>none
 | _=>none,fun v n h=>by
 split at h
 . split at h
   . rename_i hz;simp only [zf] at hz;simp only [z6] at h;rw [zg hz.1,zg hz.2.1,zg hz.2.2,h]
   . simp at h
 . simp at h⟩
def pOslO (id ver:Nat):Pat AV (Nat×Nat):=⟨fun p=>.osl id ver p.1 p.2,fun v=>match v with
 | .osl (.b i) e o n=>match Nat.beq i id&&Nat.beq e ver with
  | true=>some (o,n)
  | false=>none
 | _=>none,fun v n h=>by
 split at h
 . split at h
   . rename_i hz;simp only [zf] at hz;simp only [z6] at h;rw [zg hz.1,zg hz.2,<-h]
   . simp at h
 . simp at h⟩
def pOslV (id off:Nat):Pat AV (Nat×Nat):=⟨fun p=>.osl id p.1 off p.2,fun v=>match v with
 | .osl (.b i) e o n=>match Nat.beq i id&&Nat.beq o off with
  | true=>some (e,n)
  | false=>none
 | _=>none,fun v n h=>by
 split at h
 . split at h
   . rename_i hz;simp only [zf] at hz;simp only [z6] at h;rw [zg hz.1,zg hz.2,<-h]
   . simp at h
 . simp at h⟩
def pOwnV (id j:Nat):Pat AV (Nat×Nat):=⟨fun p=>.own id p.1 p.2 j,fun v=>match v with
 | .own (.b a) b c d=>match Nat.beq a id&&Nat.beq d j with
  | true=>some (b,c)
  | false=>none
 | _=>none,fun v n h=>by
 split at h
 . split at h
   . rename_i hz;simp only [zf] at hz;simp only [z6] at h;rw [zg hz.1,zg hz.2,<-h]
   . simp at h
 . simp at h⟩
def xUl (id ver i j:Nat):Pat AV Unit:=⟨fun _=>.own id ver i j,fun v=>match v with
 | .own (.b a) b c d=>match Nat.beq a id&&(Nat.beq b ver&&(Nat.beq c i&&Nat.beq d j)) with
  | true=>some ()
  | false=>none
 | _=>none,fun v n h=>by
 split at h
 . split at h
   . rename_i hz;simp only [zf] at hz;rw [zg hz.1,zg hz.2.1,zg hz.2.2.1,zg hz.2.2.2]
   . simp at h
 . simp at h⟩
def pEptr (sz i j:Nat) (q:Pat (List AV) β):Pat AV β:=⟨fun b=>.eptr sz (q.enc b) i j,fun v=>match v with
 | .eptr a xs c d=>match Nat.beq a sz&&(Nat.beq c i&&Nat.beq d j) with
  | true=>q.dec xs
  | false=>none
 | _=>none,fun v n h=>by
 split at h
 . split at h
   . rename_i hz;simp only [zf] at hz;rw [zg hz.1,zg hz.2.1,zg hz.2.2,q.ok _ _ h]
   . simp at h
 . simp at h⟩
def xUm (q:Pat (List AV) β):Pat AV β:=⟨fun b=>.agg (q.enc b),fun v=>match v with
 | .agg cs=>q.dec cs
 | _=>none,fun v n h=>by
 split at h
 . rw [q.ok _ _ h]
 . simp at h⟩
def xTM (f:Nat) (q:Pat (List AV) β):Pat AV β:=⟨fun b=>.func f (q.enc b),fun v=>match v with
 | .func g cs=>match Nat.beq g f with
  | true=>q.dec cs
  | false=>none
 | _=>none,fun v n h=>by
 split at h
 . split at h
   . rename_i hz;rw [zg hz,q.ok _ _ h]
   . simp at h
 . simp at h⟩
def pNils:Pat AV Unit:=⟨fun _=>.nils,fun v=>match v with
 | .nils=>some ()
 | _=>none,fun v n h=>by
 split at h
 . rfl
 . simp at h⟩
def pNilptr:Pat AV Unit:=⟨fun _=>.nilptr,fun v=>match v with
 | .nilptr=>some ()
 | _=>none,fun v n h=>by
 split at h
 . rfl
 . simp at h⟩
def xT8:Pat (List α) Unit:=⟨fun _=>[],fun v=>match v with
 | []=>some ()
 | _=>none,fun v n h=>by
 split at h
 . rfl
 . simp at h⟩
def xT6 (p:Pat α β) (q:Pat (List α) γ):Pat (List α) (β×γ):=⟨fun b=>p.enc b.1::q.enc b.2,fun v=>match v with
 | x::t=>match p.dec x with
  | some b=>match q.dec t with
   | some c=>some (b,c)
   | none=>none
  | none=>none
 | _=>none,fun v n h=>by
 split at h
 . split at h
   . rename_i hp;split at h
     . rename_i hq;cases h;rw [p.ok _ _ hp,q.ok _ _ hq]
     . simp at h
   . simp at h
 . simp at h⟩
def xUn (ver sz ty:Nat) (frz pm:Bool) (q:Pat (List AV) β):Pat Box β:=⟨fun b=>⟨ver,sz,ty,q.enc b,frz,pm⟩,fun v=>match v with
 | ⟨a,b,c,xs,f,p⟩=>match Nat.beq a ver&&(Nat.beq b sz&&(Nat.beq c ty&&((f==frz)&&(p==pm)))) with
  | true=>q.dec xs
  | false=>none,fun v n h=>by
 obtain ⟨a,b,c,xs,f,p⟩:=v;dsimp only at h;split at h
 . rename_i hz;simp only [zf,beq_iff_eq] at hz;rw [zg hz.1,zg hz.2.1,zg hz.2.2.1,hz.2.2.2.1,hz.2.2.2.2,q.ok _ _ h]
 . simp at h⟩
def pBoxV (sz ty:Nat) (frz pm:Bool) (q:Pat (List AV) β):Pat Box (Nat×β):=⟨fun b=>⟨b.1,sz,ty,q.enc b.2,frz,pm⟩,fun v=>match v with
 | ⟨a,b,c,xs,f,p⟩=>match Nat.beq b sz&&(Nat.beq c ty&&((f==frz)&&(p==pm))) with
  | true=>match q.dec xs with
   | some y=>some (a,y)
   | none=>none
  | false=>none,fun v n h=>by
 obtain ⟨a,b,c,xs,f,p⟩:=v;dsimp only at h;split at h
 . rename_i hz;simp only [zf,beq_iff_eq] at hz;split at h
   . rename_i y hy;simp only [z6] at h;rw [zg hz.1,zg hz.2.1,hz.2.2.1,hz.2.2.2,<-h,q.ok _ _ hy]
   . simp at h
 . simp at h⟩
def Sub (a b:AV):Prop:=∀ (w:World) (A:Nat->Prop) (M:Id->Option MB) (v:Value),Rel w A M v a->Rel w A M v b
def SubL (aS bs:List AV):Prop:=aS.length=bs.length/\∀ i,i<aS.length->Sub (aS.getD i .top) (bs.getD i .top)
theorem Sub.refl (a:AV):Sub a a:=fun _ _ _ _ h=>h
theorem Sub.of_eq {a b:AV} (h:a=b):Sub a b:=h▸Sub.refl a
theorem xB9 (sz:Nat):Sub .nils (.list sz []):=fun w A M v h=>by
 cases h;exact .list0 _ _ _
theorem xQm {aS bs:List AV} (h:SubL aS bs):Sub (.agg aS) (.agg bs):=fun w A M v hr=>by
 obtain ⟨vs,rfl,h1,h2⟩:=hr.agg_inv;exact .agg vs bs (h1.trans h.1) fun i hi=>h.2 i (h.1.symm▸hi) w A M _ (h2 i (h.1.symm▸hi))
theorem xM8 {w:World} {A:Nat->Prop} {M:Id->Option MB} {vs:List Value} {aS bs:List AV} (h:SubL aS bs) (hr:RC w A M vs aS):RC w A M vs bs :=
 ⟨hr.1.trans h.1,fun i hi=>h.2 i (h.1.symm▸hi) w A M _ (hr.2 i (h.1.symm▸hi))⟩
structure SPat (β:Type) where
 enc:β->AV
 dec:AV->Option β
 ok:∀ a b,dec a=some b->Sub a (enc b)
structure SPatL (β:Type) where
 enc:β->List AV
 dec:List AV->Option β
 ok:∀ a b,dec a=some b->SubL a (enc b)
def sEq (p:Pat AV β):SPat β:=⟨p.enc,p.dec,fun a b h=>Sub.of_eq (p.ok a b h)⟩
def xUo (sz:Nat) (q:Pat (List AV) β):SPat β:=⟨fun b=>.list sz (q.enc b),fun v=>match v with
 | .nils=>q.dec []
 | .list z xs=>match Nat.beq z sz with
  | true=>q.dec xs
  | false=>none
 | _=>none,fun v n h=>by
 split at h
 . rw [<-q.ok _ _ h];exact xB9 sz
 . split at h
   . rename_i hz;rw [zg hz,q.ok _ _ h];exact Sub.refl _
   . simp at h
 . simp at h⟩
def xUp (q:SPatL β):SPat β:=⟨fun b=>.agg (q.enc b),fun v=>match v with
 | .agg cs=>q.dec cs
 | _=>none,fun v n h=>by
 split at h
 . exact xQm (q.ok _ _ h)
 . simp at h⟩
def xT9:SPatL Unit:=⟨fun _=>[],fun v=>match v with
 | []=>some ()
 | _=>none,fun v n h=>by
 split at h
 . exact ⟨rfl,fun i hi=>by simp at hi⟩
 . simp at h⟩
def xT7 (p:SPat β) (q:SPatL γ):SPatL (β×γ):=⟨fun b=>p.enc b.1::q.enc b.2,fun v=>match v with
 | x::t=>match p.dec x with
  | some b=>match q.dec t with
   | some c=>some (b,c)
   | none=>none
  | none=>none
 | _=>none,fun v n h=>by
 split at h
 . split at h
   . rename_i hp;split at h
     . rename_i hq;cases h;obtain ⟨h1,h2⟩:=q.ok _ _ hq;refine ⟨by simp [h1],fun i hi=>?_⟩
       cases i with
       | zero=>exact p.ok _ _ hp
       | succ i=>exact h2 i (by simpa using hi)
     . simp at h
   . simp at h
 . simp at h⟩
def ocOf (pv:SPatL β) (g:β->Bool×AV):List AV->Option (Bool×AV):=fun xs=>match pv.dec xs with
 | some b=>some (g b)
 | none=>none
def omOf (pv:SPatL β) (pb:Pat (List Box) γ) (g:β->γ->Bool×AV×List Box):List AV->List Box->Option (Bool×AV×List Box):=fun xs H=>match pv.dec xs with
 | some b=>match pb.dec H with
  | some c=>some (g b c)
  | none=>none
 | none=>none
def lpOf (live liveO:List Nat) (conv:List (Nat×Nat×TypeId)) (pv:Pat (List AV) β) (pb:Pat (List Box) γ) (g:β->γ->Bool×LR):Lp:=⟨live,liveO,conv,fun xs H=>match pv.dec xs with
 | some b=>match pb.dec H with
  | some c=>some (g b c)
  | none=>none
 | none=>none⟩
section
variable {P : Program} {Inv : IV}
theorem xm6 {n:FuncId} {pv:SPatL β} {g:β->Bool×AV} (h:∀ b r,g b=(true,r)->Good P Inv n (pv.enc b) r):OcOk P Inv n (ocOf pv g):=fun xs r e=>by
 unfold ocOf at e;split at e
 . rename_i b hb;simp only [z6] at e;obtain ⟨h1,h2⟩:=h b r e;exact ⟨h1,fun w A vs hi ha hr=>h2 w A vs hi ha (xM8 (pv.ok _ _ hb) hr)⟩
 . simp at e
theorem xrA {n:FuncId} {pv:SPatL β} {pb:Pat (List Box) γ} {g:β->γ->Bool×AV×List Box} (h:∀ b c r H',g b c=(true,r,H')->GoodM P Inv n (pv.enc b) (pb.enc c) r H'):OmOk P Inv n (omOf pv pb g):=fun xs H r H' e=>by
 unfold omOf at e;split at e
 . rename_i b hb;split at e
   . rename_i c hc;simp only [z6] at e;rw [pb.ok _ _ hc];obtain ⟨h1,h2⟩:=h b c r H' e;exact ⟨h1,fun w0 w A M vs hi q hR hr=>h2 w0 w A M vs hi q hR (xM8 (pv.ok _ _ hb) hr)⟩
   . simp at e
 . simp at e
theorem xRi {nt:Nat} {l:Code} {live liveO:List Nat} {conv:List (Nat×Nat×TypeId)} {pv:Pat (List AV) β} {pb:Pat (List Box) γ} {g:β->γ->Bool×LR}
  (h:∀ b c r,g b c=(true,r)->DoesL P Inv l (fun e1 s1=>e1=r.eval.1/\s1=⟨mkTs nt (liveO.zip r.eval.2.1),r.eval.2.2⟩) ⟨mkTs nt (live.zip (pv.enc b)),pb.enc c⟩):LoopOk P Inv nt l (lpOf live liveO conv pv pb g):=fun vals H r e=>by
 unfold lpOf at e;dsimp only at e;split at e
 . rename_i b hb;split at e
   . rename_i c hc;simp only [z6] at e;rw [pv.ok _ _ hb,pb.ok _ _ hc];exact h b c r e
   . simp at e
 . simp at e
end
theorem xcf {x:Option α} {d:α} (h:x.isSome=true):x=some (x.getD d):=by
 cases x with
 | none=>simp at h
 | some y=>rfl
end Go.Sim
end
noncomputable section
namespace Go.Sim
open Go.RowKit
def EncS {α:Type} (f:α->AV) (a:Option α) (b:Option AV):Prop:=∀ r,a=some r->∃ x,b=some x/\Sub x (f r)
theorem EncS.none {α:Type} {f:α->AV} {b:Option AV}:EncS f .none b:=fun r h=>by simp at h
theorem EncS.some {α:Type} {f:α->AV} {a:α} {b:AV} (h:Sub b (f a)):EncS f (Option.some a) (Option.some b):=fun r e=>by cases e;exact ⟨b,rfl,h⟩
theorem EncS.br {α:Type} {f:α->AV} {t:Bool} {a a':Option α} {b b':Option AV} (h1:EncS f a b) (h2:EncS f a' b'):EncS f (Sim.br t a a') (Sim.br t b b'):=by cases t<;>assumption
theorem xCo (sz:Nat) (x:AV):Sub (.tuple [.nils,x]) (.tuple [.list sz [],x]):=fun w A M v h=>by
 obtain ⟨vs,rfl,hs,hr⟩:=h.tuple_inv;refine .tuple vs _ hs fun i hi=>?_
 match i,hi with
 | 0,_=>exact xB9 sz w A M _ (hr 0 (by simp))
 | 1,_=>exact hr 1 (by simp)
theorem Good.sub {P:Program} {Inv:IV} {f:FuncId} {q:List AV} {r r':AV} (h:Good P Inv f q r) (hs:Sub r r'):Good P Inv f q r' :=
 ⟨h.1,fun w A vs hI hA J=>(h.2 w A vs hI hA J).mono fun e w' ⟨v,he,hb,hr⟩=>⟨v,he,hb,hs w' A xTC v hr⟩⟩
theorem GoodM.bump1 {P:Program} {Inv:IV} {f:FuncId} {Q:List AV} {H:List Box} {v v' k sz:Nat} {ty:TypeId} {xs:List AV} {frz pm:Bool} (U:isC ty=false) (hv:v<v')
  (h:GoodM P Inv f Q H (.osl (.b 0) v 0 k) [⟨v,sz,ty,xs,frz,pm⟩]):GoodM P Inv f Q H (.osl (.b 0) v' 0 k) [⟨v',sz,ty,xs,frz,pm⟩]:=by
 refine ⟨h.1,fun w0 w A M vs hI hB hR Y=>(h.2 w0 w A M vs hI hB hR Y).mono ?_⟩
 rintro e w' ⟨u,A',M',rfl,h1,h2,h3,h4,h5⟩;obtain ⟨m,g1,g2,g3,g4⟩:=Rel.osl_inv h5;obtain ⟨bx,q1,q2⟩:=h4.box _ m g1;have:bx=⟨v,sz,ty,xs,frz,pm⟩:=by
  have:=q1;rw [xcj] at this;simpa using this.symm
 subst this;have V:v=m.ver:=q2.ver;have O:MExt M' (MSet M' (.b 0) ⟨m.b,v',m.sz,m.cap,m.ty⟩):=xwt g1 (.inr (by simp only;omega))
 have J:∀ id m1,MSet M' (.b 0) ⟨m.b,v',m.sz,m.cap,m.ty⟩ id=some m1->∃ m0,M' id=some m0/\m1.b=m0.b/\m1.cap=m0.cap:=fun id m1 q=>by
  by_cases hi:id=.b 0
  . subst hi;simp [MSet] at q;subst q;exact ⟨m,g1,rfl,rfl⟩
  . exact ⟨m1,by simpa [MSet,hi] using q,rfl,rfl⟩
 have hR':HR w' A' (MSet M' (.b 0) ⟨m.b,v',m.sz,m.cap,m.ty⟩) w0.heap.size [⟨v',sz,ty,xs,frz,pm⟩]:=by
  refine ⟨fun id m1 q=>?_,fun id id' m1 m2 k1 k2 c1 c2 he=>?_,h4.lt⟩
  . by_cases hi:id=.b 0
    . subst hi;have:m1=⟨m.b,v',m.sz,m.cap,m.ty⟩:=by simp [MSet] at q;exact q.symm
      subst this;have q3:=q2.mono (w':=w') (fun _=>rfl) (fun _ _ _=>rfl) (zd _) (fun _ _ h=>h) q2.guard O
      exact ⟨⟨v',sz,ty,xs,frz,pm⟩,rfl,rfl,q3.sz,q3.ty,q3.capm,q3.fits,q3.ok,q3.low,q3.lt,q3.cells,q3.guard⟩
    . have W:M' id=some m1:=by simpa [MSet,hi] using q
      obtain ⟨bx,k1,k2⟩:=h4.box id m1 W;have k3:getB [⟨v',sz,ty,xs,frz,pm⟩] id=some bx:=by
       rw [<-k1];exact xdh (H:=[⟨v,sz,ty,xs,frz,pm⟩]) (n:=0) (bx:=⟨v,sz,ty,xs,frz,pm⟩) (bx':=⟨v',sz,ty,xs,frz,pm⟩) rfl U U hi
      exact ⟨bx,k3,k2.mono (fun _=>rfl) (fun _ _ _=>rfl) (zd _) (fun _ _ h=>h) k2.guard O⟩
  . obtain ⟨n1,a1,a2,a3⟩:=J id m1 k1;obtain ⟨n2,b1,b2,b3⟩:=J id' m2 k2;exact h4.inj id id' n1 n2 a1 b1 (by omega) (by omega) (by rw [<-a2,<-b2,he])
 refine ⟨u,A',MSet M' (.b 0) ⟨m.b,v',m.sz,m.cap,m.ty⟩,rfl,h1,h2,h3.step ⟨zd _,fun _ _ _=>rfl,fun _ _ h=>h,fun _ _ h _=>h,O,⟨fun _ _ _=>rfl,fun id m1 q h0=>?_⟩⟩,hR',?_⟩
 . obtain ⟨n1,a1,a2,a3⟩:=J id m1 q;exact .inl ⟨id,n1,a1,by omega,a2⟩
 . exact .osl u (.b 0) v' 0 k ⟨m.b,v',m.sz,m.cap,m.ty⟩ (by simp [MSet]) (zd _) g3 fun _=>g4 V
theorem GoodM.weaken {P:Program} {Inv:IV} {f:FuncId} {q:List AV} {H H1 H2:List Box} {r r2:AV} (h:GoodM P Inv f q H r H1)
  (hw:∀ w A M B v,HR w A M B H1->Rel w A M v r->∃ M',HR w A M' B H2/\Mv w A M w A M'/\Rel w A M' v r2):GoodM P Inv f q H r2 H2:=by
 refine ⟨h.1,fun w0 w A M vs hI hB hR J=>(h.2 w0 w A M vs hI hB hR J).mono ?_⟩
 rintro e w' ⟨u,A',M',rfl,h1,h2,h3,h4,h5⟩;obtain ⟨M2,g1,g2,g3⟩:=hw w' A' M' _ u h4 h5;exact ⟨u,A',M2,rfl,h1,h2,h3.step g2,g1,g3⟩
theorem xMo {w:World} {A:Nat->Prop} {M:Id->Option MB} {B:Nat} {H:List Box} (hR:HR w A M B H) {n:Nat} {m:MB} {bx:Box} (hm:M (.b n)=some m) (hb:H[n]?=some bx) (Q:isC bx.ty=false) (v:Nat) (hv:m.ver<v) (sz:Nat) (ty:TypeId) (O:isC ty=false) :
  HR w A (MSet M (.b n) ⟨m.b,v,sz,0,ty⟩) B (H.set n ⟨v,sz,ty,[],false,true⟩)/\Mv w A M w A (MSet M (.b n) ⟨m.b,v,sz,0,ty⟩):=by
 have J:MExt M (MSet M (.b n) ⟨m.b,v,sz,0,ty⟩):=xwt hm (.inr hv);have hc:∀ {p:Prop},0<(0:Nat)->p:=fun h=>absurd h (by omega)
 have q:∀ i m1,MSet M (.b n) ⟨m.b,v,sz,0,ty⟩ i=some m1->0<m1.cap->i≠.b n/\M i=some m1:=fun i m1 h1 h0=>by
  by_cases hi:i=.b n
  . subst hi;simp [MSet] at h1;subst h1;exact absurd h0 (by simp)
  . exact ⟨hi,by simpa [MSet,hi] using h1⟩
 refine ⟨⟨fun i m1 h1=>?_,fun i i' m1 m2 h1 h2 c1 c2 he=>hR.inj i i' m1 m2 (q i m1 h1 c1).2 (q i' m2 h2 c2).2 c1 c2 he,hR.lt⟩,⟨zd _,fun _ _ _=>rfl,fun _ _ h=>h,fun _ _ h _=>h,J,⟨fun _ _ _=>rfl,fun i m1 h1 h0=>.inl ⟨i,m1,(q i m1 h1 h0).2,h0,rfl⟩⟩⟩⟩
 by_cases hi:i=.b n
 . subst hi;have:m1=⟨m.b,v,sz,0,ty⟩:=by simp [MSet] at h1;exact h1.symm
   subst this;exact ⟨⟨v,sz,ty,[],false,true⟩,by rw [xcj,zL (xdW hb)],rfl,rfl,xbo O,zQ _,zQ _,fun x hx=>by simp at hx,hc,hc,hc,hc⟩
 . have V:M i=some m1:=by simpa [MSet,hi] using h1
   obtain ⟨U,g1,g2⟩:=hR.box i m1 V;exact ⟨U,by rw [xdh hb Q O hi];exact g1,g2.mono (fun _=>rfl) (fun _ _ _=>rfl) (zd _) (fun _ _ h=>h) g2.guard J⟩
theorem GoodM.drop0 {P:Program} {Inv:IV} {f:FuncId} {V:List AV} {H:List Box} {v v' w k sz O:Nat} {ty Q:TypeId} {xs ys:List AV} {frz pm U J:Bool} (q:isC ty=false) (hv:v<v')
  (h:GoodM P Inv f V H (.osl (.b 1) w 0 k) [⟨v,sz,ty,xs,frz,pm⟩,⟨w,O,Q,ys,U,J⟩]):GoodM P Inv f V H (.osl (.b 1) w 0 k) [⟨v',sz,ty,[],false,true⟩,⟨w,O,Q,ys,U,J⟩] :=
 h.weaken fun w1 A M B u hR hr=>by
  cases hm:M (.b 0) with
  | some m =>
   obtain ⟨bx,q1,q2⟩:=hR.box _ m hm;have hb:[(⟨v,sz,ty,xs,frz,pm⟩:Box),⟨w,O,Q,ys,U,J⟩][0]?=some ⟨v,sz,ty,xs,frz,pm⟩:=rfl;rw [xcj,hb] at q1;cases q1;obtain ⟨g1,g2⟩:=xMo hR hm hb q v' (by have:v=m.ver:=q2.ver;omega) sz ty q
   exact ⟨_,g1,g2,g2.rel hr⟩
  | none =>
   refine ⟨M,⟨fun i m W=>?_,hR.inj,hR.lt⟩,Mv.refl,hr⟩
   obtain ⟨bx,q1,q2⟩:=hR.box i m W;refine ⟨bx,?_,q2⟩;by_cases hi:i=.b 0
   . subst hi;rw [hm] at W;cases W
   . rw [<-q1];exact xdh (H:=[⟨v,sz,ty,xs,frz,pm⟩,⟨w,O,Q,ys,U,J⟩]) (n:=0) (bx:=⟨v,sz,ty,xs,frz,pm⟩) (bx':=⟨v',sz,ty,[],false,true⟩) rfl q q hi
theorem GoodM.move0 {P:Program} {Inv:IV} {f:FuncId} {Q:List AV} {H:List Box} {v v' w k sz:Nat} {ty:TypeId} {xs:List AV} {frz:Bool} (q:isC ty=false) (hv:v<v')
  (h:GoodM P Inv f Q H (.osl (.b 0) v 0 k) [⟨v,sz,ty,xs,frz,true⟩]):GoodM P Inv f Q H (.osl (.b 1) w 0 k) [⟨v',sz,ty,[],false,true⟩,⟨w,sz,ty,xs,frz,true⟩] :=
 h.weaken fun w1 A M B u hR hr=>by
  obtain ⟨m,g1,g2,g3,g4⟩:=Rel.osl_inv hr;obtain ⟨bx,q1,q2⟩:=hR.box _ m g1;have:bx=⟨v,sz,ty,xs,frz,true⟩:=by
   have:=q1;rw [xcj] at this;simpa using this.symm
  subst this;have V:v=m.ver:=q2.ver;have W:M (.b 1)=none:=by
   cases h1:M (.b 1) with
   | none=>rfl
   | some m1=>obtain ⟨b1,k1,_⟩:=hR.box _ m1 h1;rw [xcj] at k1;simp at k1
  have U:∀ n i j m1,M (.r n i j)=some m1->n=0:=fun n i j m1 h1=>by
   obtain ⟨b1,k1,_⟩:=hR.box _ m1 h1;obtain ⟨b0,k2,_⟩:=xuA k1;have:=xdW k2;simp at this;omega
  let M2:Id->Option MB:=MSet (MSet M (.b 0) ⟨m.b,v',sz,0,ty⟩) (.b 1) ⟨m.b,w,m.sz,m.cap,m.ty⟩;have e1:M2 (.b 1)=some ⟨m.b,w,m.sz,m.cap,m.ty⟩:=by simp [M2,MSet]
  have e0:M2 (.b 0)=some ⟨m.b,v',sz,0,ty⟩:=by simp [M2,MSet]
  have eo:∀ i,i≠.b 0->i≠.b 1->M2 i=M i:=fun i h0 h1=>by simp [M2,MSet,h0,h1]
  have O:MExt M M2:=fun i m1 h1=>by
   by_cases h0:i=.b 0
   . subst h0;rw [g1] at h1;cases h1;exact ⟨_,e0,.inr (by simp only;omega)⟩
   . by_cases h2:i=.b 1
     . subst h2;rw [W] at h1;cases h1
     . exact ⟨m1,by rw [eo i h0 h2];exact h1,.inl rfl⟩
  have J:∀ i m1,M2 i=some m1->0<m1.cap->i≠.b 0/\∃ i0 m0,M i0=some m0/\m0.b=m1.b/\m0.cap=m1.cap/\(i=.b 1->i0=.b 0)/\(i≠.b 1->i0=i):=fun i m1 h1 h0=>by
   by_cases hi:i=.b 0
   . subst hi;rw [e0] at h1;cases h1;exact absurd h0 (by simp)
   . refine ⟨hi,?_⟩;by_cases h2:i=.b 1
     . subst h2;rw [e1] at h1;cases h1;exact ⟨.b 0,m,g1,rfl,rfl,fun _=>rfl,fun h=>absurd rfl h⟩
     . rw [eo i hi h2] at h1;exact ⟨i,m1,h1,rfl,rfl,fun h=>absurd h h2,fun _=>rfl⟩
  refine ⟨M2,⟨fun i m1 h1=>?_,fun i i' m1 m2 h1 h2 c1 c2 he=>?_,hR.lt⟩,⟨zd _,fun _ _ _=>rfl,fun _ _ h=>h,fun _ _ h _=>h,O,⟨fun _ _ _=>rfl,fun i m1 h1 h0=>?_⟩⟩,?_⟩
  . by_cases hi:i=.b 0
    . subst hi;rw [e0] at h1;cases h1;have hc:∀ {p:Prop},0<(0:Nat)->p:=fun h=>absurd h (by omega)
      exact ⟨⟨v',sz,ty,[],false,true⟩,rfl,rfl,rfl,xbo q,zQ _,zQ _,fun x hx=>by simp at hx,hc,hc,hc,hc⟩
    . by_cases h2:i=.b 1
      . subst h2;rw [e1] at h1;cases h1;have q3:=q2.mono (w':=w1) (A':=A) (fun _=>rfl) (fun _ _ _=>rfl) (zd _) (fun _ _ h=>h) q2.guard O
        refine ⟨⟨w,sz,ty,xs,frz,true⟩,rfl,rfl,q3.sz,q3.ty,q3.capm,q3.fits,q3.ok,q3.low,q3.lt,fun h0=>?_,q3.guard⟩
        obtain ⟨c,c1,c2,c3⟩:=q3.cells h0;refine ⟨c,c1,c2,fun i j hi hj=>?_⟩
        have:=c3 i j hi hj;rw [xa3 q,xbN q] at this;rw [xa3 q,xbN (bx:=⟨w,sz,ty,xs,frz,true⟩) q];exact this
      . rw [eo i hi h2] at h1;obtain ⟨b1,k1,k2⟩:=hR.box i m1 h1;cases i with
        | b n =>
         rw [xcj] at k1;have:=xdW k1;have:n=0:=by simp at this;omega
         subst this;exact absurd rfl hi
        | r n a b =>
         have hn:=U n a b m1 h1;subst hn;rw [xfo (H:=[⟨v,sz,ty,xs,frz,true⟩]) (by rfl) q] at k1
         cases k1;exact ⟨tombB,xfo (by rfl) q,k2.mono (fun _=>rfl) (fun _ _ _=>rfl) (zd _) (fun _ _ h=>h) k2.guard O⟩
  . obtain ⟨a1,i0,n0,a2,a3,a4,a5,a6⟩:=J i m1 h1 c1;obtain ⟨b1,j0,n1,b2,b3,b4,b5,b6⟩:=J i' m2 h2 c2;have:=hR.inj i0 j0 n0 n1 a2 b2 (by omega) (by omega) (by rw [a3,b3,he])
    by_cases hi:i=.b 1
    . by_cases hj:i'=.b 1
      . rw [hi,hj]
      . rw [a5 hi,b6 hj] at this;exact absurd this.symm b1
    . by_cases hj:i'=.b 1
      . rw [a6 hi,b5 hj] at this;exact absurd this a1
      . rw [a6 hi,b6 hj] at this;exact this
  . obtain ⟨a1,i0,n0,a2,a3,a4,_,_⟩:=J i m1 h1 h0;exact .inl ⟨i0,n0,a2,by omega,a3.symm⟩
  . exact .osl u (.b 1) w 0 k ⟨m.b,w,m.sz,m.cap,m.ty⟩ e1 (zd _) g3 fun _=>g4 V
end Go.Sim
end
noncomputable section
namespace Go.Sim.M
open Go.RowKit Go.Proofs
noncomputable def EB:Env:=Env.none
theorem xRC:xTo Tryz.prog xT5 EB:=xE7
end Go.Sim.M
end
noncomputable section
namespace Go.Sim
open Go.RowKit Go.Proofs
noncomputable abbrev P0:Program:=Tryz.prog
section
variable {α β γ ρ σ : Type}
def qI:Pat AV Int:=pInt .i64
def qL (k:Nat):Pat AV (List AV):=xUq k xUa
def qB {β:Type} (v s t:Nat) (q:Pat (List AV) β):Pat Box β:=xUn v s t false true q
def bF (v s t:Nat) (x:List AV):Box:=⟨v,s,t,x,false,true⟩
def uI:SPat Int:=sEq qI
def uL (k:Nat):SPat (List AV):=xUo k xUa
def q1 {α α0:Type} (a:Pat α α0):Pat (List α) (α0×Unit):=xT6 a (xT8)
def q2 {α α0 α1:Type} (a:Pat α α0) (b:Pat α α1):Pat (List α) (α0×α1×Unit):=xT6 a (xT6 b (xT8))
def q3 {α α0 α1 α2:Type} (a:Pat α α0) (b:Pat α α1) (c:Pat α α2):Pat (List α) (α0×α1×α2×Unit):=xT6 a (xT6 b (xT6 c (xT8)))
def q4 {α α0 α1 α2 α3:Type} (a:Pat α α0) (b:Pat α α1) (c:Pat α α2) (d:Pat α α3):Pat (List α) (α0×α1×α2×α3×Unit):=xT6 a (xT6 b (xT6 c (xT6 d (xT8))))
def q5 {α α0 α1 α2 α3 α4:Type} (a:Pat α α0) (b:Pat α α1) (c:Pat α α2) (d:Pat α α3) (e:Pat α α4):Pat (List α) (α0×α1×α2×α3×α4×Unit):=xT6 a (xT6 b (xT6 c (xT6 d (xT6 e (xT8)))))
def q6 {α α0 α1 α2 α3 α4 α5:Type} (a:Pat α α0) (b:Pat α α1) (c:Pat α α2) (d:Pat α α3) (e:Pat α α4) (f:Pat α α5):Pat (List α) (α0×α1×α2×α3×α4×α5×Unit):=xT6 a (xT6 b (xT6 c (xT6 d (xT6 e (xT6 f (xT8))))))
def q7 {α α0 α1 α2 α3 α4 α5 α6:Type} (a:Pat α α0) (b:Pat α α1) (c:Pat α α2) (d:Pat α α3) (e:Pat α α4) (f:Pat α α5) (g:Pat α α6):Pat (List α) (α0×α1×α2×α3×α4×α5×α6×Unit):=xT6 a (xT6 b (xT6 c (xT6 d (xT6 e (xT6 f (xT6 g (xT8)))))))
def q8 {α α0 α1 α2 α3 α4 α5 α6 α7:Type} (a:Pat α α0) (b:Pat α α1) (c:Pat α α2) (d:Pat α α3) (e:Pat α α4) (f:Pat α α5) (g:Pat α α6) (h:Pat α α7):Pat (List α) (α0×α1×α2×α3×α4×α5×α6×α7×Unit):=xT6 a (xT6 b (xT6 c (xT6 d (xT6 e (xT6 f (xT6 g (xT6 h (xT8))))))))
def q9 {α α0 α1 α2 α3 α4 α5 α6 α7 α8:Type} (a:Pat α α0) (b:Pat α α1) (c:Pat α α2) (d:Pat α α3) (e:Pat α α4) (f:Pat α α5) (g:Pat α α6) (h:Pat α α7) (i:Pat α α8):Pat (List α) (α0×α1×α2×α3×α4×α5×α6×α7×α8×Unit):=xT6 a (xT6 b (xT6 c (xT6 d (xT6 e (xT6 f (xT6 g (xT6 h (xT6 i (xT8)))))))))
def q10 {α α0 α1 α2 α3 α4 α5 α6 α7 α8 α9:Type} (a:Pat α α0) (b:Pat α α1) (c:Pat α α2) (d:Pat α α3) (e:Pat α α4) (f:Pat α α5) (g:Pat α α6) (h:Pat α α7) (i:Pat α α8) (j:Pat α α9):Pat (List α) (α0×α1×α2×α3×α4×α5×α6×α7×α8×α9×Unit):=xT6 a (xT6 b (xT6 c (xT6 d (xT6 e (xT6 f (xT6 g (xT6 h (xT6 i (xT6 j (xT8))))))))))
def u1 {α0:Type} (a:SPat α0):SPatL (α0×Unit):=xT7 a (xT9)
def u2 {α0 α1:Type} (a:SPat α0) (b:SPat α1):SPatL (α0×α1×Unit):=xT7 a (xT7 b (xT9))
def u3 {α0 α1 α2:Type} (a:SPat α0) (b:SPat α1) (c:SPat α2):SPatL (α0×α1×α2×Unit):=xT7 a (xT7 b (xT7 c (xT9)))
def u4 {α0 α1 α2 α3:Type} (a:SPat α0) (b:SPat α1) (c:SPat α2) (d:SPat α3):SPatL (α0×α1×α2×α3×Unit):=xT7 a (xT7 b (xT7 c (xT7 d (xT9))))
def u5 {α0 α1 α2 α3 α4:Type} (a:SPat α0) (b:SPat α1) (c:SPat α2) (d:SPat α3) (e:SPat α4):SPatL (α0×α1×α2×α3×α4×Unit):=xT7 a (xT7 b (xT7 c (xT7 d (xT7 e (xT9)))))
def u6 {α0 α1 α2 α3 α4 α5:Type} (a:SPat α0) (b:SPat α1) (c:SPat α2) (d:SPat α3) (e:SPat α4) (f:SPat α5):SPatL (α0×α1×α2×α3×α4×α5×Unit):=xT7 a (xT7 b (xT7 c (xT7 d (xT7 e (xT7 f (xT9))))))
def u7 {α0 α1 α2 α3 α4 α5 α6:Type} (a:SPat α0) (b:SPat α1) (c:SPat α2) (d:SPat α3) (e:SPat α4) (f:SPat α5) (g:SPat α6):SPatL (α0×α1×α2×α3×α4×α5×α6×Unit):=xT7 a (xT7 b (xT7 c (xT7 d (xT7 e (xT7 f (xT7 g (xT9)))))))
def LR.okB:LR->Bool
 | .leaf e _ _=>match e with|.normal=>false|_=>true
 | .node _ a b=>a.okB&&b.okB
theorem LR.okB_ne:∀ {r:LR},r.okB=true->r.eval.1≠.normal
 | .leaf e _ _,h=>fun c=>by
  have c:e=.normal:=c;subst c;simp [LR.okB] at h
 | .node true a b,h=>LR.okB_ne (r:=a) (by simp only [LR.okB,zf] at h;exact h.1)
 | .node false a b,h=>LR.okB_ne (r:=b) (by simp only [LR.okB,zf] at h;exact h.2)
abbrev StT (σ ρ:Type):=σ->Option (σ⊕ρ)
def inL {σ ρ:Type} (s:σ):Option (σ⊕ρ):=some (.inl s)
def inR {σ ρ:Type} (p:ρ):Option (σ⊕ρ):=some (.inr p)
def ixI (l:List AV) (i:Int):Bool:=decide ((0:Int)<=i)&&decide (i<(↑l.length:Int))
def ixS (l:List AV) (i:Int) (s:Sh) (k:Nat):Bool:=decide (i.toNat<l.length)&&xTm s ((l.getD i.toNat .top).cells.getD k .top)
def ixT (l:List AV) (i:Int) (n:Nat) (ss:List Sh) (k:Nat):Bool:=decide (i.toNat<l.length)&&((l.getD i.toNat .top).cells.length==n&&xTt ss (l.getD i.toNat .top).cells k)
def gC (l:List AV) (i:Int) (k:Nat):AV:=(l.getD i.toNat .top).cells.getD k .top
def rmB (n:Nat) (l:List AV) (c z:Nat):Bool:=n==l.length&&(decide ((n+c)*z<=140737488355328)&&decide (n+c<=4611686018427387904))
abbrev RT:=Exit×List AV×List Box
abbrev HL (E:Env) (nt pin:Nat) (ls:List TypeId) (lp:List (Nat×Lp)) (fn:Func):Prop:=LoOk Tryz.prog (xT5.at pin) (E.fn nt pin (lsOf ls) (xTL lp)) (fn.body.getD .skip)
abbrev FX (E:Env) (nt pin:Nat) (ls:List TypeId) (lp:List (Nat×Lp)) (fn:Func) (pv:SPatL β) (t:β->(T:Type)->T->(ρ->T)->T) (e:β->ρ->AV):Prop:=∀ b,XF Tryz.prog (E.fn nt pin (lsOf ls) (xTL lp)) fn (fn.body.getD .skip) (pv.enc b)=t b (Option AV) none fun p=>some (e b p)
abbrev FE (t:β->(T:Type)->T->(ρ->T)->T) (e:β->ρ->AV):Prop:=∀ b,Enc (e b) (t b (Option ρ) none some) (t b (Option AV) none fun p=>some (e b p))
abbrev MX (E:Env) (nt pin:Nat) (ls:List TypeId) (lp:List (Nat×Lp)) (fn:Func) (pv:SPatL β) (pb:Pat (List Box) γ) (t:β->γ->(T:Type)->T->(ρ->T)->T) (e:β->γ->ρ->AV×List Box):Prop:=∀ b c,XFM Tryz.prog (E.fn nt pin (lsOf ls) (xTL lp)) fn (fn.body.getD .skip) (pv.enc b) (pb.enc c)=t b c (Option (AV×List Box)) none fun p=>some (e b c p)
abbrev ME (t:β->γ->(T:Type)->T->(ρ->T)->T) (e:β->γ->ρ->AV×List Box):Prop:=∀ b c,Enc (e b c) (t b c (Option ρ) none some) (t b c (Option (AV×List Box)) none fun p=>some (e b c p))
abbrev TX (E:Env) (nt pin:Nat) (ls:List TypeId) (lp:List (Nat×Lp)) (fn:Func) (pv:SPatL β) (t:β->(ρ->Option AV)->Option AV) (e:β->ρ->AV):Prop:=∀ b,XF Tryz.prog (E.fn nt pin (lsOf ls) (xTL lp)) fn (fn.body.getD .skip) (pv.enc b)=t b fun p=>some (e b p)
noncomputable abbrev LX (E:Env) (nt pin:Nat) (ls:List TypeId) (lp:List (Nat×Lp)) (l:Code) (lv lo:List Nat) (cv:List (Nat×Nat×TypeId)) (pv:Pat (List AV) β) (pb:Pat (List Box) γ) (F:β->γ->(σ->Option (σ⊕ρ))×σ×(ρ->LR)) (G:β->γ->σ->(β×γ)×((σ->Option RT)->(ρ->Option RT)->Option RT)):Prop:=∀ b c s,XR Tryz.prog (E.fn nt pin (lsOf ls) (xTL lp)) lv lo cv l (pv.enc (G b c s).1.1) (pb.enc (G b c s).1.2)=(G b c s).2 (fun s=>some (encR (fun s=>(pv.enc (G b c s).1.1,pb.enc (G b c s).1.2)) (F b c).2.2 (.inl s))) fun p=>some (encR (fun s=>(pv.enc (G b c s).1.1,pb.enc (G b c s).1.2)) (F b c).2.2 (.inr p))
abbrev LE (pv:Pat (List AV) β) (pb:Pat (List Box) γ) (F:β->γ->(σ->Option (σ⊕ρ))×σ×(ρ->LR)) (G:β->γ->σ->(β×γ)×((σ->Option RT)->(ρ->Option RT)->Option RT)):Prop:=∀ b c s,Enc (encR (fun s=>(pv.enc (G b c s).1.1,pb.enc (G b c s).1.2)) (F b c).2.2) ((F b c).1 s) ((G b c s).2 (fun s=>some (encR (fun s=>(pv.enc (G b c s).1.1,pb.enc (G b c s).1.2)) (F b c).2.2 (.inl s))) fun p=>some (encR (fun s=>(pv.enc (G b c s).1.1,pb.enc (G b c s).1.2)) (F b c).2.2 (.inr p)))
theorem eV {f:α->β} {a:Option α} {b:Option β} (Y:Option β) (h:b=Y) (he:Enc f a Y):Enc f a b:=h▸he
abbrev LA:=List AV
theorem lkN {P:Program} {Inv:IV} {E:Env}:∀ c,c∈([]:List Code)->∀ lp,E.lp (xTD c)=some lp->LoopOk P Inv E.nt c lp:=fun c h=>by simp at h
theorem lkC {P:Program} {Inv:IV} {E:Env} {l:Code} {ls:List Code} {lp0:Lp} (hok:LoopOk P Inv E.nt l lp0) (ht:∀ c,c∈ls->∀ lp,E.lp (xTD c)=some lp->LoopOk P Inv E.nt c lp) (h:E.lp (xTD l)=some lp0:=by kernel_rfl):∀ c,c∈l::ls->∀ lp,E.lp (xTD c)=some lp->LoopOk P Inv E.nt c lp:=fun c hc lp hs=>by
 rcases zC.1 hc with rfl|hc
 . rw [h,z6] at hs;subst hs;exact hok
 . exact ht c hc lp hs
theorem eN {f:α->β} {b:Option β}:Enc f none b:=Enc.none
theorem eS {f:α->β} {a:α} {b:β} (h:b=f a):Enc f (some a) (some b):=Enc.some h
theorem eB {f:α->β} {t:Bool} {a a':Option α} {b b':Option β} (h1:Enc f a b) (h2:Enc f a' b'):Enc f (br t a a') (br t b b'):=Enc.br h1 h2
def fnO (pv:SPatL β) (t:β->(T:Type)->T->(ρ->T)->T) (e:β->ρ->AV) (d:ρ):List AV->Option (Bool×AV):=ocOf pv fun b=>((t b (Option ρ) none some).isSome,e b ((t b (Option ρ) none some).getD d))
def fmO (pv:SPatL β) (pb:Pat (List Box) γ) (t:β->γ->(T:Type)->T->(ρ->T)->T) (e:β->γ->ρ->AV×List Box) (d:ρ):List AV->List Box->Option (Bool×AV×List Box):=omOf pv pb fun b c=>((t b c (Option ρ) none some).isSome,e b c ((t b c (Option ρ) none some).getD d))
noncomputable def lpO (lv lo:List Nat) (cv:List (Nat×Nat×TypeId)) (pv:Pat (List AV) β) (pb:Pat (List Box) γ) (F:β->γ->(σ->Option (σ⊕ρ))×σ×(ρ->LR)) (d:ρ):Lp :=
 lpOf lv lo cv pv pb fun b c=>((Iter (F b c).1 (F b c).2.1).isSome,(F b c).2.2 ((Iter (F b c).1 (F b c).2.1).getD d))
section
variable {E : Env}
def Tot {α:Type} (e:ρ->α) (a:ρ) (x:Option α):Prop:=x=some (e a)
theorem eT {α:Type} {e:ρ->α} {t:Bool} {a b:ρ} {x y:Option α} (h1:Tot e a x) (h2:Tot e b y):Tot e (br t a b) (br t x y):=by cases t<;>assumption
theorem eU {α:Type} {e:ρ->α} {a:ρ} {x:α} (h:x=e a):Tot e a (some x):=congrArg some h
def ftO (pv:SPatL β) (f:β->ρ) (e:β->ρ->AV):List AV->Option (Bool×AV):=ocOf pv fun b=>(true,e b (f b))
theorem ftC (h:xTo Tryz.prog xT5 E) {g:FuncId} {fn:Func} (hf:Tryz.prog.funcs[g]?=some fn) (nt pin:Nat) (ls:List TypeId) (lp:List (Nat×Lp)) {pv:SPatL β} {f:β->ρ} {e:β->ρ->AV}
  (hl:HL E nt pin ls lp fn) (t:β->(ρ->Option AV)->Option AV) (hx:TX E nt pin ls lp fn pv t e:=by intro b;kernel_rfl)
  (he:∀ b,Tot (e b) (f b) (t b fun p=>some (e b p)):=by intro b;repeat' first|apply eT|exact eU rfl)
  (hb:fn.body.isSome=true:=by exact rfl) (hn:(fn.name == "runtime.NumGoroutine")=false:=by kernel_rfl):OcOk Tryz.prog xT5 g (ftO pv f e):=xm6 fun b r hh=>by
 obtain ⟨_,h2⟩:=Prod.mk.inj hh;subst h2;exact xdX (p:=pin) (xgd xTy (xTz Tryz.prog _) rfl h.fn hf hb hn hl ((hx b).trans (he b)))
theorem lk0 {Inv:IV} {c:Code} (h:xTI c=[]:=by kernel_rfl) (hc:((xTE c).all fun d=>(E.lp (condId d)).isNone)=true:=by kernel_rfl):LoOk Tryz.prog Inv E c:=xtq h hc
theorem lk1 {Inv:IV} {c l:Code} {lp0:Lp} (hok:LoopOk Tryz.prog Inv E.nt l lp0) (h:xTI c=[l]:=by kernel_rfl) (he:E.lp (xTD l)=some lp0:=by kernel_rfl) (hc:((xTE c).all fun d=>(E.lp (condId d)).isNone)=true:=by kernel_rfl):LoOk Tryz.prog Inv E c:=xgT h (lkC hok lkN he) hc
structure EO where
 E:Env
 ok:xTo Tryz.prog xT5 E
def EO.w (e:EO) {g:FuncId} {o:List AV->Option (Bool×AV)} (c:OcOk Tryz.prog xT5 g o):EO:=⟨e.E.with g o,e.ok.with c⟩
def EO.wM (e:EO) {g:FuncId} {o:List AV->List Box->Option (Bool×AV×List Box)} (c:OmOk Tryz.prog xT5 g o):EO:=⟨e.E.withM g o,e.ok.withM c⟩
theorem fnC (h:xTo Tryz.prog xT5 E) {g:FuncId} {fn:Func} (hf:Tryz.prog.funcs[g]?=some fn) (nt pin:Nat) (ls:List TypeId) (lp:List (Nat×Lp)) {pv:SPatL β} {t:β->(T:Type)->T->(ρ->T)->T} {e:β->ρ->AV} {d:ρ}
  (hl:HL E nt pin ls lp fn) (hx:FX E nt pin ls lp fn pv t e:=by intro b;kernel_rfl)
  (he:FE t e:=by intro b;repeat' first|apply eB|exact eN|exact eS rfl)
  (hb:fn.body.isSome=true:=by exact rfl) (hn:(fn.name == "runtime.NumGoroutine")=false:=by kernel_rfl):OcOk Tryz.prog xT5 g (fnO pv t e d):=xm6 fun b r hh=>by
 obtain ⟨h1,h2⟩:=Prod.mk.inj hh;subst h2;exact xdX (p:=pin) (xgd xTy (xTz Tryz.prog _) rfl h.fn hf hb hn hl ((hx b).trans (he b _ (xcf h1))))
theorem fmC (h:xTo Tryz.prog xT5 E) {g:FuncId} {fn:Func} (hf:Tryz.prog.funcs[g]?=some fn) (nt pin:Nat) (ls:List TypeId) (lp:List (Nat×Lp)) {pv:SPatL β} {pb:Pat (List Box) γ} {t:β->γ->(T:Type)->T->(ρ->T)->T} {e:β->γ->ρ->AV×List Box} {d:ρ}
  (hl:HL E nt pin ls lp fn) (hx:MX E nt pin ls lp fn pv pb t e:=by intro b c;kernel_rfl)
  (he:ME t e:=by intro b c;repeat' first|apply eB|exact eN|exact eS rfl)
  (hp:∀ c,(pb.enc c).length=pin:=by exact fun _=>rfl) (hb:fn.body.isSome=true:=by exact rfl) (hn:(fn.name == "runtime.NumGoroutine")=false:=by kernel_rfl):OmOk Tryz.prog xT5 g (fmO pv pb t e d):=xrA fun b c r H' hh=>by
 obtain ⟨h1,h2⟩:=Prod.mk.inj hh;exact xjv (p:=pin) (xkL xTy (xTz Tryz.prog _) rfl h.fn (hp c) hf hb hn hl (((hx b c).trans (he b c _ (xcf h1))).trans (congrArg some h2)))
theorem lpC (h:xTo Tryz.prog xT5 E) (nt pin:Nat) (ls:List TypeId) (lp:List (Nat×Lp)) {l:Code} {lv lo:List Nat} {cv:List (Nat×Nat×TypeId)} {pv:Pat (List AV) β} {pb:Pat (List Box) γ} {F:β->γ->(σ->Option (σ⊕ρ))×σ×(ρ->LR)} {d:ρ}
  (hl:LoOk Tryz.prog (xT5.at pin) (E.fn nt pin (lsOf ls) (xTL lp)) l) (G:β->γ->σ->(β×γ)×((σ->Option RT)->(ρ->Option RT)->Option RT))
  (hx:LX E nt pin ls lp l lv lo cv pv pb F G:=by intro b c s;kernel_rfl)
  (he:LE pv pb F G:=by intro b c s;repeat' first|apply eB|exact eN|exact eS rfl)
  (hM:∀ b c,(G b c (F b c).2.1).1=(b,c):=by exact fun _ _=>rfl) (ho:∀ b c r,((F b c).2.2 r).okB=true:=by exact fun _ _ _=>rfl):LoopOk Tryz.prog (xT5.at pin) nt l (lpO lv lo cv pv pb F d):=xRi fun b c r hh=>by
 obtain ⟨h1,h2⟩:=Prod.mk.inj hh;subst h2;have:=xEZ xTy (xTz Tryz.prog _) rfl (h.fn (nt:=nt) (pin:=pin) (ls:=lsOf ls) (lp:=xTL lp)) hl (fun s=>(pv.enc (G b c s).1.1,pb.enc (G b c s).1.2)) (F b c).2.2 (fun p=>LR.okB_ne (ho b c p)) (fun s r hr=>(hx b c s).trans (he b c s r hr)) (xcf (d:=d) h1)
 dsimp only at this;rw [hM b c] at this;exact this
structure LO (pin nt:Nat) (l:Code) where
 lp:Lp
 ok:LoopOk Tryz.prog (xT5.at pin) nt l lp
noncomputable def EO.f (x:EO) {g:FuncId} {fn:Func} (hf:Tryz.prog.funcs[g]?=some fn) (nt pin:Nat) (ls:List TypeId) (lp:List (Nat×Lp))
 (hl:HL x.E nt pin ls lp fn) (pv:SPatL β) (t:β->(T:Type)->T->(ρ->T)->T) (e:β->ρ->AV) (d:ρ) (hx:FX x.E nt pin ls lp fn pv t e:=by intro b;kernel_rfl)
 (he:FE t e:=by intro b;repeat' first|apply eB|exact eN|exact eS rfl)
 (hb:fn.body.isSome=true:=by exact rfl) (hn:(fn.name == "runtime.NumGoroutine")=false:=by kernel_rfl):EO:=x.w (fnC (d:=d) x.ok hf nt pin ls lp hl hx he hb hn)
noncomputable def EO.fM (x:EO) {g:FuncId} {fn:Func} (hf:Tryz.prog.funcs[g]?=some fn) (nt pin:Nat) (ls:List TypeId) (lp:List (Nat×Lp))
 (hl:HL x.E nt pin ls lp fn) (pv:SPatL β) (pb:Pat (List Box) γ) (t:β->γ->(T:Type)->T->(ρ->T)->T) (e:β->γ->ρ->AV×List Box) (d:ρ) (hx:MX x.E nt pin ls lp fn pv pb t e:=by intro b c;kernel_rfl)
 (he:ME t e:=by intro b c;repeat' first|apply eB|exact eN|exact eS rfl)
 (hp:∀ c,(pb.enc c).length=pin:=by exact fun _=>rfl) (hb:fn.body.isSome=true:=by exact rfl) (hn:(fn.name == "runtime.NumGoroutine")=false:=by kernel_rfl):EO:=x.wM (fmC (d:=d) x.ok hf nt pin ls lp hl hx he hp hb hn)
noncomputable def EO.fT (x:EO) {g:FuncId} {fn:Func} (hf:Tryz.prog.funcs[g]?=some fn) (nt pin:Nat) (ls:List TypeId) (lp:List (Nat×Lp))
 (hl:HL x.E nt pin ls lp fn) (t:β->(ρ->Option AV)->Option AV) (pv:SPatL β) (f:β->ρ) (e:β->ρ->AV) (hx:TX x.E nt pin ls lp fn pv t e:=by intro b;kernel_rfl)
 (he:∀ b,Tot (e b) (f b) (t b fun p=>some (e b p)):=by intro b;repeat' first|apply eT|exact eU rfl)
 (hb:fn.body.isSome=true:=by exact rfl) (hn:(fn.name == "runtime.NumGoroutine")=false:=by kernel_rfl):EO:=x.w (ftC x.ok hf nt pin ls lp hl t hx he hb hn)
noncomputable def EO.l (x:EO) (nt pin:Nat) (ls:List TypeId) (lp:List (Nat×Lp)) (fn:Func) (k:Nat) (hl:LoOk Tryz.prog (xT5.at pin) (x.E.fn nt pin (lsOf ls) (xTL lp)) (xTs fn k)) (lv lo:List Nat) (cv:List (Nat×Nat×TypeId)) (pv:Pat (List AV) β) (pb:Pat (List Box) γ) (F:β->γ->(σ->Option (σ⊕ρ))×σ×(ρ->LR)) (d:ρ)
 (G:β->γ->σ->(β×γ)×((σ->Option RT)->(ρ->Option RT)->Option RT))
 (hx:LX x.E nt pin ls lp (xTs fn k) lv lo cv pv pb F G:=by intro b c s;kernel_rfl)
 (he:LE pv pb F G:=by intro b c s;repeat' first|apply eB|exact eN|exact eS rfl)
 (hM:∀ b c,(G b c (F b c).2.1).1=(b,c):=by exact fun _ _=>rfl) (ho:∀ b c r,((F b c).2.2 r).okB=true:=by exact fun _ _ _=>rfl):LO pin nt (xTs fn k):=⟨lpO lv lo cv pv pb F d,lpC x.ok nt pin ls lp hl G hx he hM ho⟩
theorem lks {Inv:IV} {c:Code} {ls:List Code} (hl:∀ l,l∈ls->∀ lp,E.lp (xTD l)=some lp->LoopOk Tryz.prog Inv E.nt l lp) (h:xTI c=ls:=by kernel_rfl) (hc:((xTE c).all fun d=>(E.lp (condId d)).isNone)=true:=by kernel_rfl):LoOk Tryz.prog Inv E c:=xgT h hl hc
end
end
end Go.Sim
end
noncomputable section
namespace Go.Sim
theorem sUF:(∀ {σ ρ:Type} (s:σ),(inL s:Option (σ⊕ρ))=some (.inl s))/\(∀ {σ ρ:Type} (p:ρ),(inR p:Option (σ⊕ρ))=some (.inr p))/\(∀ (l:List AV) (i:Int),ixI l i=(decide ((0:Int)<=i)&&decide (i<(↑l.length:Int))))/\(∀ (l:List AV) (i:Int) (s:Sh) (k:Nat),ixS l i s k=(decide (i.toNat<l.length)&&xTm s ((l.getD i.toNat .top).cells.getD k .top)))/\(∀ (l:List AV) (i:Int) (n:Nat) (ss:List Sh) (k:Nat),ixT l i n ss k=(decide (i.toNat<l.length)&&((l.getD i.toNat .top).cells.length==n&&xTt ss (l.getD i.toNat .top).cells k)))/\(∀ (l:List AV) (i:Int) (k:Nat),gC l i k=(l.getD i.toNat .top).cells.getD k .top)/\(∀ (n:Nat) (l:List AV) (c z:Nat),rmB n l c z=(n==l.length&&(decide ((n+c)*z<=140737488355328)&&decide (n+c<=4611686018427387904)))) :=
 ⟨fun _=>rfl,fun _=>rfl,fun _ _=>rfl,fun _ _ _ _=>rfl,fun _ _ _ _ _=>rfl,fun _ _ _=>rfl,fun _ _ _ _=>rfl⟩
theorem sBU:((∀ {α β:Type} {l:List α} (f:α->β),(l.map f).length=l.length)/\(∀ {T:Type} {a b:T},br true a b=a)/\(∀ {T:Type} {a b:T},br false a b=b)/\(∀ (h:Decidable True),@decide True h=true)/\(∀ (h:Decidable False),@decide False h=false) /\
  (∀ b:Bool,(b&&true)=b)/\(∀ b:Bool,(true&&b)=b)/\((!true)=false)/\((!false)=true)/\(∀ n:Nat,(n:Int).toNat=n)/\(∀ n:Nat,(0:Int)<=(n:Int))/\(∀ {α:Type} {a:α},(some a).isSome=true)/\(∀ {α:Type} {a b:α},(some a).getD b=a) /\
  (∀ {α:Type} [BEq α] [ReflBEq α] (a:α),(a==a)=true)/\(∀ n:Nat,0+n=n)/\(∀ n:Nat,n - 0=n))/\(∀ {σ ρ:Type} (s:σ),(inL s:Option (σ⊕ρ))=some (.inl s))/\(∀ {σ ρ:Type} (p:ρ),(inR p:Option (σ⊕ρ))=some (.inr p))/\(∀ (l:List AV) (i:Int),ixI l i=(decide ((0:Int)<=i)&&decide (i<(↑l.length:Int))))/\(∀ (l:List AV) (i:Int) (s:Sh) (k:Nat),ixS l i s k=(decide (i.toNat<l.length)&&xTm s ((l.getD i.toNat .top).cells.getD k .top)))/\(∀ (l:List AV) (i:Int) (n:Nat) (ss:List Sh) (k:Nat),ixT l i n ss k=(decide (i.toNat<l.length)&&((l.getD i.toNat .top).cells.length==n&&xTt ss (l.getD i.toNat .top).cells k)))/\(∀ (l:List AV) (i:Int) (k:Nat),gC l i k=(l.getD i.toNat .top).cells.getD k .top)/\(∀ (n:Nat) (l:List AV) (c z:Nat),rmB n l c z=(n==l.length&&(decide ((n+c)*z<=140737488355328)&&decide (n+c<=4611686018427387904)))) :=
 ⟨⟨za,rfl,rfl,fun h=>by simp,fun h=>by simp,zS,Bool.true_and,rfl,rfl,zN,Int.natCast_nonneg,rfl,rfl,fun a=>beq_self_eq_true a,zH,Nat.sub_zero⟩,sUF⟩
theorem sOO:(∀ {α:Type} {l:List α},l.drop 0=l)/\(∀ {α:Type} {l:List α} {i:Nat},l.length<=i->l.take i=l)/\(∀ n:Nat,0+n=n)/\(∀ {α β:Type} {l:List α} (f:α->β),(l.map f).length=l.length)/\(∀ n:Nat,n<=n)/\(∀ (h:Decidable True),@decide True h=true)/\(∀ b:Bool,(b&&true)=b)/\(∀ {T:Type} {a b:T},br true a b=a) /\
  (∀ {α:Type} {a:α},(some a).isSome=true)/\(∀ {α:Type} {a b:α},(some a).getD b=a) :=
 ⟨zr,zi,zH,za,zd,fun h=>by simp,zS,rfl,rfl,rfl⟩
end Go.Sim
noncomputable def Go.Sim.M.xRB:Go.Sim.EO:=Go.Sim.EO.mk Go.Sim.M.EB Go.Sim.M.xRC
end
noncomputable section
set_option maxRecDepth 100000
namespace Go.Sim.M
open Go.IntKind (i64 u64 u8)
open Go.RowKit Go.Proofs
def xe8 (a b:Int):Bool:=(br (decide (a>=0)) (br (decide (a<b)) ((decide (b<=1099511627776))) ((false))) ((false)))
def xF0 {T:Type} (a b:Int) (δ:T) (κ:Bool->T):T:=br (decide (a>=0)) (br (decide (a<b)) (κ (decide (b<=1099511627776))) (κ (false))) (κ (false))
def xHe:EO:=xRB.fT Tryz.func79 18 0 [] [] lk0 (fun ((a,b,_),_)=>xF0 a b none) (u1 (xUp (u2 uI uI))) (fun ((a,b,_),_)=>xe8 a b) (fun _ p=>(AV.bool p))
def xcN (a b c d:Int):Bool:=(br (xe8 a b) (br (xe8 c d) (br (decide (a<d)) ((decide (c<b))) ((false))) ((false))) ((false)))
def xrk:Env:=xHe.E.fn 29 1 (lsOf []) (xTL [])
theorem xFz:xTo P0 (xT5.at 1) xrk:=xHe.ok.fn
theorem xDz:LoOk P0 (xT5.at xrk.pin) xrk (Tryz.f82.body.getD .skip):=xtq (by kernel_rfl)
def xyY {T:Type} (k:Nat) (a n:Int) (b:LA) (δ:T) (κ:Bool×(Nat×LA)×(Nat×LA)->T):T:=br (rmB k b 1 16) (κ (false,(0,[]),(k+1,b++[AV.agg [AV.int .i64 a,AV.int .i64 n]]))) δ
def xBe {T:Type} (k:Nat) (b n:Int) (a:LA) (δ:T) (κ:Bool×(Nat×LA)×(Nat×LA)->T):T:=br (decide ((↑k:Int)>0)) (br (decide (0<=i64.wrap ((↑k:Int) - 1))&&decide (i64.wrap ((↑k:Int) - 1)<(↑k:Int))) (br (decide (0+(i64.wrap ((↑k:Int) - 1)).toNat<a.length)&&xTm (Sh.int .i64) ((a.getD (0+(i64.wrap ((↑k:Int) - 1)).toNat) .top).cells.getD 1 .top)) (br (((a.getD (0+(i64.wrap ((↑k:Int) - 1)).toNat) .top).cells.getD 1 .top).toInt==n) (κ (true,(k,a),(0,[]))) (xyY k b n a δ κ)) δ) δ) (xyY k b n a δ κ)
def xeQ (k:Nat) (a n:Int) (b:LA):=xBe k a n b none some
theorem xJm (k:Nat) (a n:Int) (xs:LA):Enc (fun (p:Bool×(Nat×LA)×(Nat×LA))=>((br p.1 ((AV.osl 0 0 0 p.2.1.1,([⟨0,2,86,p.2.1.2,false,true⟩]:List Box))) ((AV.osl 0 1 0 p.2.2.1,([⟨1,2,86,p.2.2.2,false,true⟩]:List Box)))):(AV×List Box))) (xeQ k a n xs) (XFM P0 xrk Tryz.f82 (Tryz.f82.body.getD .skip) [AV.osl (0:Id) 0 0 k,AV.int .i64 a,AV.int .i64 n] [{ ver:=0,sz:=2,ty:=(86:TypeId),xs:=xs,frz:=false,pm:=true }]):=by
 refine eV (xBe k a n xs none (fun (p:Bool×(Nat×LA)×(Nat×LA))=>some ((br p.1 ((AV.osl 0 0 0 p.2.1.1,([⟨0,2,86,p.2.1.2,false,true⟩]:List Box))) ((AV.osl 0 1 0 p.2.2.1,([⟨1,2,86,p.2.2.2,false,true⟩]:List Box)))):(AV×List Box)))) (by kernel_rfl) ?_;unfold xeQ xBe xyY;repeat' first|exact eN|exact eS rfl|apply eB
def xJl:LA->List Box->Option (Bool×AV×List Box):=omOf (xT7 (sEq (xUk 0 0 0)) (xT7 (sEq (pInt .i64)) (xT7 (sEq (pInt .i64)) xT9))) (xT6 (xUn 0 2 (86:TypeId) false true xUa) xT8) fun (k,(a,(n,_))) (b,_)=>((xeQ k a n b).isSome,(AV.osl 0 1 0 (br ((xeQ k a n b).getD (false,(0,[]),(0,[]))).1 ((xeQ k a n b).getD (false,(0,[]),(0,[]))).2.1.1 ((xeQ k a n b).getD (false,(0,[]),(0,[]))).2.2.1),([⟨1,2,86,(br ((xeQ k a n b).getD (false,(0,[]),(0,[]))).1 ((xeQ k a n b).getD (false,(0,[]),(0,[]))).2.1.2 ((xeQ k a n b).getD (false,(0,[]),(0,[]))).2.2.2),false,true⟩]:List Box)))
theorem xJk:OmOk P0 xT5 82 (xJl):=xrA fun e f j i g=>by
 obtain ⟨k,⟨b,⟨n,_⟩⟩⟩:=e;obtain ⟨h,_⟩:=f;obtain ⟨c,a⟩:=Prod.mk.inj g;have hx:=xJm _ _ _ _ _ (xcf (d:=(false,(0,[]),(0,[]))) c);revert hx a;generalize ((xeQ k b n h).getD (false,(0,[]),(0,[])))=p;intro a hx;obtain ⟨rfl,rfl⟩:=Prod.mk.inj a;obtain ⟨t,⟨l,m⟩,o,q⟩:=p;have hg:GoodM P0 xT5 82 _ _ _ _:=xjv (p:=xrk.pin) (xkL xTy (xTz P0 _) rfl xFz rfl Tryz.func82 rfl (by kernel_rfl) xDz hx)
 cases t
 . exact hg
 . exact GoodM.bump1 rfl (by decide) hg
def xHf:EO:=xHe.wM xJk
def xij {T:Type} (l:LA) (n:Int) (b:Nat) (i:Int) (a:LA) (δ:T) (κl:(Nat×Int×LA)->T) (κr:(Nat×Int×LA)->T):T:=br (decide (i<l.length)) (br (ixI l i) (br (ixS l i (Sh.int .i64) 0) (br (decide ((gC l i 0).toInt<n)) (br (ixI l i) (br (ixS l i (Sh.int .i64) 0) (br (rmB b a 1 8) (κl (b+1,i64.wrap (i+1),a++[AV.int .i64 (gC l i 0).toInt])) δ) δ) δ) (κr (b,i,a))) δ) δ) (κr (b,i,a))
def xc3 (l:LA) (n:Int):StT (Nat×Int×LA) (Nat×Int×LA):=fun (b,i,a)=>xij l n b i a none inL inR
def xqD:=xHf.l 58 0 [] [] Tryz.f83 0 lk0 [0,1,5,6] [0,1,5,6] [(5,1,3)] (q4 (qL 1) qI (xUk 0 0 0) qI) (q1 (qB 0 1 3 xUa)) (fun (l,n,b,i,_) (a,_)=>(xc3 l n,(b,i,a),fun p=>(.leaf (.exit 0) [AV.list 1 l,AV.int .i64 n,AV.osl 0 0 0 p.1,AV.int .i64 p.2.1] [bF 0 1 3 p.2.2]))) (0,0,[]) fun (l,n,_,_,_) _ (b,i,a)=>(((l,n,b,i,()),(a,())),xij l n b i a none)
def xmr {T:Type} (l:LA) (b:Nat) (i:Int) (a:LA) (δ:T) (κl:(Nat×Int×LA)->T) (κr:(Nat×LA)->T):T:=br (decide (i<l.length)) (br (ixI l i) (br (ixS l i (Sh.int .i64) 0) (br (rmB b a 1 8) (κl (b+1,i64.wrap (i+1),a++[AV.int .i64 (gC l i 0).toInt])) δ) δ) δ) (κr (b,a))
def xc4 (l:LA):StT (Nat×Int×LA) (Nat×LA):=fun (b,i,a)=>xmr l b i a none inL inR
def xya:=xHf.l 58 0 [] [(3,xqD.lp)] Tryz.f83 1 lk0 [0,5,6] [5] [(5,1,3)] (q3 (qL 1) (xUk 0 0 0) qI) (q1 (qB 0 1 3 xUa)) (fun (l,b,i,_) (a,_)=>(xc4 l,(b,i,a),fun p=>(.leaf (.exit 2) [AV.osl 0 0 0 p.1] [bF 0 1 3 p.2]))) (0,[]) fun (l,_,_,_) _ (b,i,a)=>(((l,b,i,()),(a,())),xmr l b i a none)
def xjN (l:LA) (n:Int):=(Iter (xc3 l n) (0,0,[])).getD (0,0,[])
def xgW (l:LA) (n:Int):=(xjN l n).fst
def xjM (l:LA) (n:Int):=(xjN l n).snd
def xck (l:LA) (n:Int):=(xjM l n).fst
def xgU (l:LA) (n:Int):=xgW l n+1
def xgV (l:LA) (n:Int):=(xjM l n).snd
def xkR (l:LA) (n:Int):=Iter (xc4 l) (xgU l n,xck l n,xgV l n++[AV.int .i64 n])
def xkV (l:LA) (n:Int):=Iter (xc4 l) (xgW l n,xck l n,xgV l n)
def xog (l:LA) (n:Int):=xgW l n==(xgV l n).length
def xkQ (l:LA) (n:Int):=(xkR l n).getD (0,[])
def xpF (l:LA) (n:Int):=(xkR l n).isSome
def xkU (l:LA) (n:Int):=(xkV l n).getD (0,[])
def xkO (l:LA) (n:Int):=(xkQ l n).fst
def xkP (l:LA) (n:Int):=(xkQ l n).snd
def xkS (l:LA) (n:Int):=(xkU l n).fst
def xkT (l:LA) (n:Int):=(xkU l n).snd
def xtu {T:Type} (l:LA) (n:Int) (δ:T) (κ:LA->T):T:=br (xog l n&&(decide (xgU l n*8<=140737488355328)&&decide (xgU l n<=4611686018427387904))) (br (xpF l n) (br (decide (0+xkO l n<=(xkP l n).length)&&true) (κ (List.take (xkO l n) (List.drop 0 (xkP l n)))) δ) δ) δ
def xwv {T:Type} (l:LA) (n:Int) (δ:T) (κ:LA->T):T:=br ((Iter (xc3 l n) (0,0,[])).isSome) (br (xck l n==(↑l.length:Int)) (xtu l n δ κ) (br (decide (0<=xck l n)&&decide (xck l n<l.length)) (br (decide ((xck l n).toNat<l.length)&&xTm (Sh.int .i64) ((l.getD (xck l n).toNat .top).cells.getD 0 .top)) (br (decide (((l.getD (xck l n).toNat .top).cells.getD 0 .top).toInt>n)) (xtu l n δ κ) (br ((xkV l n).isSome) (br (decide (0+xkS l n<=(xkT l n).length)&&true) (κ (List.take (xkS l n) (List.drop 0 (xkT l n)))) δ) δ)) δ) δ)) δ
def xcI (l:LA) (n:Int):=xwv l n none some
def xQw:EO:=xHf.f Tryz.func83 58 0 [] [(3,xqD.lp),(8,xya.lp)] (lks (lkC xqD.ok (lkC xya.ok lkN))) (u2 (uL 1) uI) (fun (l,n,_) _=>xwv l n) (fun _ p=>AV.list 1 p) []
def xdj (a b:Int):Bool:=(br (decide (a>=0)) (br (decide (a<b)) ((decide (b<=1099511627776))) ((false))) ((false)))
def xG6 {T:Type} (a b:Int) (δ:T) (κ:Bool->T):T:=br (decide (a>=0)) (br (decide (a<b)) (κ (decide (b<=1099511627776))) (κ (false))) (κ (false))
def xQy:EO:=xQw.fT Tryz.func32 18 0 [] [] lk0 (fun ((a,b,_),_)=>xG6 a b none) (u1 (xUp (u2 uI uI))) (fun ((a,b,_),_)=>xdj a b) (fun _ p=>(AV.bool p))
def xm7 (a b t:Int):Bool:=(br (xdj a b) (br (decide (a<=t)) ((decide (t<b))) ((false))) ((false)))
def xEn {T:Type} (a b t:Int) (δ:T) (κ:Bool->T):T:=br (xdj a b) (br (decide (a<=t)) (κ (decide (t<b))) (κ (false))) (κ (false))
def xHg:EO:=xQy.fT Tryz.func33 19 0 [] [] lk0 (fun ((a,b,_),t,_)=>xEn a b t none) (u2 (xUp (u2 uI uI)) uI) (fun ((a,b,_),t,_)=>xm7 a b t) (fun _ p=>(AV.bool p))
def xqF:Env:=xHg.E.fn 28 1 (lsOf []) (xTL [])
theorem xFd:xTo P0 (xT5.at 1) xqF:=xHg.ok.fn
theorem xDw:LoOk P0 (xT5.at xqF.pin) xqF (Tryz.f84.body.getD .skip):=xtq (by kernel_rfl)
def xkD {T:Type} (k:Nat) (a n:Int) (b:LA) (δ:T) (κ:Bool×(Nat×LA)×(Nat×LA)->T):T:=br (rmB k b 1 16) (κ (false,(0,[]),(k+1,b++[AV.agg [AV.int .i64 a,AV.int .i64 n]]))) δ
def xoK {T:Type} (k:Nat) (a n:Int) (b:LA) (δ:T) (κ:Bool×(Nat×LA)×(Nat×LA)->T):T:=br (decide ((↑k:Int)>0)) (br (decide (0<=i64.wrap ((↑k:Int) - 1))&&decide (i64.wrap ((↑k:Int) - 1)<(↑k:Int))) (br (decide (0+(i64.wrap ((↑k:Int) - 1)).toNat<b.length)&&xTm (Sh.int .i64) ((b.getD (0+(i64.wrap ((↑k:Int) - 1)).toNat) .top).cells.getD 1 .top)) (br (((b.getD (0+(i64.wrap ((↑k:Int) - 1)).toNat) .top).cells.getD 1 .top).toInt==n) (κ (true,(k,b),(0,[]))) (xkD k a n b δ κ)) δ) δ) (xkD k a n b δ κ)
def xd0 (k:Nat) (a n:Int) (b:LA):=xoK k a n b none some
theorem xJa (k:Nat) (a n:Int) (xs:LA):Enc (fun (p:Bool×(Nat×LA)×(Nat×LA))=>((br p.1 ((AV.osl 0 0 0 p.2.1.1,([⟨0,2,86,p.2.1.2,false,true⟩]:List Box))) ((AV.osl 0 1 0 p.2.2.1,([⟨1,2,86,p.2.2.2,false,true⟩]:List Box)))):(AV×List Box))) (xd0 k a n xs) (XFM P0 xqF Tryz.f84 (Tryz.f84.body.getD .skip) [AV.osl (0:Id) 0 0 k,AV.int .i64 a,AV.int .i64 n] [{ ver:=0,sz:=2,ty:=(86:TypeId),xs:=xs,frz:=false,pm:=true }]):=by
 refine eV (xoK k a n xs none (fun (p:Bool×(Nat×LA)×(Nat×LA))=>some ((br p.1 ((AV.osl 0 0 0 p.2.1.1,([⟨0,2,86,p.2.1.2,false,true⟩]:List Box))) ((AV.osl 0 1 0 p.2.2.1,([⟨1,2,86,p.2.2.2,false,true⟩]:List Box)))):(AV×List Box)))) (by kernel_rfl) ?_;unfold xd0 xoK xkD;repeat' first|exact eN|exact eS rfl|apply eB
def xI9:LA->List Box->Option (Bool×AV×List Box):=omOf (xT7 (sEq (xUk 0 0 0)) (xT7 (sEq (pInt .i64)) (xT7 (sEq (pInt .i64)) xT9))) (xT6 (xUn 0 2 (86:TypeId) false true xUa) xT8) fun (k,(a,(n,_))) (b,_)=>((xd0 k a n b).isSome,(AV.osl 0 1 0 (br ((xd0 k a n b).getD (false,(0,[]),(0,[]))).1 ((xd0 k a n b).getD (false,(0,[]),(0,[]))).2.1.1 ((xd0 k a n b).getD (false,(0,[]),(0,[]))).2.2.1),([⟨1,2,86,(br ((xd0 k a n b).getD (false,(0,[]),(0,[]))).1 ((xd0 k a n b).getD (false,(0,[]),(0,[]))).2.1.2 ((xd0 k a n b).getD (false,(0,[]),(0,[]))).2.2.2),false,true⟩]:List Box)))
theorem xI8:OmOk P0 xT5 84 (xI9):=xrA fun e f j i g=>by
 obtain ⟨k,⟨b,⟨n,_⟩⟩⟩:=e;obtain ⟨h,_⟩:=f;obtain ⟨c,a⟩:=Prod.mk.inj g;have hx:=xJa _ _ _ _ _ (xcf (d:=(false,(0,[]),(0,[]))) c);revert hx a;generalize ((xd0 k b n h).getD (false,(0,[]),(0,[])))=p;intro a hx;obtain ⟨rfl,rfl⟩:=Prod.mk.inj a;obtain ⟨t,⟨l,m⟩,o,q⟩:=p;have hg:GoodM P0 xT5 84 _ _ _ _:=xjv (p:=xqF.pin) (xkL xTy (xTz P0 _) rfl xFd rfl Tryz.func84 rfl (by kernel_rfl) xDw hx)
 cases t
 . exact hg
 . exact GoodM.bump1 rfl (by decide) hg
def xEz:EO:=xHg.wM xI8
def xm9 (l:LA) (i:Int):=ixI l i
def xs2 {T:Type} (l a:LA) (i:Int) (δ:T) (κl:(LA×Int)->T) (κr:(LA)->T):T:=br (decide (i<l.length)) (br (xm9 l i) (br (ixT l i 3 [Sh.int .i64,Sh.int .i64] 0) (br (xdj (gC l i 0).toInt (gC l i 1).toInt) (br (xm9 l i) (br (ixS l i (Sh.int .i64) 0) (br ((xcI a (gC l i 0).toInt).isSome) (br (xm9 l i) (br (ixS l i (Sh.int .i64) 1) (br ((xcI ((xcI a (gC l i 0).toInt).getD []) (gC l i 1).toInt).isSome) (κl ((xcI ((xcI a (gC l i 0).toInt).getD []) (gC l i 1).toInt).getD [],i64.wrap (i+1))) δ) δ) δ) δ) δ) δ) (κl (a,i64.wrap (i+1)))) δ) δ) (κr (a))
def xgX (l:LA):StT (LA×Int) (LA):=fun (a,i)=>xs2 l a i none inL inR
def xrD:=xEz.l 82 0 [] [] Tryz.f48 0 lk0 [0,3,4] [0,3] [(3,1,1073741824)] (q3 (qL 3) (qL 1) qI) xT8 (fun (l,a,i,_) _=>(xgX l,(a,i),fun p=>(.leaf (.exit 0) [AV.list 3 l,AV.list 1 p] []))) [] fun (l,_,_,_) _ (a,i)=>(((l,a,i,()),()),xs2 l a i none)
def xs3 {T:Type} (l b:LA) (c:Nat) (k n i:Int) (a:LA) (δ:T) (κl:(Int×Int×LA)->T) (κr:(Int×LA)->T):T:=br (decide (i<l.length)) (br (ixI l i) (br (ixT l i 3 [Sh.int .i64,Sh.int .i64] 0) (br (ixI b k) (br (ixS b k (Sh.int .i64) 0) (br (xm7 (gC l i 0).toInt (gC l i 1).toInt (gC b k 0).toInt) (br (ixI l i) (br (ixS l i (Sh.int .i64) 2) (κl (i64.wrap (n+(gC l i 2).toInt),i64.wrap (i+1),a)) δ) δ) (κl (n,i64.wrap (i+1),a))) δ) δ) δ) δ) (κr (n,a))
def xgZ (l c:LA) (b:Nat) (k:Int):StT (Int×Int×LA) (Int×LA):=fun (n,i,a)=>xs3 l c b k n i a none inL inR
def xrE:=xEz.l 82 0 [] [(3,xrD.lp)] Tryz.f48 2 lk0 [0,3,5,6,7,8] [0,3,5,6,7] [(5,2,86),(3,1,1073741824)] (q6 (qL 3) (qL 1) (xUk 0 0 0) qI qI qI) (q1 (qB 0 2 86 xUa)) (fun (l,c,a,k,n,i,_) (b,_)=>(xgZ l c a k,(n,i,b),fun p=>(.leaf (.exit 4) [AV.list 3 l,AV.list 1 c,AV.osl 0 0 0 a,AV.int .i64 k,AV.int .i64 p.1] [bF 0 2 86 p.2]))) (0,[]) fun (l,c,a,k,_,_,_) _ (n,i,b)=>(((l,c,a,k,n,i,()),(b,())),xs3 l c a k n i b none)
def xng (l c:LA) (b:Nat) (k:Int) (a:LA):=(Iter (xgZ l c b k) (0,0,a)).getD (0,[])
def xnf (l c:LA) (a:Nat) (k:Int) (b:LA):=xd0 a (gC c k 0).toInt (xng l c a k b).fst (xng l c a k b).snd
def xne (l c:LA) (b:Nat) (k:Int) (a:LA):=(xnf l c b k a).getD (false,(0,[]),0,[])
def xnc (l c:LA) (b:Nat) (k:Int) (a:LA):=(xne l c b k a).fst
def xnd (l c:LA) (b:Nat) (k:Int) (a:LA):=(xne l c b k a).snd
def xna (l c:LA) (b:Nat) (k:Int) (a:LA):=(xnd l c b k a).fst
def xnb (l c:LA) (b:Nat) (k:Int) (a:LA):=(xnd l c b k a).snd
def xoE {T:Type} (l c:LA) (b:Nat) (k:Int) (a:LA) (δ:T) (κl:(Nat×Int×LA)->T) (κr:(Nat×LA)->T):T:=br (decide (k<c.length)) (br (ixI c k) (br (ixS c k (Sh.int .i64) 0) (br (decide ((gC c k 0).toInt<1099511627776)) (br ((Iter (xgZ l c b k) (0,0,a)).isSome) (br (ixI c k) (br (ixS c k (Sh.int .i64) 0) (br ((xnf l c b k a).isSome) (κl (br (xnc l c b k a) (xna l c b k a).fst (xnb l c b k a).fst,i64.wrap (k+1),br (xnc l c b k a) (xna l c b k a).snd (xnb l c b k a).snd)) δ) δ) δ) δ) (κr (b,a))) δ) δ) (κr (b,a))
def xgY (l c:LA):StT (Nat×Int×LA) (Nat×LA):=fun (b,k,a)=>xoE l c b k a none inL inR
def xBq:=xEz.l 82 0 [] [(3,xrD.lp),(14,xrE.lp)] Tryz.f48 1 (lk1 xrE.ok) [0,3,5,6] [5] [(5,2,86),(3,1,1073741824)] (q4 (qL 3) (qL 1) (xUk 0 0 0) qI) (q1 (qB 0 2 86 xUa)) (fun (l,c,b,k,_) (a,_)=>(xgY l c,(b,k,a),fun p=>(.leaf (.exit 2) [AV.osl 0 0 0 p.1] [bF 0 2 86 p.2]))) (0,[]) fun (l,c,_,_,_) _ (b,k,a)=>(((l,c,b,k,()),(a,())),xoE l c b k a none)
def xAQ (l:LA):=Iter (xgY l ((Iter (xgX l) ([AV.int .i64 0],0)).getD [])) (0,0,[])
def xAP (l:LA):=(xAQ l).getD (0,[])
def xAN (l:LA):=(xAP l).snd
def xAO (l:LA):=(xAP l).fst
def xBU {T:Type} (l:LA) (δ:T) (κ:LA->T):T:=br ((Iter (xgX l) ([AV.int .i64 0],0)).isSome) (br ((xAQ l).isSome) (br (decide (0+xAO l<=(xAN l).length)&&true) (κ (List.take (xAO l) (List.drop 0 (xAN l)))) δ) δ) δ
def xEq (l:LA):=xBU l none some
def xLC:EO:=xEz.f Tryz.func48 82 0 [] [(3,xrD.lp),(14,xrE.lp),(10,xBq.lp)] (lks (lkC xrD.ok (lkC xBq.ok (lkC xrE.ok lkN)))) (u1 (uL 3)) (fun (l,_) _=>xBU l) (fun _ p=>AV.list 2 p) []
def xrC (a b c d:Int):Bool:=(br (xdj a b) (br (xdj c d) (br (decide (a<d)) ((decide (c<b))) ((false))) ((false))) ((false)))
def xEo {T:Type} (a b c d:Int) (δ:T) (κ:Bool->T):T:=br (xdj a b) (br (xdj c d) (br (decide (a<d)) (κ (decide (c<b))) (κ (false))) (κ (false))) (κ (false))
def xzS:LA->Option (Bool×AV):=ftO (u2 (xUp (u2 uI uI)) (xUp (u2 uI uI))) (fun ((a,b,_),(c,d,_),_)=>xrC a b c d) (fun _ p=>(AV.bool p))
theorem xzR:OcOk P0 xT5 30 xzS:=ftC xLC.ok Tryz.func30 25 0 [] [] lk0 (fun ((a,b,_),(c,d,_),_)=>xEo a b c d none)
def xLD:EO:=xLC.w xzR
end Go.Sim.M
end
