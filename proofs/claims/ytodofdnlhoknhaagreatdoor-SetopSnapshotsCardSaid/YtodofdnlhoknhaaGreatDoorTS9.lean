/- Part 9. -/
import Derived.Test.YtodofdnlhoknhaaGreatDoorTS8
import Derived.Shelf.Strings.Builder1
import Derived.Shelf.Small.Bits
import Derived.Shelf.Small.Strs
import Derived.Shelf.Small.Wraps
import Derived.Shelf.Strings.BuilderF
import Derived.Shelf.Strings.BuilderK
import Derived.Shelf.Strconv.Itoa0
import Derived.Shelf.Strconv.Itoa1
import Derived.Shelf.LaysM
import Derived.Shelf.Strconv.Itoa2
import Derived.Shelf.Strconv.Itoa3
import Derived.Shelf.Strings.BuilderCap
set_option linter.all false
noncomputable section
namespace Go.Proofs
open Go.Shelf
def Tryz.lays106_ren:Go.Shelf.Ren:=⟨fun|106=>190|213=>207|265=>214|n=>n,fun|9=>9|3=>3|n=>n,fun|n=>n⟩
def Tryz.lays106:Go.Proofs.Lays.n106 Tryz.prog Tryz.lays106_ren:={
 mixed:=Θ
 f106:=Tryz.func190.trans Φ
 f213:=Tryz.func207.trans Φ
 f265:=Tryz.func214.trans Φ
 t3:=Tryz.underlying3
 a3:=Tryz.isAgg3
 z3:=Tryz.sizeOf3
 v3:=Tryz.zeroValue3
 t9:=Tryz.underlying9
 a9:=Tryz.isAgg9
 z9:=Tryz.sizeOf9
 v9:=Tryz.zeroValue9 }
open Go.RowKit in
def Tryz.strings_Compare(a b:ByteArray)(w:World):Calls Tryz.prog 190 #[.string a,.string b] w λ e w'=>e=.returned (.int .i64 (Lib.compareBytes a.data.toList b.data.toList))/\w'=w:=Any.strings_Compare Tryz.lays106 a b w
def Tryz.laysM171_ren:Go.Shelf.Ren:=⟨fun|171=>95|243=>131|246=>149|283=>175|284=>176|285=>177|286=>178|129=>160|317=>199|318=>200|319=>201|320=>202|337=>211|338=>212|n=>n,fun|3=>3|9=>9|2=>2|4=>4|171=>196|0=>0|53=>185|37=>109|5=>5|173=>198|212=>221|51=>183|20=>20|213=>222|46=>162|232=>231|233=>232|n=>n,fun|17=>0|18=>2|19=>3|n=>n⟩
def Tryz.laysM171:Go.Proofs.LaysM.n171 Tryz.prog Tryz.laysM171_ren:={
 mixed:=Θ
 f129:=Tryz.func160.trans Φ
 f171:=Tryz.func95.trans Φ
 f243:=Tryz.func131.trans Φ
 f246:=Tryz.func149.trans Φ
 f283:=Tryz.func175.trans Φ
 f284:=Tryz.func176.trans Φ
 f285:=Tryz.func177.trans Φ
 f286:=Tryz.func178.trans Φ
 f317:=Tryz.func199.trans Φ
 f318:=Tryz.func200.trans Φ
 f319:=Tryz.func201.trans Φ
 f320:=Tryz.func202.trans Φ
 f337:=Tryz.func211.trans Φ
 f338:=Tryz.func212.trans Φ
 t0:=Tryz.underlying0
 a0:=Tryz.isAgg0
 z0:=Tryz.sizeOf0
 v0:=Tryz.zeroValue0
 t2:=Tryz.underlying2
 a2:=Tryz.isAgg2
 z2:=Tryz.sizeOf2
 v2:=Tryz.zeroValue2
 t3:=Tryz.underlying3
 a3:=Tryz.isAgg3
 z3:=Tryz.sizeOf3
 v3:=Tryz.zeroValue3
 t4:=Tryz.underlying4
 a4:=Tryz.isAgg4
 z4:=Tryz.sizeOf4
 v4:=Tryz.zeroValue4
 t5:=Tryz.underlying5
 a5:=Tryz.isAgg5
 z5:=Tryz.sizeOf5
 v5:=Tryz.zeroValue5
 t9:=Tryz.underlying9
 a9:=Tryz.isAgg9
 z9:=Tryz.sizeOf9
 v9:=Tryz.zeroValue9
 t20:=Tryz.underlying20
 a20:=Tryz.isAgg20
 z20:=Tryz.sizeOf20
 v20:=Tryz.zeroValue20
 t37:=Tryz.underlying109
 a37:=Tryz.isAgg109
 z37:=Tryz.sizeOf109
 v37:=Tryz.zeroValue109
 t46:=Tryz.underlying162
 a46:=Tryz.isAgg162
 z46:=Tryz.sizeOf162
 v46:=Tryz.zeroValue162
 t51:=Tryz.underlying183
 a51:=Tryz.isAgg183
 z51:=Tryz.sizeOf183
 v51:=Tryz.zeroValue183
 t53:=Tryz.underlying185
 a53:=Tryz.isAgg185
 z53:=Tryz.sizeOf185
 v53:=Tryz.zeroValue185
 t171:=Tryz.underlying196
 a171:=Tryz.isAgg196
 z171:=Tryz.sizeOf196
 v171:=Tryz.zeroValue196
 t173:=Tryz.underlying198
 a173:=Tryz.isAgg198
 z173:=Tryz.sizeOf198
 v173:=Tryz.zeroValue198
 t212:=Tryz.underlying221
 a212:=Tryz.isAgg221
 z212:=Tryz.sizeOf221
 v212:=Tryz.zeroValue221
 t213:=Tryz.underlying222
 a213:=Tryz.isAgg222
 z213:=Tryz.sizeOf222
 t232:=Tryz.underlying231
 a232:=Tryz.isAgg231
 z232:=Tryz.sizeOf231
 v232:=Tryz.zeroValue231
 t233:=Tryz.underlying232
 a233:=Tryz.isAgg232
 z233:=Tryz.sizeOf232
 v233:=Tryz.zeroValue232
 g17:=Θ
 g18:=Θ
 g19:=Θ
 i0:=Θ
 i2:=Θ
 i3:=Θ
 i4:=Θ
 i5:=Θ
 i9:=Θ
 i20:=Θ
 i37:=Θ
 i46:=Θ
 i51:=Θ
 i53:=Θ
 i171:=Θ
 i173:=Θ
 i212:=Θ
 i232:=Θ
 i233:=Θ
 m17:=Θ
 m18:=Θ
 m19:=by kernel_rfl }
open Go.RowKit Go.Sort Go.Lib in
def Tryz.strconv_Itoa(n:Int)(h0:-9223372036854775808<=n)(h1:n<=9223372036854775807)(w:World)(htab:Lib.TabIs Tryz.prog w "internal/strconv.uint64pow10" .u64 Lib.pow10Tab):Calls Tryz.prog 95 #[.int .i64 n] w λ e w'=>e=.returned (.string ⟨(Lib.itoa n).toArray⟩)/\∃k os,w'=grow (w.drewN k) os:=Any.strconv_Itoa Tryz.laysM171 n h0 h1 w htab
end Go.Proofs
namespace Go.Sim
open Go.RowKit Go.Proofs
def xFi{w:World}{k:Nat}{os:Array Obj}:Below w.heap.size w (Sort.grow (w.drewN k) os):=by refine⟨rfl,rfl,rfl,?_,λ i hi=>?_⟩;show w.heap.size<=(w.heap++os).size;simp;show (w.heap++os)[i]?=_;rw[Array.getElem?_append,if_pos hi]
def PG:List AV->Option (Bool×AV)|[.str a,.str b]=>some (true,.int .i64 (Lib.compareBytes a b))|_=>none
def xwe:ga Tryz.prog xQa 190 PG:=λ xs r h=>by unfold PG at h;split at h;rename_i a b;simp only[z6,zb,true_and]at h;subst h;refine⟨xeZ Tryz.func190 rfl Θ,λ w A vs hI hA q=>?_⟩;obtain⟨v,u,rfl,h1,h2⟩:=rc2 q;obtain⟨s,rfl,rfl⟩:=h1.str_inv;obtain⟨t,rfl,rfl⟩:=h2.str_inv;refine(Tryz.strings_Compare s t w).mono ?_;rintro e w' ⟨rfl,rfl⟩;exact⟨_,rfl,Below.refl _ _,.int _ _⟩;simp at h
def P2:List AV->Option (Bool×AV)|[.int .i64 n]=>some (decide (-9223372036854775808<=n)&&decide (n<=9223372036854775807),.str (Lib.itoa n))|_=>none
def xAj:ga Tryz.prog xQa 95 P2:=λ xs r h=>by unfold P2 at h;split at h;rename_i n;simp only[z6,zb,zl,zf]at h;obtain⟨⟨g1,g2⟩,rfl⟩:=h;refine⟨xeZ Tryz.func95 rfl Θ,λ w A vs hI hA q=>?_⟩;obtain⟨v,rfl,h1⟩:=rc1 q;obtain rfl:=h1.int_inv;refine(Tryz.strconv_Itoa n g1 g2 w hI.tab).mono ?_;rintro e w' ⟨rfl,k,os,rfl⟩;exact⟨_,rfl,xFi,.str _⟩;simp at h
end Go.Sim
