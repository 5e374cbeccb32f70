/- Part 1 of the proof of the law. -/
import Derived.Orders
import Derived.Below
import Derived.Laws.Entries
import Derived.Laws.CopyRow
import Derived.Laws.Tables
import Derived.Great.BuildSlice
import Derived.Laws.StructEq
import Derived.Laws.MakeOwn
set_option linter.defProp false
set_option linter.unusedVariables false
set_option linter.unusedSimpArgs false
set_option linter.unnecessarySimpa false
noncomputable section
namespace Go.Sim
def z6 {α:Type _} (a b:α):(some a=some b)=(a=b):=Option.some.injEq _ _
def z7 {α:Type _} {l:List α} {i:Nat} {a:α}:l.getD i a=l[i]?.getD a:=List.getD_eq_getElem?_getD
def z8 {α:Type _} {as bs:List α}:(as++bs).length=as.length+bs.length:=List.length_append
def za {α:Type _} {β:Type _} {as:List α} (f:α->β):(as.map f).length=as.length:=List.length_map _
def zb {α:Type _} {β:Type _} (a:α) (b:β) (c:α) (d:β):((a,b)=(c,d))=(a=c/\b=d):=Prod.mk.injEq _ _ _ _
def zd (n:Nat):n<=n:=Nat.le_refl _
def zf {α:Type _} {l:List α} {i:Nat} (h:i<l.length):l[i]?=some l[i]:=List.getElem?_eq_getElem h
def zg (a b:Bool):((a&&b)=true)=(a=true/\b=true):=Bool.and_eq_true _ _
def zh {n m:Nat}:Nat.beq n m=true->n=m:=Nat.eq_of_beq_eq_true
def zi {α:Type _} {a b:α}:(some a).getD b=a:=Option.getD_some
def zj {α:Type _} {l:List α} {i:Nat} (h:l.length<=i):l.take i=l:=List.take_of_length_le h
def zk {α:Type _} {a:α}:[a].length=1:=List.length_singleton
def zl {α:Type _} {a:α}:(some a).isSome=true:=Option.isSome_some
def zm {p:Prop} [Decidable p]:(decide p=true)=p:=decide_eq_true_eq
def zn (h:Decidable False):@decide False h=false:=decide_false h
def zo (h:Decidable True):@decide True h=true:=decide_true h
def zp {α:Type _} {l:List α} {n:Nat} (h:n<l.length):l[n]∈l:=List.getElem_mem h
def zq {α:Type _} {a:α} {l:List α}:a∈l↔∃ (i:Nat) (h:i<l.length),l[i]=a:=List.mem_iff_getElem
def zr {α:Type _} {as:List α} {i:Nat} (h:as.length<=i):as.drop i=[]:=List.drop_eq_nil_of_le h
def zt {α:Type _} {l:List α}:l.drop 0=l:=List.drop_zero
def zu {α:Type _} {i:Nat} {l:List α}:(l.take i).length=min i l.length:=List.length_take
def zv {α:Type _} {xs:Array α} {i:Nat} {d:α}:xs.getD i d=xs[i]?.getD d:=Array.getD_eq_getD_getElem?
def zw {α:Type _} {a b:α}:a∈[b]↔a=b:=List.mem_singleton
def zx {α:Type _} (as bs cs:List α):as++bs++cs=as++(bs++cs):=List.append_assoc _ _ _
def zy {α:Type _} {β:Type _} {f:α->β} {l₁ l₂:List α}:(l₁++l₂).map f=l₁.map f++l₂.map f:=List.map_append
def zz (a:Int):¬ a<a:=Int.lt_irrefl _
def zA {α:Type _} {l:List α} {i:Nat} (h:l.length<=i):l[i]?=none:=List.getElem?_eq_none h
def zB {α:Type _} {l:List α} (h:l.length=0):l=[]:=List.eq_nil_of_length_eq_zero h
def zC {α:Type _} {R:α->α->Prop} {l:List α}:List.Pairwise R l↔∀ (i j:Nat) (hi:i<l.length) (hj:j<l.length),i<j->R l[i] l[j]:=List.pairwise_iff_getElem
def zD {α:Type _} {a b:α} {l:List α}:a∈b::l↔a=b\/a∈l:=List.mem_cons
def zF {α:Type _} (as:List α):as++[]=as:=List.append_nil _
def zG {α:Type _} {a:α} {as:List α}:(a::as).length=as.length+1:=List.length_cons
def zH {α:Type _} {a:α} {s t:List α}:a∈s++t↔a∈s\/a∈t:=List.mem_append
def zI (n:Nat):0+n=n:=Nat.zero_add _
def zJ {α:Type _} {p:α->Bool} {l:List α}:l.all p=true↔∀ x,x∈l->p x=true:=List.all_eq_true
def zK (a b:Nat):a<b\/a>=b:=Nat.lt_or_ge _ _
def zL {α:Type _} {β:Type _} {b:β} {f:α->β} {l:List α}:b∈l.map f↔∃ a,a∈l/\f a=b:=List.mem_map
def zM {α:Type _} {l:List α} {i:Nat} {a:α} (h:i<l.length):(l.set i a)[i]?=some a:=List.getElem?_set_self h
def zN {α:Type _} {R:α->α->Prop} {a:α} {l:List α}:(a::l).Pairwise R↔(∀ x,x∈l->R a x)/\l.Pairwise R:=List.pairwise_cons
def zO (n:Nat):(n:Int).toNat=n:=Int.toNat_natCast _
def zP {α:Type _} {l₁ l₂:List α} {n:Nat} (hn:n<l₁.length):(l₁++l₂)[n]?=l₁[n]?:=List.getElem?_append_left hn
def zQ {α:Type _} {l₁ l₂:List α} {i:Nat}:(l₁++l₂)[i]?=if i<l₁.length then l₁[i]? else l₂[i - l₁.length]?:=List.getElem?_append
def zR (n:Nat):0<=n:=Nat.zero_le _
def zS {α:Type _} {β:Type _} {a:α} {l:List α} {f:α->List β}:(a::l).flatMap f=f a++l.flatMap f:=List.flatMap_cons
def zT (b:Bool):(b&&true)=b:=Bool.and_true _
def zU:(false=true)=False:=Bool.false_eq_true
def zV {α:Type _} (as:List α):[]++as=as:=List.nil_append _
def zW {α:Type _} {β:Type _} {f:α->β} {a:α} {l:List α}:(a::l).map f=f a::l.map f:=List.map_cons
def zX {α:Type _} {β:Type _} {f:α->β}:[].map f=[]:=List.map_nil
def zY {α:Type _} {l:List α} {i j:Nat} (h:i≠j) {a:α}:(l.set i a)[j]?=l[j]?:=List.getElem?_set_ne h
def zZ {α:Type _} {a:α} {l:List α}:(a::l)[0]?=some a:=List.getElem?_cons_zero
def y6 {α:Type _} {a:α} {i:Nat} {l:List α}:(a::l)[i+1]?=l[i]?:=List.getElem?_cons_succ
def y7 {α:Type _} {i:Nat} {l:List α}:(l.drop i).length=l.length - i:=List.length_drop
def y8 {α:Type _} {as:List α} {i:Nat} {a:α}:(as.set i a).length=as.length:=List.length_set
def y9 {α:Type _} {β:Type _} {f:α->List β} {b:β} {l:List α}:b∈l.flatMap f↔∃ a,a∈l/\b∈f a:=List.mem_flatMap
def ya {α:Type _} {l:List α}:l.take l.length=l:=List.take_length
end Go.Sim
namespace Go.Sim
open Go.RowKit
inductive Id where
 | b (n:Nat)
 | r (n i j:Nat)
instance:DecidableEq Id:=fun x y=>match x,y with
 | .b n,.b m=>if h:n=m then .isTrue (by rw [h]) else .isFalse fun e=>h (by injection e)
 | .r n i j,.r n' i' j'=>if h:n=n'/\i=i'/\j=j' then .isTrue (by rw [h.1,h.2.1,h.2.2]) else .isFalse fun e=>h (by injection e with e1 e2 e3;exact ⟨e1,e2,e3⟩)
 | .b _,.r _ _ _=>.isFalse fun e=>by injection e
 | .r _ _ _,.b _=>.isFalse fun e=>by injection e
instance:Coe Nat Id:=⟨Id.b⟩
instance (n:Nat):OfNat Id n:=⟨Id.b n⟩
def Id.base:Id->Nat
 | .b n=>n
 | .r n _ _=>n
inductive AV where
 | top
 | bool (b:Bool)
 | int (k:IntKind) (n:Int)
 | str (s:List UInt8)
 | agg (cs:List AV)
 | nils
 | list (sz:Nat) (xs:List AV)
 | eptr (sz:Nat) (xs:List AV) (i j:Nat)
 | own (id:Id) (ver i j:Nat)
 | osl (id:Id) (ver off len:Nat)
 | nilptr
 | func (f:FuncId) (cs:List AV)
 | nilfn
 | empt
 | tuple (vs:List AV)
 | gptr (g:Nat)
 | yld (l:Nat)
instance:Inhabited AV:=⟨.top⟩
noncomputable def AV.cells:AV->List AV
 | .agg cs=>cs
 | x=>[x]
def AV.one:AV->Bool
 | .agg _|.tuple _|.top=>false
 | _=>true
def AV.okElem (sz:Nat) (x:AV):Bool:=x.cells.length==sz&&x.cells.all AV.one
mutual
def AV.pure:AV->Bool
 | .agg cs=>AV.pures cs
 | .list _ _=>true
 | .eptr _ _ _ _=>true
 | .own _ _ _ _=>false
 | .osl _ _ _ _=>false
 | .func _ cs=>AV.pures cs
 | .tuple vs=>AV.pures vs
 | .top=>true
 | .bool _=>true
 | .int _ _=>true
 | .str _=>true
 | .nils=>true
 | .nilptr=>true
 | .nilfn=>true
 | .empt=>true
 | .gptr _=>true
 | .yld _=>true
def AV.pures:List AV->Bool
 | []=>true
 | x::xs=>AV.pure x&&AV.pures xs
end
def xrX:∀ xs:List AV,AV.pures xs=xs.all AV.pure
 | []=>by simp [AV.pures]
 | x::xs=>by simp [AV.pures,xrX xs]
def xe1 {xs:List AV} (h:AV.pures xs=true) (i:Nat):(xs.getD i .top).pure=true:=by
 rw [xrX,zJ] at h;by_cases hi:i<xs.length
 . simp only [z7,zf hi,zi];exact h _ (zp _)
 . simp [z7,zA (Nat.le_of_not_lt hi),AV.pure]
def xkR {x:AV} (h:x.pure=true):AV.pures x.cells=true:=by
 cases x<;>first|(simpa [AV.pure,AV.cells] using h)|(simp [AV.cells,AV.pures,h])
def isC (t:TypeId):Bool:=Nat.ble 1048576 t
def xIa (t:TypeId):Bool:=Nat.ble 1208925819614629174706176 t
structure MB where
 b:Nat
 ver:Nat
 sz:Nat
 cap:Nat
 ty:TypeId
def xIl:Id->Option MB:=fun _=>none
def ptrOf (m:MB) (i j:Nat):Value:=match xIa m.ty with
 | true=>match m.cap with
  | 0=>.tuple #[]
  | _+1=>.map (some m.b)
 | false=>.pointer (some ⟨m.b,i*m.sz+j,none⟩)
def vpF:FuncId:=1099511627776
inductive Rel (w:World) (A:Nat->Prop):(Id->Option MB)->Value->AV->Prop where
 | top {M:Id->Option MB} (v:Value):Rel w A M v .top
 | bool {M:Id->Option MB} (b:Bool):Rel w A M (.bool b) (.bool b)
 | int {M:Id->Option MB} (k:IntKind) (n:Int):Rel w A M (.int k n) (.int k n)
 | str {M:Id->Option MB} (s:ByteArray):Rel w A M (.string s) (.str s.data.toList)
 | agg {M:Id->Option MB} (vs:Array Value) (cs:List AV) (h:vs.size=cs.length) (hr:∀ i,i<cs.length->Rel w A M (vs.getD i undef) (cs.getD i .top)):Rel w A M (.agg vs) (.agg cs)
 | nils {M:Id->Option MB}:Rel w A M (.slice none 0 0) .nils
 | list0 {M:Id->Option MB} (a:Option Addr) (cap sz:Nat):Rel w A M (.slice a 0 cap) (.list sz [])
 | list {M:Id->Option MB} (b off cap sz:Nat) (xs:List AV) (val:Nat->Nat->Value) (ha:¬ A b) (hb:b<w.heap.size) (hne:xs≠[]) (hcap:xs.length<=cap) (hsz:∀ x,x∈xs->x.okElem sz=true)
  (hc:∀ i j,i<xs.length->j<sz->w.cell? ⟨b,off+i*sz+j,none⟩=some (val i j))
  (hr:∀ i j,i<xs.length->j<sz->Rel w A xIl (val i j) ((xs.getD i .top).cells.getD j .top)):Rel w A M (.slice (some ⟨b,off,none⟩) xs.length cap) (.list sz xs)
 | eptr {M:Id->Option MB} (b off sz:Nat) (xs:List AV) (i0 j0:Nat) (val:Nat->Nat->Value) (ha:¬ A b) (hb:b<w.heap.size) (hi:i0<xs.length) (hsz:∀ x,x∈xs->x.okElem sz=true)
  (hc:∀ i j,i<xs.length->j<sz->w.cell? ⟨b,off+i*sz+j,none⟩=some (val i j))
  (hr:∀ i j,i<xs.length->j<sz->Rel w A xIl (val i j) ((xs.getD i .top).cells.getD j .top)):Rel w A M (.pointer (some ⟨b,off+i0*sz+j0,none⟩)) (.eptr sz xs i0 j0)
 | own {M:Id->Option MB} (v:Value) (id:Id) (ver i j:Nat) (m:MB) (hm:M id=some m) (hv:ver<=m.ver) (h1:v.oneCell'=true) (he:ver=m.ver->v=ptrOf m i j):Rel w A M v (.own id ver i j)
 | osl {M:Id->Option MB} (v:Value) (id:Id) (ver off len:Nat) (m:MB) (hm:M id=some m) (hv:ver<=m.ver) (h1:v.oneCell'=true)
  (he:ver=m.ver->off+len<=m.cap/\∃ a,v=.slice a len (m.cap - off)/\(off<m.cap->a=some ⟨m.b,off*m.sz,none⟩)):Rel w A M v (.osl id ver off len)
 | nilptr {M:Id->Option MB}:Rel w A M (.pointer none) .nilptr
 | func {M:Id->Option MB} (f:FuncId) (vs:Array Value) (cs:List AV) (h:vs.size=cs.length) (hr:∀ i,i<cs.length->Rel w A M (vs.getD i undef) (cs.getD i .top)) (hf:Nat.beq f vpF=true->cs=[]):Rel w A M (.func (.func f) #[] vs) (.func f cs)
 | vptr {M:Id->Option MB} (b off:Nat) (v0:Value) (x:AV) (ha:¬ A b) (hb:b<w.heap.size) (hc:w.cell? ⟨b,off,none⟩=some v0) (hr:Rel w A M v0 x):Rel w A M (.pointer (some ⟨b,off,none⟩)) (.func vpF [x])
 | nilfn {M:Id->Option MB}:Rel w A M .nilFunc .nilfn
 | nmap {M:Id->Option MB}:Rel w A M (.map none) (.func vpF [])
 | empt {M:Id->Option MB} (a:Option Addr):Rel w A M (.slice a 0 0) .empt
 | tuple {M:Id->Option MB} (vs:Array Value) (cs:List AV) (h:vs.size=cs.length) (hr:∀ i,i<cs.length->Rel w A M (vs.getD i undef) (cs.getD i .top)):Rel w A M (.tuple vs) (.tuple cs)
 | gptr {M:Id->Option MB} (g:Nat):Rel w A M (.pointer (some ⟨g,0,none⟩)) (.gptr g)
 | yld {M:Id->Option MB} (l:Nat):Rel w A M (.func (.yield l) #[] #[]) (.yld l)
def MExt (M M':Id->Option MB):Prop:=∀ id m,M id=some m->∃ m',M' id=some m'/\(m'=m\/m.ver<m'.ver)
def MExt.refl (M:Id->Option MB):MExt M M:=fun _ m h=>⟨m,h,.inl rfl⟩
def MExt.trans {M M' M'':Id->Option MB} (h:MExt M M') (h':MExt M' M''):MExt M M'':=fun id m hm=>by
 obtain ⟨m1,h1,e1⟩:=h id m hm;obtain ⟨m2,h2,e2⟩:=h' id m1 h1;refine ⟨m2,h2,?_⟩;rcases e1 with rfl|e1<;>rcases e2 with rfl|e2
 . exact .inl rfl
 . exact .inr e2
 . exact .inr e1
 . exact .inr (Nat.lt_trans e1 e2)
def cell?_of_heap {w w':World} {b o:Nat} (h:w'.heap[b]?=w.heap[b]?):w'.cell? ⟨b,o,none⟩=w.cell? ⟨b,o,none⟩:=by
 simp [World.cell?,h]
def Rel.mono {w w':World} {A A':Nat->Prop} {M M':Id->Option MB} {v:Value} {x:AV} (h:Rel w A M v x)
  (hw:∀ b,b<w.heap.size->¬ A b->w'.heap[b]?=w.heap[b]?) (hs:w.heap.size<=w'.heap.size) (hA:∀ b,b<w.heap.size->A' b->A b) (hM:MExt M M'):Rel w' A' M' v x:=by
 induction h generalizing M' with
 | top v=>exact .top v
 | bool b=>exact .bool b
 | int k n=>exact .int k n
 | str s=>exact .str s
 | agg vs cs h hr ih=>exact .agg vs cs h fun i hi=>ih i hi hM
 | nils=>exact .nils
 | list0 a cap sz=>exact .list0 a cap sz
 | list b off cap sz xs val ha hb hne hcap hsz hc hr ih =>
  exact .list b off cap sz xs val (fun h=>ha (hA b hb h)) (Nat.lt_of_lt_of_le hb hs) hne hcap hsz (fun i j hi hj=>by rw [cell?_of_heap (hw b hb ha)];exact hc i j hi hj) fun i j hi hj=>ih i j hi hj (MExt.refl _)
 | eptr b off sz xs i0 j0 val ha hb hi hsz hc hr ih =>
  exact .eptr b off sz xs i0 j0 val (fun h=>ha (hA b hb h)) (Nat.lt_of_lt_of_le hb hs) hi hsz (fun i j hi hj=>by rw [cell?_of_heap (hw b hb ha)];exact hc i j hi hj) fun i j hi hj=>ih i j hi hj (MExt.refl _)
 | own v id ver i j m hm hv h1 he =>
  obtain ⟨m',q,e⟩:=hM id m hm;rcases e with rfl|e
  . exact .own v id ver i j m' q hv h1 he
  . exact .own v id ver i j m' q (by omega) h1 (fun e'=>by omega)
 | osl v id ver off len m hm hv h1 he =>
  obtain ⟨m',q,e⟩:=hM id m hm;rcases e with rfl|e
  . exact .osl v id ver off len m' q hv h1 he
  . exact .osl v id ver off len m' q (by omega) h1 (fun e'=>by omega)
 | nilptr=>exact .nilptr
 | func f vs cs h hr hf ih=>exact .func f vs cs h (fun i hi=>ih i hi hM) hf
 | vptr b off v0 x ha hb hc hr ih=>exact .vptr b off v0 x (fun h=>ha (hA b hb h)) (Nat.lt_of_lt_of_le hb hs) (by rw [cell?_of_heap (hw b hb ha)];exact hc) (ih hM)
 | nilfn=>exact .nilfn
 | nmap=>exact .nmap
 | empt a=>exact .empt a
 | tuple vs cs h hr ih=>exact .tuple vs cs h fun i hi=>ih i hi hM
 | gptr g=>exact .gptr g
 | yld g=>exact .yld g
def xsE (M:Id->Option MB):MExt xIl M:=fun id m h=>by simp [xIl] at h
def Rel.lift {w:World} {A:Nat->Prop} {v:Value} {x:AV} (h:Rel w A xIl v x) (M:Id->Option MB):Rel w A M v x :=
 h.mono (fun _ _ _=>rfl) (zd _) (fun _ _ h=>h) (xsE M)
def Rel.pure {w:World} {A:Nat->Prop} {M M':Id->Option MB} {v:Value} {x:AV} (h:Rel w A M v x):x.pure=true->Rel w A M' v x:=by
 induction h generalizing M' with
 | top v=>intro _;exact .top v
 | bool b=>intro _;exact .bool b
 | int k n=>intro _;exact .int k n
 | str s=>intro _;exact .str s
 | agg vs cs h hr ih=>intro hp;exact .agg vs cs h fun i hi=>ih i hi (xe1 (by simpa [AV.pure] using hp) i)
 | nils=>intro _;exact .nils
 | list0 a cap sz=>intro _;exact .list0 a cap sz
 | list b off cap sz xs val ha hb hne hcap hsz hc hr ih=>intro _;exact .list b off cap sz xs val ha hb hne hcap hsz hc hr
 | eptr b off sz xs i0 j0 val ha hb hi hsz hc hr ih=>intro _;exact .eptr b off sz xs i0 j0 val ha hb hi hsz hc hr
 | own v id ver i j m hm hv h1 he=>intro hp;simp [AV.pure] at hp
 | osl v id ver off len m hm hv h1 he=>intro hp;simp [AV.pure] at hp
 | nilptr=>intro _;exact .nilptr
 | func f vs cs h hr hf ih=>intro hp;exact .func f vs cs h (fun i hi=>ih i hi (xe1 (by simpa [AV.pure] using hp) i)) hf
 | vptr b off v0 x ha hb hc hr ih=>intro hp;exact .vptr b off v0 x ha hb hc (ih (by simpa [AV.pure,AV.pures] using hp))
 | nilfn=>intro _;exact .nilfn
 | nmap=>intro _;exact .nmap
 | empt a=>intro _;exact .empt a
 | tuple vs cs h hr ih=>intro hp;exact .tuple vs cs h fun i hi=>ih i hi (xe1 (by simpa [AV.pure] using hp) i)
 | gptr g=>intro _;exact .gptr g
 | yld g=>intro _;exact .yld g
def MP (M:Id->Option MB) (pm:Bool):Id->Option MB:=match pm with
 | true=>xIl
 | false=>M
def xqM {M M':Id->Option MB} (h:MExt M M') (pm:Bool):MExt (MP M pm) (MP M' pm):=by
 cases pm with
 | true=>exact MExt.refl _
 | false=>exact h
def Rel.unmp {w:World} {A:Nat->Prop} {M:Id->Option MB} {pm:Bool} {v:Value} {x:AV} (h:Rel w A (MP M pm) v x):Rel w A M v x:=by
 cases pm with
 | true=>exact h.lift M
 | false=>exact h
def Rel.mp {w:World} {A:Nat->Prop} {M:Id->Option MB} {pm:Bool} {v:Value} {x:AV} (h:Rel w A M v x) (hp:pm=true->x.pure=true):Rel w A (MP M pm) v x:=by
 cases pm with
 | true=>exact h.pure (hp rfl)
 | false=>exact h
def Rel.mp_and {w:World} {A:Nat->Prop} {M:Id->Option MB} {v:Value} {x:AV} {p q:Bool} (h:Rel w A (MP M p) v x):Rel w A (MP M (p&&q)) v x:=by
 cases p with
 | true=>cases q with
  | true=>exact h
  | false=>exact h.lift M
 | false=>exact h
def Rel.mp_and' {w:World} {A:Nat->Prop} {M:Id->Option MB} {v:Value} {x:AV} {p q:Bool} (h:Rel w A (MP M q) v x):Rel w A (MP M (p&&q)) v x:=by
 rw [Bool.and_comm];exact h.mp_and
section inv
variable {w : World} {A : Nat -> Prop} {M : Id -> Option MB} {v : Value}
def Rel.bool_inv {b:Bool} (h:Rel w A M v (.bool b)):v=.bool b:=by cases h;rfl
def Rel.int_inv {k:IntKind} {n:Int} (h:Rel w A M v (.int k n)):v=.int k n:=by cases h;rfl
def Rel.str_inv {s:List UInt8} (h:Rel w A M v (.str s)):∃ t:ByteArray,v=.string t/\t.data.toList=s:=by cases h;exact ⟨_,rfl,rfl⟩
def Rel.agg_inv {cs:List AV} (h:Rel w A M v (.agg cs)):∃ vs:Array Value,v=.agg vs/\vs.size=cs.length/\∀ i,i<cs.length->Rel w A M (vs.getD i undef) (cs.getD i .top):=by
 cases h with|agg vs _ h hr=>exact ⟨vs,rfl,h,hr⟩
def Rel.tuple_inv {cs:List AV} (h:Rel w A M v (.tuple cs)):∃ vs:Array Value,v=.tuple vs/\vs.size=cs.length/\∀ i,i<cs.length->Rel w A M (vs.getD i undef) (cs.getD i .top):=by
 cases h with|tuple vs _ h hr=>exact ⟨vs,rfl,h,hr⟩
def Rel.func_inv {f:FuncId} {cs:List AV} (h:Rel w A M v (.func f cs)) (hf:Nat.beq f vpF=false):∃ vs:Array Value,v=.func (.func f) #[] vs/\vs.size=cs.length/\∀ i,i<cs.length->Rel w A M (vs.getD i undef) (cs.getD i .top):=by
 cases h with
 | func _ vs _ h hr=>exact ⟨vs,rfl,h,hr⟩
 | vptr=>exact absurd hf (by decide)
 | nmap=>exact absurd hf (by decide)
def Rel.vptr_inv {x:AV} (h:Rel w A M v (.func vpF [x])):∃ b off v0,v=.pointer (some ⟨b,off,none⟩)/\¬ A b/\b<w.heap.size/\w.cell? ⟨b,off,none⟩=some v0/\Rel w A M v0 x:=by
 cases h with
 | func _ vs _ h hr hf=>exact absurd (hf (by decide)) (by simp)
 | vptr b off v0 _ ha hb hc hr=>exact ⟨b,off,v0,rfl,ha,hb,hc,hr⟩
def Rel.cells {x:AV} (h:Rel w A M v x) (hx:x.cells.all AV.one=true):v.cells.size=x.cells.length/\∀ i,i<x.cells.length->Rel w A M (v.cells.getD i undef) (x.cells.getD i .top):=by
 have key:∀ (v:Value) (x:AV),Rel w A M v x->x.cells=[x]->v.oneCell'=true->v.cells.size=x.cells.length/\∀ i,i<x.cells.length->Rel w A M (v.cells.getD i undef) (x.cells.getD i .top):=by
  intro v x h e1 e2;have:v.cells=#[v]:=by cases v<;>first|rfl|(simp [Value.oneCell'] at e2)
  rw [this,e1];refine ⟨rfl,fun i hi=>?_⟩
  have:i=0:=by simpa using hi
  subst this;exact h
 cases h with
 | top v=>simp [AV.cells,AV.one] at hx
 | agg vs cs h hr=>exact ⟨h,hr⟩
 | tuple vs cs h hr=>simp [AV.cells,AV.one] at hx
 | bool b=>exact key _ _ (.bool b) rfl rfl
 | int k n=>exact key _ _ (.int k n) rfl rfl
 | str s=>exact key _ _ (.str s) rfl rfl
 | nils=>exact key _ _ .nils rfl rfl
 | list0 a cap sz=>exact key _ _ (.list0 a cap sz) rfl rfl
 | list b off cap sz xs val ha hb hne hcap hsz hc hr=>exact key _ _ (.list b off cap sz xs val ha hb hne hcap hsz hc hr) rfl rfl
 | eptr b off sz xs i0 j0 val ha hb hi hsz hc hr=>exact key _ _ (.eptr b off sz xs i0 j0 val ha hb hi hsz hc hr) rfl rfl
 | own v id ver i j m hm hv h1 he=>exact key _ _ (.own v id ver i j m hm hv h1 he) rfl h1
 | osl v id ver off len m hm hv h1 he=>exact key _ _ (.osl v id ver off len m hm hv h1 he) rfl h1
 | nilptr=>exact key _ _ .nilptr rfl rfl
 | func f vs cs h hr hf=>exact key _ _ (.func f vs cs h hr hf) rfl rfl
 | vptr b off v0 x ha hb hc hr=>exact key _ _ (.vptr b off v0 x ha hb hc hr) rfl rfl
 | nilfn=>exact key _ _ .nilfn rfl rfl
 | nmap=>exact key _ _ .nmap rfl rfl
 | empt a=>exact key _ _ (.empt a) rfl rfl
 | gptr g=>exact key _ _ (.gptr g) rfl rfl
 | yld g=>exact key _ _ (.yld g) rfl rfl
def Rel.oneCell {x:AV} (h:Rel w A M v x) (hx:x.one=true):v.oneCell'=true:=by
 cases h<;>first|rfl|assumption|(simp [AV.one] at hx)
end inv
structure Box where
 ver:Nat
 sz:Nat
 ty:TypeId
 xs:List AV
 frz:Bool
 pm:Bool
def rty (t:TypeId):TypeId:=match isC t with
 | true=>match xIa t with
  | true=>t
  | false=>t % 1048576
 | false=>t
def xIe (t:TypeId):Nat:=match (t:Nat) with
 | 0=>0
 | n+1=>((n+1) / 1048576 - 1) % 64
def rowSz (t:TypeId):Nat:=match (t:Nat) with
 | 0=>0
 | n+1=>(((n+1) / 1048576 - 1) / 64) % 64
def rowTy (t:TypeId):TypeId:=match (t:Nat) with
 | 0=>(0:Nat)
 | n+1=>(((n+1) / 1048576 - 1) / 4096) % 1048576
def xH9 (t:TypeId) (j:Nat):Bool:=match isC t with
 | true=>Nat.beq j (xIe t)
 | false=>false
def rowLen:AV->Nat
 | .list _ ys=>ys.length
 | .int _ n=>n.toNat
 | _=>0
def xJc (n i j:Nat) (x:AV):AV:=.osl (.r n i j) (2*rowLen x) 0 (rowLen x)
def xIw (n i j:Nat) (t:TypeId) (x:AV):AV:=match xH9 t j with
 | true=>xJc n i j x
 | false=>x
def xIA (bx:Box) (x:AV):Box:=match x with
 | .list sz ys=>⟨2*ys.length,sz,rowTy bx.ty,ys,bx.frz,true⟩
 | x=>⟨2*rowLen x+1,0,rowTy bx.ty,[],bx.frz,true⟩
def tombB:Box:=⟨1208925819614629174706176,0,0,[],true,true⟩
def getB (H:List Box):Id->Option Box
 | .b n=>H[n]?
 | .r n i j=>match H[n]? with
  | some bx=>match isC bx.ty with
   | true=>if xH9 bx.ty j=true/\bx.pm=true/\i<bx.xs.length then some (xIA bx ((bx.xs.getD i .top).cells.getD j .top)) else none
   | false=>some tombB
  | none=>none
def MV (M:Id->Option MB) (bx:Box) (j:Nat):Id->Option MB:=match xH9 bx.ty j with
 | true=>M
 | false=>MP M bx.pm
def xts {M M':Id->Option MB} (h:MExt M M') (bx:Box) (j:Nat):MExt (MV M bx j) (MV M' bx j):=by
 unfold MV;split
 . exact h
 . exact xqM h _
def Rel.unmv {w:World} {A:Nat->Prop} {M:Id->Option MB} {bx:Box} {j:Nat} {v:Value} {x:AV} (h:Rel w A (MV M bx j) v x):Rel w A M v x:=by
 unfold MV at h;split at h
 . exact h
 . exact h.unmp
def xm6 {t:TypeId} (h:isC t=false) (j:Nat):xH9 t j=false:=by unfold xH9;rw [h]
def xbQ (t:TypeId):isC (rowTy t)=false:=by
 have h:rowTy t<1048576:=by
  unfold rowTy;split
  . exact (by decide:(0:Nat)<1048576)
  . exact Nat.mod_lt _ (by omega)
 unfold isC;cases hb:Nat.ble 1048576 (rowTy t) with
 | false=>rfl
 | true=>have:=Nat.le_of_ble_eq_true hb;exact absurd h (Nat.not_lt.2 this)
def xut (bx:Box) (x:AV):(xIA bx x).ty=rowTy bx.ty:=by cases x<;>rfl
def xsV (bx:Box) (x:AV):(xIA bx x).frz=bx.frz:=by cases x<;>rfl
def xBi (bx:Box) (x:AV):(xIA bx x).pm=true:=by cases x<;>rfl
def MapP (e1 es:Array MapEntry) (clock:Nat):Prop:=e1.toList.Perm es.toList/\(∀ x∈es.toList,x.born<clock)/\(es.toList.map (·.born)).Nodup
def MapB (w:World) (b:Nat) (es:Array MapEntry) (clock:Nat):Prop:=∃ e1:Array MapEntry,w.heap[b]?=some (.map e1 clock)/\MapP e1 es clock
def HoldsC (w:World) (m:MB) (n:Nat) (c:Array Value):Prop:=match xIa m.ty with
 | false=>w.heap[m.b]?=some (.cells c m.ty (0,0))
 | true=>∃ (es:Array MapEntry) (clock:Nat),MapB w m.b es clock/\es.size=n/\m.cap=maxLen/\(∀ (k:Nat) (x:MapEntry),es[k]?=some x->c.getD (k*m.sz) undef=x.key/\c.getD (k*m.sz+1) undef=x.val) /\
  (∀ (k:Nat) (x:MapEntry),es[k]?=some x->∃ t:ByteArray,x.key=.string t/\t.size<=maxLen)/\(∀ (k l:Nat) (x y:MapEntry),es[k]?=some x->es[l]?=some y->x.key=y.key->k=l)
def HoldsC.plain {w:World} {m:MB} {n:Nat} {c:Array Value} (h:HoldsC w m n c) (hn:xIa m.ty=false):w.heap[m.b]?=some (.cells c m.ty (0,0)):=by
 unfold HoldsC at h;rw [hn] at h;exact h
def HoldsC.of {w:World} {m:MB} {n:Nat} {c:Array Value} (hn:xIa m.ty=false) (h:w.heap[m.b]?=some (.cells c m.ty (0,0))):HoldsC w m n c:=by
 unfold HoldsC;rw [hn];exact h
def HoldsC.same {w w':World} {m:MB} {n:Nat} {c:Array Value} (h:HoldsC w m n c) (he:w'.heap[m.b]?=w.heap[m.b]?):HoldsC w' m n c:=by
 unfold HoldsC MapB at h |-;rw [he];exact h
def HoldsC.re {w:World} {m m':MB} {n:Nat} {c:Array Value} (h:HoldsC w m n c) (e1:m'.b=m.b) (e2:m'.sz=m.sz) (e3:m'.cap=m.cap) (e4:m'.ty=m.ty):HoldsC w m' n c:=by
 unfold HoldsC at h |-;rw [e1,e2,e3,e4];exact h
structure BoxAt (w:World) (A:Nat->Prop) (M:Id->Option MB) (B:Nat) (id:Id) (m:MB) (bx:Box):Prop where
 ver:bx.ver=m.ver
 sz:bx.sz=m.sz
 ty:rty bx.ty=m.ty
 capm:m.cap<=maxLen
 fits:bx.xs.length<=m.cap
 ok:∀ x,x∈bx.xs->x.okElem m.sz=true
 low:0<m.cap->B<=m.b
 lt:0<m.cap->m.b<w.heap.size
 cells:0<m.cap->∃ c,HoldsC w m bx.xs.length c/\c.size=m.cap*m.sz /\
  ∀ i j,i<bx.xs.length->j<m.sz->Rel w A (MV M bx j) (c.getD (i*m.sz+j) undef) (xIw id.base i j bx.ty ((bx.xs.getD i .top).cells.getD j .top))
 guard:0<m.cap->(bx.frz=false↔A m.b)
structure HR (w:World) (A:Nat->Prop) (M:Id->Option MB) (B:Nat) (H:List Box):Prop where
 box:∀ id m,M id=some m->∃ bx,getB H id=some bx/\BoxAt w A M B id m bx
 inj:∀ id id' m m',M id=some m->M id'=some m'->0<m.cap->0<m'.cap->m.b=m'.b->id=id'
 lt:∀ b,A b->b<w.heap.size
def Free (M:Id->Option MB) (n:Nat):Prop:=M (.b n)=none/\∀ i j,M (.r n i j)=none
def BoxAt.mono {w w':World} {A A':Nat->Prop} {M M':Id->Option MB} {B:Nat} {id:Id} {m:MB} {bx:Box} (h:BoxAt w A M B id m bx)
  (hb:0<m.cap->w'.heap[m.b]?=w.heap[m.b]?) (hw:∀ b,b<w.heap.size->¬ A b->w'.heap[b]?=w.heap[b]?) (hs:w.heap.size<=w'.heap.size) (hA:∀ b,b<w.heap.size->(A' b->A b)) (hg:0<m.cap->(bx.frz=false↔A' m.b)) (hM:MExt M M'):BoxAt w' A' M' B id m bx:=by
 refine ⟨h.ver,h.sz,h.ty,h.capm,h.fits,h.ok,h.low,fun h0=>Nat.lt_of_lt_of_le (h.lt h0) hs,fun h0=>?_,hg⟩
 obtain ⟨c,h1,h2,h3⟩:=h.cells h0;exact ⟨c,h1.same (hb h0),h2,fun i j hi hj=>(h3 i j hi hj).mono hw hs hA (xts hM _ _)⟩
def HR.grow {w w':World} {A:Nat->Prop} {M:Id->Option MB} {B:Nat} {H:List Box} (h:HR w A M B H) (hb:Below w.heap.size w w'):HR w' A M B H :=
 ⟨
  fun id m hm=>by
   obtain ⟨bx,h1,h2⟩:=h.box id m hm;exact ⟨bx,h1,h2.mono (fun h0=>hb.block _ (h2.lt h0)) (fun b q _=>hb.block b q) hb.size (fun b _ h=>h) h2.guard (MExt.refl M)⟩,
  h.inj,fun b hA=>Nat.lt_of_lt_of_le (h.lt b hA) hb.size⟩
def Rel.grow {w w':World} {A:Nat->Prop} {M:Id->Option MB} {v:Value} {x:AV} (h:Rel w A M v x) (hb:Below w.heap.size w w'):Rel w' A M v x :=
 h.mono (fun b q _=>hb.block b q) hb.size (fun b _ h=>h) (MExt.refl M)
def avOf1:Value->AV
 | .bool b=>.bool b
 | .int k n=>.int k n
 | .string s=>.str s.data.toList
 | .pointer none=>.nilptr
 | .slice none 0 0=>.nils
 | .nilFunc=>.nilfn
 | .map none=>.func vpF []
 | _=>.top
def avOf:Value->AV
 | .agg cs=>.agg (cs.toList.map avOf1)
 | v=>avOf1 v
def xuq (w:World) (A:Nat->Prop) (M:Id->Option MB) (v:Value):Rel w A M v (avOf1 v):=by
 unfold avOf1;split
 . exact .bool _
 . exact .int _ _
 . exact .str _
 . exact .nilptr
 . exact .nils
 . exact .nilfn
 . exact .nmap
 . exact .top _
def xcZ (w:World) (A:Nat->Prop) (M:Id->Option MB) (v:Value):Rel w A M v (avOf v):=by
 unfold avOf;split
 . rename_i cs;refine .agg _ _ (by simp) fun i hi=>?_
   have hi':i<cs.size:=by simpa using hi
   simp only [z7,List.getElem?_map,Array.getElem?_toList,hi',Array.getElem?_eq_getElem,Option.map_some,zi,zv];exact xuq w A M _
 . exact xuq w A M _
structure TI where
 sz:Nat
 bytes:Nat
 zero:AV
 agg:Bool
 d:TypeDesc
def isAggDesc:TypeDesc->Bool
 | .struct _|.array _ _=>true
 | _=>false
def xH7 (P:Program) (t:TypeId):Option TI :=
 match isC t with
 | true=>none
 | false=>match P.info? t,P.underlying t with
  | some i,some d =>
   match i.zero with
   | some z=>some { sz:=i.size,bytes:=i.bytes,zero:=avOf z,agg:=isAggDesc d,d:=d }
   | none=>none
  | _,_=>none
def xjk {P:Program} {t:TypeId} {ti:TI} (h:xH7 P t=some ti):isC t=false:=by
 unfold xH7 at h;split at h
 . simp at h
 . assumption
def xbJ {t:TypeId} (h:isC t=false):rty t=t:=by unfold rty;rw [h]
def xar {n i j:Nat} {t:TypeId} {x:AV} (h:isC t=false):xIw n i j t x=x:=by unfold xIw;rw [xm6 h]
def xax {M:Id->Option MB} {bx:Box} {j:Nat} (h:isC bx.ty=false):MV M bx j=MP M bx.pm:=by unfold MV;rw [xm6 h]
def viewL (n i:Nat) (t:TypeId) (cs:List AV):List AV:=match isC t with
 | true=>cs.mapIdx fun j c=>xIw n i j t c
 | false=>cs
def xBA (n i:Nat) (t:TypeId) (cs:List AV):(viewL n i t cs).length=cs.length:=by
 unfold viewL;split<;>simp
def xqD (n i:Nat) (t:TypeId) (cs:List AV) (j:Nat) (h:j<cs.length):(viewL n i t cs).getD j .top=xIw n i j t (cs.getD j .top):=by
 unfold viewL;split
 . simp [z7,h]
 . rename_i hc;rw [xar hc]
def xa2 {P:Program} {t:TypeId} {ti:TI} (h:xH7 P t=some ti) :
 ∃ i z,P.info? t=some i/\P.underlying t=some ti.d/\i.zero=some z/\ti.sz=i.size/\ti.bytes=i.bytes/\ti.zero=avOf z/\ti.agg=isAggDesc ti.d:=by grind [xH7]
section runs
variable {P : Program} {t : TypeId} {ti : TI}
def xiL (h:xH7 P t=some ti) (w:World):(underlying t).run P w=.ok ti.d w:=by
 obtain ⟨i,z,h1,h2,_⟩:=xa2 h;exact run_underlying h2 w
def xcx (h:xH7 P t=some ti) (w:World):(sizeOf t).run P w=.ok ti.sz w:=by
 obtain ⟨i,z,h1,h2,_,h3,_⟩:=xa2 h;simp [sizeOf,typeInfo,h1,h3]
def xr6 (h:xH7 P t=some ti) (w:World):∃ z,(zeroValue t).run P w=.ok z w/\ti.zero=avOf z:=by
 obtain ⟨i,z,h1,h2,h5,h3,h4,h6,_⟩:=xa2 h;exact ⟨z,by simp [zeroValue,typeInfo,h1,h5],h6⟩
def xj5 (h:xH7 P t=some ti) (w:World):(isAgg t).run P w=.ok ti.agg w:=by
 obtain ⟨i,z,h1,h2,h5,h3,h4,h6,h7⟩:=xa2 h;rw [h7];unfold isAgg isAggDesc;simp only [Sem.run_bind,xiL h,Result.andThen_ok];split<;>simp_all
end runs
end Go.Sim
namespace Go.Sim
open Go.RowKit
def xIb (H:List Box) (id:Id) (ver:Nat):Option Box :=
 match getB H id with
 | some bx=>if bx.ver=ver/\xIa bx.ty=false then some bx else none
 | none=>none
def absLoad (ti:TI) (sz:Nat) (cs:List AV) (j:Nat):Option AV :=
 if j+ti.sz<=sz then
  if ti.agg=true then some (.agg ((cs.drop j).take ti.sz))
  else if ti.sz=1 then some (cs.getD j .top) else none
 else none
def xI0 (H:List Box) (ti:TI):AV->Option AV
 | .eptr sz xs i j=>match xs[i]? with|some x=>absLoad ti sz x.cells j|none=>none
 | .own id ver i j=>match xIb H id ver with
  | some bx=>match bx.xs[i]? with|some x=>absLoad ti bx.sz (viewL id.base i bx.ty x.cells) j|none=>none
  | none=>none
 | .func f cs=>match Nat.beq f vpF,cs with
  | true,[x]=>if ti.sz=1/\ti.agg=false then some x else none
  | _,_=>none
 | _=>none
inductive SK where
 | int
 | str
 | bool
def planF (P:Program):List Field->Option (List (Nat×SK))
 | []=>some []
 | f::fs =>
  if f.name = "_" then none else
  match xH7 P f.type,planF P fs with
  | some ti,some r=>match ti.d with
   | .int _=>some ((f.offset,.int)::r)
   | .string=>some ((f.offset,.str)::r)
   | .bool=>some ((f.offset,.bool)::r)
   | _=>none
  | _,_=>none
def eqPlan (P:Program) (t:TypeId):Option (List (Nat×SK)) :=
 if P.stoodInHeld t || P.eqGuardType P.depth t then none else
 match P.underlying t with
 | some (.struct fs)=>planF P fs.toList
 | _=>none
def eqSK:SK->AV->AV->Option Bool
 | .int,.int k a,.int k' b=>if k=k' then some (a==b) else none
 | .str,.str a,.str b=>some (a==b)
 | .bool,.bool a,.bool b=>some (a==b)
 | _,_,_=>none
def eqCells:List (Nat×SK)->List AV->List AV->Option Bool
 | [],_,_=>some true
 | (o,s)::r,xs,ys =>
  match eqSK s (xs.getD o .top) (ys.getD o .top),eqCells r xs ys with
  | some a,some b=>some (a&&b)
  | _,_=>none
def xIX:Nat:=2 ^ 62
def andI (k:IntKind) (a b:Int):Int:=k.wrap ((BitVec.ofInt k.bits a &&& BitVec.ofInt k.bits b).toNat:Nat)
def absInt (op:BinOp) (k:IntKind) (a b:Int):Option AV :=
 match op with
 | .and=>some (.int k (andI k a b))
 | .add=>some (.int k (k.wrap (a+b)))
 | .sub=>some (.int k (k.wrap (a - b)))
 | .mul=>some (.int k (k.wrap (a*b)))
 | .quo=>if b=0 then none else some (.int k (k.wrap (a.tdiv b)))
 | .rem=>if b=0 then none else some (.int k (a.tmod b))
 | .eql=>some (.bool (a==b))
 | .neq=>some (.bool (a != b))
 | .lss=>some (.bool (decide (a<b)))
 | .leq=>some (.bool (decide (a<=b)))
 | .gtr=>some (.bool (decide (a>b)))
 | .geq=>some (.bool (decide (a>=b)))
 | _=>none
def absStr (op:BinOp) (a b:List UInt8):Option AV :=
 match op with
 | .add=>if a.length+b.length<=xIX then some (.str (a++b)) else none
 | .eql=>some (.bool (a==b))
 | .neq=>some (.bool (!(a==b)))
 | .lss=>some (.bool (Op.bytesLess a b))
 | .leq=>some (.bool (Op.bytesLess a b || a==b))
 | .gtr=>some (.bool (!(Op.bytesLess a b || a==b)))
 | .geq=>some (.bool (!(Op.bytesLess a b)))
 | _=>none
def absShift (op:BinOp) (k:IntKind) (a b:Int):Option AV :=
 if b<0 then none else match op with
 | .shl=>some (.int k (k.wrap (a*2 ^ min b.toNat k.bits)))
 | .shr=>some (.int k (a.fdiv (2 ^ min b.toNat k.bits)))
 | _=>none
def isShift:BinOp->Bool
 | .shl|.shr=>true
 | _=>false
def absBin (P:Program) (op:BinOp) (t:TypeId) (x y:AV):Option AV :=
 match x,y with
 | .int k a,.int k' b=>match isShift op with
  | true=>absShift op k a b
  | false=>if k=k' then absInt op k a b else none
 | .str a,.str b=>absStr op a b
 | .bool a,.bool b=>match xH7 P t with
  | some ti=>match ti.d,op with
   | .bool,.eql=>some (.bool (a==b))
   | .bool,.neq=>some (.bool (!(a==b)))
   | _,_=>none
  | none=>none
 | .agg xs,.agg ys=>match eqPlan P t with
  | some pl=>match eqCells pl xs ys,op with
   | some r,.eql=>some (.bool r)
   | some r,.neq=>some (.bool (!r))
   | _,_=>none
  | none=>none
 | _,_=>none
def absFill (q:Nat->Option (Nat×Nat)) (cs:List AV):List (Nat×AV)->Option (List AV)
 | []=>some cs
 | (i,v)::rest =>
  match q i with
  | none=>none
  | some (off,size) =>
   if v.okElem size=true/\off+size<=cs.length then absFill q (cs.take off++v.cells++cs.drop (off+size)) rest else none
def absSet (sz:Nat) (xs:List AV):List (Nat×AV)->Option (List AV)
 | []=>some xs
 | (i,v)::rest=>if i<xs.length/\v.okElem sz=true then absSet sz (xs.set i v) rest else none
def placesOf (P:Program):List Field->Option (List (Nat×Nat))
 | []=>some []
 | f::fs=>match xH7 P f.type,placesOf P fs with
  | some ti,some r=>some ((f.offset,ti.sz)::r)
  | _,_=>none
def absBuild (P:Program) (t:TypeId) (q:List (Nat×AV)):Option AV :=
 match xH7 P t with
 | some ti=>match ti.d,ti.zero with
  | .struct fs,.agg z=>match placesOf P fs.toList with
   | some pl=>match absFill (fun i=>pl[i]?) z q with
    | some cs=>some (.agg cs)
    | none=>none
   | none=>none
  | .array _ e,.agg z=>match xH7 P e with
   | some te=>match absFill (fun i=>some (i*te.sz,te.sz)) z q with
    | some cs=>some (.agg cs)
    | none=>none
   | none=>none
  | _,_=>none
 | none=>none
def absB (x:Option AV) (q len:Nat):Option Nat :=
 match x with
 | none=>some q
 | some (.int _ n)=>if 0<=n/\n<=(len:Int) then some n.toNat else none
 | some _=>none
def xIG (lo hi:Option AV) (len:Nat):Option (Nat×Nat) :=
 match absB hi len len with
 | none=>none
 | some h=>match absB lo 0 h with
  | none=>none
  | some l=>some (l,h)
def xIM (P:Program) (H:List Box) (t:TypeId) (x:AV) (lo hi:Option AV):Option AV :=
 match xH7 P t with
 | some ti=>match ti.d,x with
  | .string,.str s=>match xIG lo hi s.length with
   | some (l,h)=>some (.str ((s.drop l).take (h - l)))
   | none=>none
  | .slice e,.list sz xs=>match xH7 P e with
   | some te=>if te.sz=sz then match xIG lo hi xs.length with
    | some (l,h)=>some (.list sz ((xs.drop l).take (h - l)))
    | none=>none else none
   | none=>none
  | .slice e,.nils=>match xH7 P e with
   | some _=>match xIG lo hi 0 with
    | some _=>some .nils
    | none=>none
   | none=>none
  | .slice e,.osl id ver off len=>match xH7 P e,xIb H id ver with
   | some te,some bx=>if te.sz=bx.sz then match xIG lo hi len with
    | some (l,h)=>some (.osl id ver (off+l) (h - l))
    | none=>none else none
   | _,_=>none
  | _,_=>none
 | none=>none
def xIf (P:Program) (H:List Box) (t:TypeId) (x ix:AV):Option AV :=
 match xH7 P t,ix with
 | some ti,.int _ n=>match ti.d,x with
  | .slice e,.list sz xs=>match xH7 P e with
   | some te=>if te.sz=sz/\0<=n/\n<(xs.length:Int) then some (.eptr sz xs n.toNat 0) else none
   | none=>none
  | .slice e,.osl id ver off len=>match xH7 P e,xIb H id ver with
   | some te,some bx=>if te.sz=bx.sz/\0<=n/\n<(len:Int) then some (.own id ver (off+n.toNat) 0) else none
   | _,_=>none
  | .array m e,.own id ver i j=>match xH7 P e,xIb H id ver with
   | some te,some bx=>if 0<=n/\n<(m:Int) then some (.own id ver i (j+n.toNat*te.sz)) else none
   | _,_=>none
  | .array m e,.eptr sz xs i j=>match xH7 P e with
   | some te=>if 0<=n/\n<(m:Int) then some (.eptr sz xs i (j+n.toNat*te.sz)) else none
   | none=>none
  | _,_=>none
 | _,_=>none
def xIk (P:Program) (H:List Box) (t:TypeId) (x:AV) (f:Nat):Option AV :=
 match xH7 P t with
 | some ti=>match ti.d with
  | .struct fs=>match fs[f]? with
   | some fd=>match xH7 P fd.type with
    | some tf=>if tf.sz=0 then none else match x with
     | .eptr sz xs i j=>some (.eptr sz xs i (j+fd.offset))
     | .own id ver i j=>match xIb H id ver with
      | some _=>some (.own id ver i (j+fd.offset))
      | none=>none
     | _=>none
    | none=>none
   | none=>none
  | _=>none
 | none=>none
def absPart (ti:TI) (cs:List AV) (off:Nat):Option AV :=
 if ti.agg=true then (if off+ti.sz<=cs.length then some (.agg ((cs.drop off).take ti.sz)) else none)
 else if off<cs.length then some (cs.getD off .top) else none
def absField (P:Program) (t:TypeId) (x:AV) (f:Nat):Option AV :=
 match xH7 P t,x with
 | some ti,.agg cs=>match ti.d with
  | .struct fs=>match fs[f]? with
   | some fd=>match xH7 P fd.type with
    | some tf=>absPart tf cs fd.offset
    | none=>none
   | none=>none
  | _=>none
 | _,_=>none
def absIndex (P:Program) (t:TypeId) (x ix:AV):Option AV :=
 match xH7 P t,ix with
 | some ti,.int _ n=>match ti.d,x with
  | .string,.str s=>if 0<=n/\n<(s.length:Int) then some (.int .u8 ((s.getD n.toNat 0).toNat)) else none
  | .array m e,.agg cs=>match xH7 P e with
   | some te=>if 0<=n/\n<(m:Int) then absPart te cs (n.toNat*te.sz) else none
   | none=>none
  | _,_=>none
 | _,_=>none
def absLen (P:Program) (H:List Box) (t:TypeId) (x:AV):Option AV :=
 match xH7 P t with
 | some ti=>match ti.d,x with
  | .string,.str s=>some (.int .i64 s.length)
  | .slice _,.list _ xs=>some (.int .i64 xs.length)
  | .slice _,.nils=>some (.int .i64 0)
  | .slice _,.osl id ver _ len=>match xIb H id ver with
   | some _=>some (.int .i64 len)
   | none=>none
  | _,_=>none
 | none=>none
def absMin:AV->List AV->Option AV
 | x,[]=>some x
 | .int k x,.int k' y::rest=>absMin (.int k (if y<x then y else x)) rest
 | _,_=>none
def absMax:AV->List AV->Option AV
 | x,[]=>some x
 | .int k x,.int k' y::rest=>absMax (.int k (if y>x then y else x)) rest
 | _,_=>none
def absUn (op:UnOp) (x:AV):Option AV :=
 match op,x with
 | .not,.bool b=>some (.bool (!b))
 | .neg,.int k n=>some (.int k (k.wrap (0 - n)))
 | _,_=>none
def absConv (P:Program) (s d:TypeId) (x:AV):Option AV :=
 match xH7 P s,xH7 P d with
 | some _,some td=>match td.d,x with
  | .int k,.int _ n=>some (.int k (k.wrap n))
  | .string,.str l=>some (.str l)
  | _,_=>none
 | _,_=>none
def absMake (P:Program) (nid:Nat) (t:TypeId) (l c:AV):Option (AV×Option Box) :=
 match xH7 P t,l,c with
 | some ti,.int _ l,.int _ c=>match ti.d with
  | .slice e=>match xH7 P e with
   | some te=>if 0<=l/\l<=c/\(te.bytes:Int)*c<=281474976710656/\c<=4611686018427387904/\te.zero.okElem te.sz=true then
    some (.osl nid 0 0 l.toNat,some ⟨0,te.sz,e,List.replicate l.toNat te.zero,false,te.zero.pure⟩) else none
   | none=>none
  | _=>none
 | _,_,_=>none
def fop (P:Program) (ρ:Operand->AV) (H:List Box) (nid:Nat) (op:Op):Option (AV×Option Box) :=
 match op with
 | .move x|.assign x=>some (ρ x,none)
 | .pick c a b=>match ρ c with
  | .bool t=>some (if t=true then ρ a else ρ b,none)
  | _=>none
 | .alloc e=>match xH7 P e with
  | some ti=>if ti.zero.okElem ti.sz=true then some (.own nid 0 0 0,some ⟨0,ti.sz,e,[ti.zero],false,ti.zero.pure⟩) else none
  | none=>none
 | .box e x=>if (ρ x).cells.all AV.one=true/\isC e=false then some (.own nid 0 0 0,some ⟨0,(ρ x).cells.length,e,[ρ x],false,(ρ x).pure⟩) else none
 | .build t parts=>match absBuild P t (parts.toList.map fun p=>(p.1,ρ p.2)) with
  | some r=>some (r,none)
  | none=>none
 | .buildSlice t len parts=>match xH7 P t with
  | some ti=>match ti.d with
   | .slice e=>match xH7 P e with
    | some te=>if len*te.sz<=16777216/\0<te.sz/\te.zero.okElem te.sz=true then
     match absSet te.sz (List.replicate len te.zero) (parts.toList.map fun p=>(p.1,ρ p.2)) with
     | some xs=>some (.osl nid 0 0 len,some ⟨0,te.sz,e,xs,false,AV.pures xs⟩)
     | none=>none else none
    | none=>none
   | _=>none
  | none=>none
 | .load t a=>match xH7 P t with
  | some ti=>match xI0 H ti (ρ a) with
   | some x=>some (x,none)
   | none=>none
  | none=>none
 | .nilCheck x=>match ρ x with
  | .eptr sz xs i j=>some (.eptr sz xs i j,none)
  | .own id ver i j=>match xIb H id ver with
   | some _=>some (.own id ver i j,none)
   | none=>none
  | .func f cs=>match Nat.beq f vpF with
   | true=>none
   | false=>some (.func f cs,none)
  | _=>none
 | .binOp op t x y _=>match absBin P op t (ρ x) (ρ y) with
  | some r=>some (r,none)
  | none=>none
 | .unOp op _ x=>match absUn op (ρ x) with
  | some r=>some (r,none)
  | none=>none
 | .convert s d x=>match absConv P s d (ρ x) with
  | some r=>some (r,none)
  | none=>none
 | .makeFunc fn first captured=>match fn with
  | .func f=>if first=#[]/\Nat.beq f vpF=false then some (.func f (captured.toList.map ρ),none) else none
  | _=>none
 | .makeSlice t l c=>absMake P nid t (ρ l) (ρ c)
 | .slice t x lo hi mx=>match mx with
  | none=>match xIM P H t (ρ x) (lo.map ρ) (hi.map ρ) with
   | some r=>some (r,none)
   | none=>none
  | some _=>none
 | .fieldAddr t x f=>match xIk P H t (ρ x) f with
  | some r=>some (r,none)
  | none=>none
 | .field t x f=>match absField P t (ρ x) f with
  | some r=>some (r,none)
  | none=>none
 | .indexAddr t x ix=>match xIf P H t (ρ x) (ρ ix) with
  | some r=>some (r,none)
  | none=>none
 | .index t x ix=>match absIndex P t (ρ x) (ρ ix) with
  | some r=>some (r,none)
  | none=>none
 | .extract x i=>match ρ x with
  | .tuple vs=>match vs[i]? with
   | some v=>some (v,none)
   | none=>none
  | _=>none
 | .call c=>match c.callee with
  | .builtin b=>match b,c.argTypes.toList,c.args.toList.map ρ with
   | .len,t::_,[x]=>match absLen P H t x with
    | some r=>some (r,none)
    | none=>none
   | .min,_,x::rest=>match absMin x rest with
    | some r=>some (r,none)
    | none=>none
   | .max,_,x::rest=>match absMax x rest with
    | some r=>some (r,none)
    | none=>none
   | _,_,_=>none
  | _=>none
 | _=>none
end Go.Sim
namespace Go.Sim
open Go.RowKit
def xfl (b o n:Nat):(⟨b,o,none⟩:Addr).add n=⟨b,o+n,none⟩:=by
 unfold Addr.add;split<;>simp_all
section
variable {P : Program} {w : World} {A : Nat -> Prop} {M : Id -> Option MB} {B : Nat} {H : List Box}
def xaJ {id:Id} {ver:Nat} {bx:Box} (h:xIb H id ver=some bx):getB H id=some bx/\bx.ver=ver:=by grind [xIb]
def xb1 {id:Id} {ver:Nat} {bx:Box} (h:xIb H id ver=some bx):xIa bx.ty=false:=by grind [xIb]
def xvY {t:TypeId} (h:¬ 1208925819614629174706176<=t):xIa t=false:=by
 unfold xIa;cases hb:Nat.ble 1208925819614629174706176 t with
 | false=>rfl
 | true=>exact absurd (Nat.le_of_ble_eq_true hb) h
def xaH {t:TypeId} (h:isC t=false):xIa t=false:=by
 refine xvY fun h'=>?_
 have:Nat.ble 1048576 t=true:=Nat.ble_eq_true_of_le (Nat.le_trans (by decide) h')
 unfold isC at h;rw [this] at h;cases h
def xA5 {t:TypeId} (h:xIa t=false):xIa (rty t)=false:=by
 unfold rty;split
 . rw [h];refine xvY fun h'=>?_
   have h1:t % 1048576<1048576:=Nat.mod_lt _ (by decide)
   exact absurd (Nat.lt_of_lt_of_le h1 (Nat.le_trans (by decide) h')) (Nat.lt_irrefl _)
 . exact h
def xjf {m:MB} {i j:Nat} (h:xIa m.ty=false):ptrOf m i j=.pointer (some ⟨m.b,i*m.sz+j,none⟩):=by unfold ptrOf;rw [h]
def BoxAt.nomap {id:Id} {m:MB} {bx:Box} (h:BoxAt w A M B id m bx) (hb:xIa bx.ty=false):xIa m.ty=false:=by
 rw [<-h.ty];exact xA5 hb
def xkQ (hR:HR w A M B H) {v:Value} {id:Id} {ver i j:Nat} {bx:Box} (h:Rel w A M v (.own id ver i j)) (hb:xIb H id ver=some bx) :
  ∃ m,M id=some m/\BoxAt w A M B id m bx/\v=.pointer (some ⟨m.b,i*m.sz+j,none⟩):=by
 obtain ⟨q,D⟩:=xaJ hb;cases h with
 | own _ _ _ _ _ m hm hv h1 he =>
  obtain ⟨bx',h2,h3⟩:=hR.box id m hm;rw [q] at h2;cases h2;exact ⟨m,hm,h3,by rw [he (by rw [<-D,h3.ver]),xjf (h3.nomap (xb1 hb))]⟩
def Rel.osl_inv {v:Value} {id:Id} {ver off len:Nat} (h:Rel w A M v (.osl id ver off len)):∃ m,M id=some m/\ver<=m.ver/\v.oneCell'=true/\(ver=m.ver->off+len<=m.cap/\∃ a,v=.slice a len (m.cap - off)/\(off<m.cap->a=some ⟨m.b,off*m.sz,none⟩)):=by
 generalize hx:AV.osl id ver off len=x at h;cases h<;>simp at hx;obtain ⟨rfl,rfl,rfl,rfl⟩:=hx;exact ⟨_,by assumption,by assumption,by assumption,by assumption⟩
def xil (hR:HR w A M B H) {v:Value} {id:Id} {ver off len:Nat} {bx:Box} (h:Rel w A M v (.osl id ver off len)) (hb:xIb H id ver=some bx) :
  ∃ m a,M id=some m/\BoxAt w A M B id m bx/\off+len<=m.cap/\v=.slice a len (m.cap - off)/\(off<m.cap->a=some ⟨m.b,off*m.sz,none⟩):=by
 obtain ⟨q,D⟩:=xaJ hb;cases h with
 | osl _ _ _ _ _ m hm hv h1 he =>
  obtain ⟨bx',h2,h3⟩:=hR.box id m hm;rw [q] at h2;cases h2;obtain ⟨h4,a,h5,h6⟩:=he (by rw [<-D,h3.ver])
  exact ⟨m,a,hm,h3,h4,h5,h6⟩
def BoxAt.cell' {id:Id} {m:MB} {bx:Box} (h:BoxAt w A M B id m bx) (hn:xIa m.ty=false) {i j:Nat} (hi:i<bx.xs.length) (hj:j<m.sz) :
  ∃ v,w.cell? ⟨m.b,i*m.sz+j,none⟩=some v/\Rel w A (MV M bx j) v (xIw id.base i j bx.ty ((bx.xs.getD i .top).cells.getD j .top)):=by
 obtain ⟨c,h1,h2,h3⟩:=h.cells (by have:=h.fits;omega)
 replace h1:=h1.plain hn
 have hk:i*m.sz+j<c.size:=by
  rw [h2];have:(i+1)*m.sz<=m.cap*m.sz:=Nat.mul_le_mul_right _ (Nat.le_trans hi h.fits);rw [Nat.add_mul,Nat.one_mul] at this;omega
 refine ⟨c.getD (i*m.sz+j) undef,?_,h3 i j hi hj⟩;simp [World.cell?,h1,hk]
def BoxAt.cell {id:Id} {m:MB} {bx:Box} (h:BoxAt w A M B id m bx) (hn:xIa m.ty=false) {i j:Nat} (hi:i<bx.xs.length) (hj:j<m.sz) :
  ∃ v,w.cell? ⟨m.b,i*m.sz+j,none⟩=some v/\Rel w A M v (xIw id.base i j bx.ty ((bx.xs.getD i .top).cells.getD j .top)):=by
 obtain ⟨v,h1,h2⟩:=h.cell' hn hi hj;exact ⟨v,h1,h2.unmv⟩
def xo2 {t:TypeId} {ti:TI} (ht:xH7 P t=some ti) {b o:Nat} {cs:List AV} {sz j:Nat} {r:AV} (D:cs.length=sz)
  (hc:∀ j,j<sz->∃ v,w.cell? ⟨b,o+j,none⟩=some v/\Rel w A M v (cs.getD j .top)) (h:absLoad ti sz cs j=some r) :
  ∃ v,(Instr.loadAt t (.pointer (some ⟨b,o+j,none⟩))).run P w=.ok v w/\Rel w A M v r:=by
 unfold absLoad at h;split at h
 case isFalse=>simp at h
 rename_i J;split at h
 . rename_i ha;cases h;have q:=run_loadCells (P:=P) w ⟨b,o+j,none⟩ ti.sz (fun k=>(w.cell? ⟨b,o+(j+k),none⟩).getD undef) (fun k hk=>by
    obtain ⟨v,hv,_⟩:=hc (j+k) (by omega)
    rw [xfl,Nat.add_assoc,hv];rfl)
   refine ⟨_,by simp [Instr.loadAt,Instr.sureAddr,loadVar,xj5 ht,ha,xcx ht,q];rfl,?_⟩
   refine .agg _ _ (by simp;omega) fun i hi=>?_
   have hi':i<ti.sz:=by simp at hi;omega
   obtain ⟨v,hv,hr⟩:=hc (j+i) (by omega)
   have e1:(((List.range ti.sz).map fun k=>(w.cell? ⟨b,o+(j+k),none⟩).getD undef).toArray).getD i undef=v:=by
    simp [hi',hv]
   have e2:((cs.drop j).take ti.sz).getD i .top=cs.getD (j+i) .top:=by
    simp [z7,List.getElem?_take,hi',List.getElem?_drop]
   rw [e1,e2];exact hr
 . rename_i ha;split at h
   . rename_i h1;cases h;obtain ⟨v,hv,hr⟩:=hc j (by omega)
     exact ⟨v,by simp [Instr.loadAt,Instr.sureAddr,loadVar,xj5 ht,ha,hv],hr⟩
   . simp at h
def xaw {sz:Nat} {x:AV} (h:x.okElem sz=true):x.cells.length=sz:=by
 simp [AV.okElem] at h;exact h.1
def xa1 {sz:Nat} {x:AV} (h:x.okElem sz=true):x.cells.all AV.one=true:=by
 simp [AV.okElem] at h;simpa using h.2
def xqj {t:TypeId} {ti:TI} (ht:xH7 P t=some ti) (hR:HR w A M B H) {v:Value} {x r:AV} (hv:Rel w A M v x) (h:xI0 H ti x=some r) :
  ∃ u,(Instr.loadAt t v).run P w=.ok u w/\Rel w A M u r:=by
 unfold xI0 at h;split at h
 . rename_i sz xs i j;split at h
   case h_2=>simp at h
   rename_i e he;cases hv with
   | eptr b off _ _ _ _ val ha hb hi hsz hc hr =>
    have O:e∈xs:=List.mem_of_getElem? he;have hg:xs.getD i .top=e:=by simp [z7,he]
    refine xo2 ht (b:=b) (o:=off+i*sz) (xaw (hsz e O)) (fun k hk=>⟨val i k,hc i k hi hk,?_⟩) h
    have:=(hr i k hi hk).lift M;rwa [hg] at this
 . rename_i id ver i j;split at h
   case h_2=>simp at h
   rename_i bx J;split at h
   case h_2=>simp at h
   rename_i e he;obtain ⟨m,hm,q,rfl⟩:=xkQ hR hv J;have hi:i<bx.xs.length:=by
    rcases zK i bx.xs.length with h'|h'
    . exact h'
    . simp [zA h'] at he
   have hg:bx.xs.getD i .top=e:=by simp [z7,he]
   rw [q.sz] at h;have hl:=xaw (q.ok e (List.mem_of_getElem? he));refine xo2 ht (b:=m.b) (o:=i*m.sz) (by rw [xBA];exact hl) (fun k hk=>?_) h
   have:=q.cell (q.nomap (xb1 J)) hi hk;rw [hg] at this;rw [xqD _ _ _ _ _ (by omega)]
   exact this
 . rename_i f cs;split at h
   . rename_i x' Q;split at h
     case isFalse=>simp at h
     rename_i hc;simp only [z6] at h;subst h;have hf:=zh Q;subst hf;obtain ⟨b,off,v0,rfl,ha,hb,D,hr⟩:=hv.vptr_inv;refine xo2 ht (b:=b) (o:=off) (cs:=[x']) (sz:=1) (j:=0) rfl (fun k hk=>?_) ?_
     . obtain rfl:k=0:=by omega
       exact ⟨v0,D,hr⟩
     . unfold absLoad;rw [if_pos (by omega),if_neg (by rw [hc.2];simp),if_pos hc.1]
       rfl
   . simp at h
 . simp at h
def xmW (s:ByteArray):s.toList=s.data.toList:=ByteArray.toList_eq s
def xj6 (s:ByteArray):s.size=s.data.toList.length:=by rw [Array.length_toList];rfl
def xB3 {a b:AV} {r:Bool} (h:eqSK .int a b=some r):∃ k n m,a=.int k n/\b=.int k m/\r=(n==m):=by
 cases a<;>cases b<;>simp [eqSK] at h;obtain ⟨rfl,h⟩:=h;exact ⟨_,_,_,rfl,rfl,h.symm⟩
def xB4 {a b:AV} {r:Bool} (h:eqSK .str a b=some r):∃ n m,a=.str n/\b=.str m/\r=(n==m):=by
 cases a<;>cases b<;>simp [eqSK] at h;exact ⟨_,_,rfl,rfl,h.symm⟩
def xAG {a b:AV} {r:Bool} (h:eqSK .bool a b=some r):∃ n m,a=.bool n/\b=.bool m/\r=(n==m):=by
 cases a<;>cases b<;>simp [eqSK] at h;exact ⟨_,_,rfl,rfl,h.symm⟩
def xuk (d:Nat) (xs ys:Array Value):∀ (fs:List Field) (pl:List (Nat×SK)) (aS bs:List AV) (r:Bool),planF P fs=some pl->eqCells pl aS bs=some r ->
  xs.size=aS.length->ys.size=bs.length ->
  (∀ i,i<aS.length->Rel w A M (xs.getD i undef) (aS.getD i .top))->(∀ i,i<bs.length->Rel w A M (ys.getD i undef) (bs.getD i .top)) ->
  (Op.eqFields (d+1) xs ys fs).run P w=.ok r w
 | [],pl,aS,bs,r,hp,he,_,_,_,_=>by
  simp only [planF,z6] at hp;subst hp;simp only [eqCells,z6] at he;subst he;simp [Op.eqFields]
 | f::fs,pl,aS,bs,r,hp,he,hxs,hys,hx,hy=>by
  unfold planF at hp;split at hp
  . simp at hp
  rename_i O;split at hp
  case h_2=>simp at hp
  rename_i ti rest D V;have key:∀ (s:SK),eqCells ((f.offset,s)::rest) aS bs=some r->∃ a b r1 r2,aS.getD f.offset .top=a/\bs.getD f.offset .top=b/\eqSK s a b=some r1/\eqCells rest aS bs=some r2/\r=(r1&&r2):=by
   intro s hs;unfold eqCells at hs;split at hs
   . rename_i r1 r2 h1 h2;simp only [z6] at hs;exact ⟨_,_,r1,r2,rfl,rfl,h1,h2,hs.symm⟩
   . simp at hs
  have J:∀ (u v:Value) (r1 r2:Bool),ti.agg=false->xs[f.offset]?=some u->ys[f.offset]?=some v->eqCells rest aS bs=some r2 ->
    (Op.equalIn (d+1) f.type u v).run P w=.ok r1 w->(Op.eqFields (d+1) xs ys (f::fs)).run P w=.ok (r1&&r2) w:=by
   intro u v r1 r2 ha hu hv h2 Y;have ih:=xuk d xs ys fs rest aS bs r2 V h2 hxs hys hx hy;have p1:(part f.type xs f.offset).run P w=.ok u w:=by simp [part,xj5 D,ha,hu]
   have p2:(part f.type ys f.offset).run P w=.ok v w:=by simp [part,xj5 D,ha,hv]
   simp only [Op.eqFields,ne_eq,O,not_false_eq_true,if_true,Sem.run_bind,p1,p2,Y,Result.andThen_ok];cases r1 with
   | false=>simp
   | true=>simpa using ih
  have at_:∀ (zs:Array Value) (cs:List AV) (c:AV),zs.size=cs.length->(∀ i,i<cs.length->Rel w A M (zs.getD i undef) (cs.getD i .top))->cs.getD f.offset .top=c->c≠.top->∃ u,zs[f.offset]?=some u/\Rel w A M u c:=by
   intro zs cs c hz W hc hne;have Z:f.offset<cs.length:=by
    rcases zK f.offset cs.length with h'|h'
    . exact h'
    . rw [z7,zA h'] at hc;exact absurd hc.symm hne
   have hz':f.offset<zs.size:=by omega
   refine ⟨zs[f.offset],by simp [hz'],?_⟩
   have:=W _ Z;rw [hc] at this;simpa [hz'] using this
  have Q:P.underlying f.type=some ti.d:=by obtain ⟨_,_,_,h2,_⟩:=xa2 D;exact h2
  have q:ti.agg=isAggDesc ti.d:=by obtain ⟨_,_,_,_,_,_,_,_,h7⟩:=xa2 D;exact h7
  split at hp
  . rename_i k hk;cases hp;obtain ⟨a,b,r1,r2,ha,hb,h1,h2,rfl⟩:=key _ he;obtain ⟨k1,n,m,rfl,rfl,rfl⟩:=xB3 h1;obtain ⟨u,hu,ru⟩:=at_ xs aS _ hxs hx ha (by simp)
    obtain ⟨v,hv,rv⟩:=at_ ys bs _ hys hy hb (by simp)
    have eu:=ru.int_inv;have ev:=rv.int_inv;subst eu;subst ev;exact J _ _ _ _ (by rw [q,hk];rfl) hu hv h2 (run_equalIn_int w d f.type _ k _ _ (by rw [Q,hk]))
  . rename_i hk;cases hp;obtain ⟨a,b,r1,r2,ha,hb,h1,h2,rfl⟩:=key _ he;obtain ⟨n,m,rfl,rfl,rfl⟩:=xB4 h1;obtain ⟨u,hu,ru⟩:=at_ xs aS _ hxs hx ha (by simp)
    obtain ⟨v,hv,rv⟩:=at_ ys bs _ hys hy hb (by simp)
    obtain ⟨s1,eu,e1⟩:=ru.str_inv;obtain ⟨s2,ev,e2⟩:=rv.str_inv;subst eu;subst ev;have:=run_equalIn_string (P:=P) w d f.type s1 s2 (by rw [Q,hk])
    rw [xmW,xmW,e1,e2] at this;exact J _ _ _ _ (by rw [q,hk];rfl) hu hv h2 this
  . rename_i hk;cases hp;obtain ⟨a,b,r1,r2,ha,hb,h1,h2,rfl⟩:=key _ he;obtain ⟨n,m,rfl,rfl,rfl⟩:=xAG h1;obtain ⟨u,hu,ru⟩:=at_ xs aS _ hxs hx ha (by simp)
    obtain ⟨v,hv,rv⟩:=at_ ys bs _ hys hy hb (by simp)
    have eu:=ru.bool_inv;have ev:=rv.bool_inv;subst eu;subst ev;exact J _ _ _ _ (by rw [q,hk];rfl) hu hv h2 (run_equalIn_bool' w d f.type _ _ (by rw [Q,hk]))
  . simp at hp
def xu9 {op:BinOp} {t:TypeId} {k:IntKind} {a b:Int} {r:AV} (h:absInt op k a b=some r) :
  ∃ v,(binOp op t (.int k a) (.int k b)).run P w=.ok v w/\Rel w A M v r:=by
 unfold absInt at h;cases op<;>simp only at h<;>first
  | (simp at h;done)
  | (cases h;exact ⟨_,by rw [binOp_and];rfl,.int _ _⟩)
  | (cases h;exact ⟨_,by simp [binOp,Op.intArith,Op.intCmp];rfl,by first|exact .int _ _|exact .bool _⟩)
  | (
   split at h
   . simp at h
   . rename_i hb;cases h;exact ⟨_,by simp [binOp,Op.intDiv,hb],.int _ _⟩)
def xvb {op:BinOp} {t:TypeId} {a b:ByteArray} {r:AV} (h:absStr op a.data.toList b.data.toList=some r) :
  ∃ v,(binOp op t (.string a) (.string b)).run P w=.ok v w/\Rel w A M v r:=by
 unfold absStr at h;cases op<;>simp only at h<;>first
  | (simp at h;done)
  | (cases h;exact ⟨_,by simp only [binOp,Op.stringOp,xmW,Sem.run_pure],.bool _⟩)
  | (
   split at h
   . rename_i q;cases h;have hle':a.size+b.size<=4611686018427387904:=by rw [xj6,xj6];exact q
     have hn:¬ (((a.size+b.size:Nat):Int)>IntKind.i64.max):=by
      have:IntKind.i64.max=9223372036854775807:=by decide
      rw [this];omega
     refine ⟨.string (a++b),by simp only [binOp,Op.stringOp,hn,if_false,Sem.run_pure],?_⟩
     have:(a++b).data.toList=a.data.toList++b.data.toList:=by simp
     rw [<-this];exact .str _
   . simp at h)
def xu8 {op:BinOp} {t:TypeId} {x y:Operand} {vx vy:Value} {ax ay r:AV} (hx:Rel w A M vx ax) (hy:Rel w A M vy ay) (h:absBin P op t ax ay=some r) :
  ∃ v,(do eqGuard op t x y vx vy;binOp op t vx vy:Sem Value).run P w=.ok v w/\Rel w A M v r:=by
 unfold absBin at h;split at h
 . rename_i k a k' b;split at h
   . rename_i ac;have ex:=hx.int_inv;have ey:=hy.int_inv;subst ex;subst ey;have hg:(eqGuard op t x y (.int k a) (.int k' b)).run P w=.ok () w:=by cases op<;>simp [eqGuard]
     unfold absShift at h;split at h
     . simp at h
     rename_i hb;split at h
     . cases h;exact ⟨_,by simp [hg,binOp,Op.shift,hb],.int _ _⟩
     . cases h;exact ⟨_,by simp [hg,binOp,Op.shift,hb],.int _ _⟩
     . simp at h
   split at h
   . rename_i hk;subst hk;have ex:=hx.int_inv;have ey:=hy.int_inv;subst ex;subst ey;obtain ⟨v,hv,hr⟩:=xu9 (P:=P) (w:=w) (A:=A) (M:=M) (t:=t) h;refine ⟨v,?_,hr⟩;have hg:(eqGuard op t x y (.int k a) (.int k b)).run P w=.ok () w:=by cases op<;>simp [eqGuard]
     simp only [Sem.run_bind,hg,Result.andThen_ok,hv]
   . simp at h
 . obtain ⟨s1,e1,h1⟩:=hx.str_inv;obtain ⟨s2,e2,h2⟩:=hy.str_inv;subst e1;subst e2;subst h1;subst h2;obtain ⟨v,hv,hr⟩:=xvb (P:=P) (w:=w) (A:=A) (M:=M) (t:=t) h;refine ⟨v,?_,hr⟩;have hg:(eqGuard op t x y (.string s1) (.string s2)).run P w=.ok () w:=by cases op<;>simp [eqGuard]
   simp only [Sem.run_bind,hg,Result.andThen_ok,hv]
 . rename_i a b;have ex:=hx.bool_inv;have ey:=hy.bool_inv;subst ex;subst ey;split at h
   case h_2=>simp at h
   rename_i ti Z;have hg:(eqGuard op t x y (.bool a) (.bool b)).run P w=.ok () w:=by cases op<;>simp [eqGuard]
   have V:P.underlying t=some ti.d:=by obtain ⟨_,_,_,h2,_⟩:=xa2 Z;exact h2
   split at h
   . rename_i hd;cases h;have:=run_equalIn_bool' (P:=P) w 9999 t a b (by rw [V,hd])
     exact ⟨_,by simp [hg,binOp,Op.equal,Op.maxDepth,this],.bool _⟩
   . rename_i hd;cases h;have:=run_equalIn_bool' (P:=P) w 9999 t a b (by rw [V,hd])
     exact ⟨_,by simp [hg,binOp,Op.equal,Op.maxDepth,this],.bool _⟩
   . simp at h
 . rename_i xs ys;obtain ⟨us,e1,Y,ab⟩:=hx.agg_inv;obtain ⟨vs,e2,aa,W⟩:=hy.agg_inv;subst e1;subst e2;split at h
   case h_2=>simp at h
   rename_i pl q;unfold eqPlan at q;split at q
   . simp at q
   rename_i J;simp only [Bool.or_eq_true,not_or,Bool.not_eq_true] at J;split at q
   case h_2=>simp at q
   rename_i fs O;have Q:P.fieldsOf t=fs:=by simp [Program.fieldsOf,O]
   have hg:=run_eqGuard_agg (P:=P) w op t x y us vs J.2;have run:∀ r',eqCells pl xs ys=some r'->(Op.equalIn 10000 t (.agg us) (.agg vs)).run P w=.ok r' w:=by
    intro r' D;rw [run_equalIn_struct (P:=P) w 9999 t us vs (by rw [Q];exact O) J.1,Q]
    exact xuk 9998 us vs fs.toList pl xs ys r' q D Y aa ab W
   split at h
   . rename_i r' D;cases h;exact ⟨_,by simp only [Sem.run_bind,hg,Result.andThen_ok,run_eql_struct,run _ D],.bool _⟩
   . rename_i r' D;cases h;exact ⟨_,by simp only [Sem.run_bind,hg,Result.andThen_ok,run_neq_struct,run _ D],.bool _⟩
   . simp at h
 . simp at h
end
end Go.Sim
namespace Go.Sim
open Go.RowKit
def setAll (c:Array Value) (off:Nat) (vs:Array Value):Array Value:=vs.zipIdx.foldl (fun cs (x,j)=>cs.setIfInBounds (off+j) x) c
def xrq (off:Nat):∀ (l:List Value) (k:Nat) (c:Array Value),off+k+l.length<=c.size ->
  ((l.zipIdx k).foldl (fun cs (x,j)=>cs.setIfInBounds (off+j) x) c).toList=c.toList.take (off+k)++l++c.toList.drop (off+k+l.length)
 | [],k,c,_=>by simp
 | v::l,k,c,h=>by
  have h':off+(k+1)+l.length<=(c.setIfInBounds (off+k) v).size:=by simp at h |-;omega
  have ih:=xrq off l (k+1) (c.setIfInBounds (off+k) v) h';simp only [List.zipIdx_cons,List.foldl_cons,ih,Array.toList_setIfInBounds];have q:off+k<c.toList.length:=by simp at h |-;omega
  apply List.ext_getElem?;intro i;simp only [zG,Nat.add_assoc,Nat.add_comm 1];by_cases h1:i<off+k
  . simp [zQ,List.getElem?_take,zu,y8,h1,show i<off+(k+1) by omega]
    have e1:i<min (off+k) c.size:=by simp at q;omega
    have e2:i<min (off+(k+1)) c.size:=by simp at q;omega
    simp [e1,e2,List.getElem?_set,show ¬ off+k=i by omega]
  . by_cases h2:i=off+k
    . subst h2;simp at q;simp [zQ,List.getElem?_take,zu,y8,q,show off+k<off+(k+1) by omega,show min (off+(k+1)) c.size=off+(k+1) by omega,show min (off+k) c.size=off+k by omega]
    . simp at q;have e1:min (off+(k+1)) c.size=off+(k+1):=by omega
      have e2:min (off+k) c.size=off+k:=by omega
      simp only [zx,zQ,zu,y8,Array.length_toList,e1,e2,zG,show ¬ i<off+k from h1,show ¬ i<off+(k+1) by omega,if_false,List.getElem?_drop,List.getElem?_set]
      by_cases h3:i - (off+(k+1))<l.length
      . have e3:i - (off+k)=(i - (off+(k+1)))+1:=by omega
        simp [h3,e3]
      . have e3:¬ (i - (off+k)<l.length+1):=by omega
        simp only [h3,e3,if_false];have e4:off+(k+(l.length+1))+(i - (off+k) - (l.length+1))=off+(k+(l.length+1))+(i - (off+(k+1)) - l.length):=by omega
        rw [e4];simp [show ¬ off+k=off+(k+(l.length+1))+(i - (off+(k+1)) - l.length) by omega]
def xpD {c:Array Value} {off:Nat} {vs:Array Value} (h:off+vs.size<=c.size) :
  (setAll c off vs).toList=c.toList.take off++vs.toList++c.toList.drop (off+vs.size):=by
 have:=xrq off vs.toList 0 c (by simpa using h)
 have e:setAll c off vs=(vs.toList.zipIdx 0).foldl (fun cs (x,j)=>cs.setIfInBounds (off+j) x) c:=by
  unfold setAll;rw [<-Array.foldl_toList,Array.toList_zipIdx]
 rw [e,this];simp
section
variable {P : Program} {w : World} {A : Nat -> Prop} {M : Id -> Option MB} {B : Nat} {H : List Box}
def RC (w:World) (A:Nat->Prop) (M:Id->Option MB) (c:List Value) (cs:List AV):Prop:=c.length=cs.length/\∀ i,i<cs.length->Rel w A M (c.getD i undef) (cs.getD i .top)
def RC.append {c c':List Value} {cs q:List AV} (h:RC w A M c cs) (h':RC w A M c' q):RC w A M (c++c') (cs++q):=by
 refine ⟨by simp [h.1,h'.1],fun i hi=>?_⟩
 simp only [z7,zQ,h.1];by_cases h1:i<cs.length
 . simp only [h1,if_true];have:=h.2 i h1;simpa [z7] using this
 . simp only [h1,if_false];have:=h'.2 (i - cs.length) (by simp at hi;omega);simpa [z7] using this
def RC.take {c:List Value} {cs:List AV} (h:RC w A M c cs) (n:Nat):RC w A M (c.take n) (cs.take n):=by
 refine ⟨by simp [h.1],fun i hi=>?_⟩
 have q:i<n/\i<cs.length:=by simp at hi;omega
 have:=h.2 i q.2;simpa [z7,List.getElem?_take,q.1] using this
def RC.drop {c:List Value} {cs:List AV} (h:RC w A M c cs) (n:Nat):RC w A M (c.drop n) (cs.drop n):=by
 refine ⟨by simp [h.1],fun i hi=>?_⟩
 simp at hi;have:=h.2 (n+i) (by omega)
 simpa [z7,List.getElem?_drop] using this
def xrx {v:Value} {x:AV} (h:Rel w A M v x) (hx:x.cells.all AV.one=true):RC w A M v.cells.toList x.cells:=by
 obtain ⟨h1,h2⟩:=h.cells hx;refine ⟨by simpa using h1,fun i hi=>?_⟩
 have:=h2 i hi;simpa [z7,zv] using this
def xl4 (D:Nat->Option (Nat×Nat)):∀ (pa:List (Nat×AV)) (pc:List (Nat×Value)) (cs J:List AV) (c:Array Value),RC w A M c.toList cs ->
  pc.length=pa.length->(∀ i,i<pa.length->(pc.getD i (0,undef)).1=(pa.getD i (0,.top)).1/\Rel w A M (pc.getD i (0,undef)).2 (pa.getD i (0,.top)).2) ->
  absFill D cs pa=some J->∃ c',Instr.fill D c pc=some c'/\RC w A M c'.toList J
 | [],pc,cs,J,c,hc,hl,hp,h=>by
  simp only [absFill,z6] at h;subst h;have:pc=[]:=by simpa using hl
  subst this;exact ⟨c,rfl,hc⟩
 | (i,v)::rest,pc,cs,J,c,hc,hl,hp,h=>by
  cases pc with
  | nil=>simp at hl
  | cons q pc =>
   obtain ⟨i',u⟩:=q;have h0:=hp 0 (by simp)
   simp only [List.getD_cons_zero] at h0;obtain ⟨rfl,hu⟩:=h0;unfold absFill at h;split at h
   . simp at h
   rename_i off size Z;split at h
   case isFalse=>simp at h
   rename_i O;obtain ⟨O,ac⟩:=O;have ab:=xaw O;have V:=xa1 O;have W:=xrx hu V;have hsz:u.cells.size=size:=by have:=W.1;simp at this;omega
   have ad:c.size=cs.length:=by have:=hc.1;simpa using this
   have aa:=xpD (c:=c) (off:=off) (vs:=u.cells) (by omega)
   have Q:RC w A M (setAll c off u.cells).toList (cs.take off++v.cells++cs.drop (off+size)):=by
    rw [aa,hsz];exact ((hc.take off).append W).append (hc.drop (off+size))
   obtain ⟨c',h1,h2⟩:=xl4 D rest pc _ J (setAll c off u.cells) Q (by simpa using hl) (fun k hk=>by have:=hp (k+1) (by simp;omega);simpa using this) h
   refine ⟨c',?_,h2⟩;rw [<-h1];simp only [Instr.fill,Z];have Y:((u.cells.size≠size || off+u.cells.size>c.size):Bool)=false:=by simp [hsz];omega
   have hno':¬ ((decide (u.cells.size≠size) || decide (off+u.cells.size>c.size))=true):=by simpa using Y
   rw [if_neg hno'];rfl
def RE (w:World) (A:Nat->Prop) (M:Id->Option MB) (sz:Nat) (c:List Value) (xs:List AV):Prop :=
 xs.length*sz<=c.length/\∀ i j,i<xs.length->j<sz->Rel w A M (c.getD (i*sz+j) undef) ((xs.getD i .top).cells.getD j .top)
def xdP {i j n sz:Nat} (hi:i<n) (hj:j<sz):i*sz+j<n*sz:=by
 have:(i+1)*sz<=n*sz:=Nat.mul_le_mul_right _ hi;rw [Nat.add_mul,Nat.one_mul] at this;omega
def xDT {i i' j j' sz:Nat} (hj:j<sz) (q:j'<sz) (h:i*sz+j=i'*sz+j'):i=i'/\j=j':=by
 have e1:(i*sz+j) / sz=i:=by rw [Nat.mul_comm,Nat.mul_add_div (by omega),Nat.div_eq_of_lt hj];omega
 have e2:(i'*sz+j') / sz=i':=by rw [Nat.mul_comm,Nat.mul_add_div (by omega),Nat.div_eq_of_lt q];omega
 have:i=i':=by rw [<-e1,h,e2]
 subst this;exact ⟨rfl,by omega⟩
def RE.set {sz:Nat} {c:List Value} {xs:List AV} (h:RE w A M sz c xs) {i:Nat} (hi:i<xs.length) {vs:List Value} {x:AV} (hl:vs.length=sz) (hx:x.cells.length=sz) (hv:RC w A M vs x.cells) :
  RE w A M sz (c.take (i*sz)++vs++c.drop (i*sz+sz)) (xs.set i x):=by
 have V:i*sz+sz<=c.length:=by
  have:(i+1)*sz<=xs.length*sz:=Nat.mul_le_mul_right _ hi;rw [Nat.add_mul,Nat.one_mul] at this;have:=h.1;omega
 refine ⟨by simp [hl];have:=h.1;omega,fun i' j q hj=>?_⟩
 simp at q;by_cases he:i'=i
 . subst he;have e1:(c.take (i'*sz)++vs++c.drop (i'*sz+sz)).getD (i'*sz+j) undef=vs.getD j undef:=by
    have h1:min (i'*sz) c.length=i'*sz:=by omega
    simp only [zx,z7,zQ,zu,h1,show ¬ i'*sz+j<i'*sz by omega,if_false,show i'*sz+j - i'*sz=j by omega,hl,hj,if_true]
   have e2:(xs.set i' x).getD i' .top=x:=by simp [z7,q]
   rw [e1,e2];exact hv.2 j (by omega)
 . have e2:(xs.set i x).getD i' .top=xs.getD i' .top:=by simp [z7,List.getElem?_set,show ¬ i=i' from fun h=>he h.symm]
   rw [e2];have D:=h.2 i' j q hj;have e1:(c.take (i*sz)++vs++c.drop (i*sz+sz)).getD (i'*sz+j) undef=c.getD (i'*sz+j) undef:=by
    have h1:min (i*sz) c.length=i*sz:=by omega
    simp only [zx,z7,zQ,zu,h1];rcases zK i' i with J|Q
    . have:i'*sz+j<i*sz:=xdP J hj;simp [this,List.getElem?_take]
    . have O:i<i':=by omega
      have h3:(i+1)*sz<=i'*sz:=Nat.mul_le_mul_right _ O;rw [Nat.add_mul,Nat.one_mul] at h3;simp only [show ¬ i'*sz+j<i*sz by omega,if_false,hl,show ¬ (i'*sz+j - i*sz<sz) by omega,List.getElem?_drop]
      congr 2;omega
   rw [e1];exact D
def xpx (sz:Nat):∀ (pa:List (Nat×AV)) (pc:List (Nat×Value)) (xs D:List AV) (c:Array Value),RE w A M sz c.toList xs->c.size=xs.length*sz ->
  (∀ x,x∈xs->x.okElem sz=true) ->
  pc.length=pa.length->(∀ i,i<pa.length->(pc.getD i (0,undef)).1=(pa.getD i (0,.top)).1/\Rel w A M (pc.getD i (0,undef)).2 (pa.getD i (0,.top)).2) ->
  absSet sz xs pa=some D->∃ c',Instr.fill (fun i=>some (i*sz,sz)) c pc=some c'/\RE w A M sz c'.toList D/\c'.size=D.length*sz/\D.length=xs.length/\∀ x,x∈D->x.okElem sz=true
 | [],pc,xs,D,c,hc,hcs,hoks,hl,hp,h=>by
  simp only [absSet,z6] at h;subst h;have:pc=[]:=by simpa using hl
  subst this;exact ⟨c,rfl,hc,hcs,rfl,hoks⟩
 | (i,v)::rest,pc,xs,D,c,hc,hcs,hoks,hl,hp,h=>by
  cases pc with
  | nil=>simp at hl
  | cons q pc =>
   obtain ⟨i',u⟩:=q;have h0:=hp 0 (by simp)
   simp only [List.getD_cons_zero] at h0;obtain ⟨rfl,hu⟩:=h0;unfold absSet at h;split at h
   case isFalse=>simp at h
   rename_i J;obtain ⟨hi,J⟩:=J;have Y:=xaw J;have V:=xa1 J;have W:=xrx hu V;have hsz:u.cells.size=sz:=by have:=W.1;simp at this;omega
   have Z:i'*sz+sz<=c.size:=by
    have:(i'+1)*sz<=xs.length*sz:=Nat.mul_le_mul_right _ hi;rw [Nat.add_mul,Nat.one_mul] at this;omega
   have O:=xpD (c:=c) (off:=i'*sz) (vs:=u.cells) (by omega)
   have Q:RE w A M sz (setAll c (i'*sz) u.cells).toList (xs.set i' v):=by
    rw [O,hsz];exact hc.set hi (by simpa using hsz) Y W
   have hsz':(setAll c (i'*sz) u.cells).size=(xs.set i' v).length*sz:=by
    have:(setAll c (i'*sz) u.cells).toList.length=c.size:=by rw [O];simp;omega
    simp at this |-;omega
   obtain ⟨c',h1,h2,h3,h4,h5⟩:=xpx sz rest pc _ D (setAll c (i'*sz) u.cells) Q hsz' (fun x hx=>by rcases List.mem_or_eq_of_mem_set hx with hx|hx;exact hoks x hx;exact hx▸J) (by simpa using hl) (fun k hk=>by have:=hp (k+1) (by simp;omega);simpa using this) h
   refine ⟨c',?_,h2,h3,by simpa using h4,h5⟩
   rw [<-h1];simp only [Instr.fill];have hno':¬ ((decide (u.cells.size≠sz) || decide (i'*sz+u.cells.size>c.size))=true):=by simp [hsz];omega
   rw [if_neg hno'];rfl
end
end Go.Sim
namespace Go.Sim
open Go.RowKit
section
variable {P : Program} {w : World} {A : Nat -> Prop} {M : Id -> Option MB} {B : Nat} {H : List Box}
def xj8 {t:TypeId} {ti:TI} (h:xH7 P t=some ti):P.underlying t=some ti.d:=by
 obtain ⟨_,_,_,h2,_⟩:=xa2 h;exact h2
def xqq (w:World):∀ (fs:List Field) (pl:List (Nat×Nat)),placesOf P fs=some pl->fs.mapM (fun f=>(P.info? f.type).map fun i=>(f.offset,i.size))=some pl
 | [],pl,h=>by simp [placesOf] at h;simp [h]
 | f::fs,pl,h=>by
  unfold placesOf at h;split at h
  . rename_i ti r q hr;cases h;obtain ⟨i,z,h1,_,_,h3,_⟩:=xa2 q;have ih:=xqq w fs r hr;simp [List.mapM_cons,h1,ih,h3]
  . simp at h
def xta {t:TypeId} {pa:List (Nat×AV)} {pc:Array (Nat×Value)} {r:AV} (hl:pc.toList.length=pa.length)
  (hp:∀ i,i<pa.length->(pc.toList.getD i (0,undef)).1=(pa.getD i (0,.top)).1/\Rel w A M (pc.toList.getD i (0,undef)).2 (pa.getD i (0,.top)).2) (h:absBuild P t pa=some r) :
  ∃ v,(Instr.build t pc).run P w=.ok v w/\Rel w A M v r:=by
 unfold absBuild at h;split at h
 case h_2=>simp at h
 rename_i ti Y;split at h
 case h_3=>simp at h
 case h_2 =>
  rename_i m e z hd hz;split at h
  case h_2=>simp at h
  rename_i te aa;split at h
  case h_2=>simp at h
  rename_i cs Q;cases h;obtain ⟨i,zc,h1,h2,h3,_,_,h4,_⟩:=xa2 Y;obtain ⟨ie,ze,g1,_,_,g3,_⟩:=xa2 aa;have O:Rel w A M zc (.agg z):=by rw [<-hz,h4];exact xcZ w A M zc
  obtain ⟨zs,rfl,V,q⟩:=O.agg_inv;have J:RC w A M zs.toList z:=⟨by simpa using V,fun i hi=>by have:=q i hi;simpa [z7,zv] using this⟩
  obtain ⟨c',W,D⟩:=xl4 (fun i=>some (i*te.sz,te.sz)) pa pc.toList z cs zs J hl hp Q
  refine ⟨.agg c',run_build w t pc c' ?_,.agg _ _ (by have:=D.1;simpa using this) fun i hi=>by have:=D.2 i hi;simpa [z7,zv] using this⟩
  unfold Program.built;rw [hd] at h2;simp only [h1,h2,h3,g1];rw [<-W];simp [Value.cells,g3]
 rename_i fs z hd hz;split at h
 case h_2=>simp at h
 rename_i pl Z;split at h
 case h_2=>simp at h
 rename_i cs Q;cases h;obtain ⟨i,zc,h1,h2,h3,_,_,h4,_⟩:=xa2 Y;have O:Rel w A M zc (.agg z):=by rw [<-hz,h4];exact xcZ w A M zc
 obtain ⟨zs,rfl,V,q⟩:=O.agg_inv;have J:RC w A M zs.toList z:=⟨by simpa using V,fun i hi=>by have:=q i hi;simpa [z7,zv] using this⟩
 obtain ⟨c',W,D⟩:=xl4 (fun i=>pl[i]?) pa pc.toList z cs zs J hl hp Q
 refine ⟨.agg c',run_build w t pc c' ?_,.agg _ _ (by have:=D.1;simpa using this) fun i hi=>by have:=D.2 i hi;simpa [z7,zv] using this⟩
 unfold Program.built;rw [hd] at h2;simp only [h1,h2,h3,xqq w fs.toList pl Z];rw [<-W];simp [Value.cells]
def xwu {len:Nat} {k:IntKind} {n:Int} (q:BoundsCode) (h:0<=n/\n<=(len:Int)):(Instr.sliceBound (.int k n) len q).run P w=.ok n.toNat w:=by
 simp [Instr.sliceBound,asIntOf,h.1,h.2]
def xoS {x:Option AV} {c:Option Value} {D len cap r:Nat} (hx:∀ a,x=some a->∃ v,c=some v/\Rel w A M v a) (nx:x=none->c=none) (hb:absB x D len=some r) (hcap:len<=cap) :
  (x=none/\c=none/\r=D)\/(∃ k n,c=some (.int k n)/\r=n.toNat/\r<=len/\∀ q,(Instr.sliceBound (.int k n) cap q).run P w=.ok r w):=by
 cases x with
 | none=>simp only [absB,z6] at hb;exact .inl ⟨rfl,nx rfl,hb.symm⟩
 | some a =>
  obtain ⟨v,rfl,hr⟩:=hx a rfl;cases a with
  | int k n =>
   simp only [absB] at hb;split at hb
   . rename_i hn;simp only [z6] at hb;have:=hr.int_inv;subst this;exact .inr ⟨k,n,rfl,hb.symm,by omega,fun q=>by rw [<-hb];exact xwu q ⟨hn.1,by omega⟩⟩
   . simp at hb
  | _=>simp [absB] at hb
def xdn {lo hi:Option AV} {clo chi:Option Value} {len l h:Nat} (O:∀ x,lo=some x->∃ v,clo=some v/\Rel w A M v x) (Y:∀ x,hi=some x->∃ v,chi=some v/\Rel w A M v x)
  (V:lo=none->clo=none) (W:hi=none->chi=none) (hb:xIG lo hi len=some (l,h)) (isS:Bool) (cap:Nat) (hcap:len<=cap) :
  (Instr.sliceBounds isS len cap clo chi none).run P w=.ok (l,h,cap) w/\l<=h/\h<=len:=by
 unfold xIG at hb;split at hb
 . simp at hb
 rename_i h' hh;split at hb
 . simp at hb
 rename_i l' hl;simp only [z6,zb] at hb;obtain ⟨rfl,rfl⟩:=hb;rcases xoS (P:=P) Y W hh hcap with ⟨rfl,rfl,rfl⟩|⟨k,n,rfl,_,Q,J⟩
 . rcases xoS (P:=P) O V hl (zd _) with ⟨rfl,rfl,rfl⟩|⟨k',n',rfl,_,D,q⟩
   . exact ⟨by simp [Instr.sliceBounds],zR _,zd _⟩
   . exact ⟨by simp [Instr.sliceBounds,q],D,zd _⟩
 . rcases xoS (P:=P) O V hl (zd _) with ⟨rfl,rfl,rfl⟩|⟨k',n',rfl,_,D,q⟩
   . exact ⟨by simp [Instr.sliceBounds,J],zR _,Q⟩
   . exact ⟨by simp [Instr.sliceBounds,J,q],D,Q⟩
def xvw (s:ByteArray) (l h:Nat):(s.extract l h).data.toList=(s.data.toList.drop l).take (h - l):=by
 rw [ByteArray.data_extract,Array.toList_extract,List.extract_eq_take_drop]
def xtf (hR:HR w A M B H) {t:TypeId} {v:Value} {x:AV} (hx:Rel w A M v x) {lo hi:Option AV} {clo chi:Option Value} {r:AV} (O:∀ x,lo=some x->∃ v,clo=some v/\Rel w A M v x) (J:∀ x,hi=some x->∃ v,chi=some v/\Rel w A M v x)
  (Q:lo=none->clo=none) (D:hi=none->chi=none) (h:xIM P H t x lo hi=some r) :
  ∃ u,(Instr.sliceAt t v clo chi none).run P w=.ok u w/\Rel w A M u r:=by
 unfold xIM at h;split at h
 case h_2=>simp at h
 rename_i ti ac;have hu:=xiL ac w;have hS:(∀ m e,ti.d≠.array m e)->(Instr.sliceAt t v clo chi none).run P w=(Instr.slice t v clo chi none).run P w:=by
  intro hne;simp only [Instr.sliceAt,Sem.run_bind,hu,Result.andThen_ok]
 split at h
 . rename_i s hd;rw [hS (by rw [hd];simp)]
   split at h
   case h_2=>simp at h
   rename_i l hh hb;cases h;obtain ⟨s',rfl,rfl⟩:=hx.str_inv;rw [<-xj6] at hb;obtain ⟨h1,h2,h3⟩:=xdn (P:=P) O J Q D hb false s'.size (zd _);refine ⟨.string (s'.extract l hh),?_,?_⟩
   . simp only [Instr.slice,Sem.run_bind,hu,hd,Result.andThen_ok];simp [h1]
   . rw [<-xvw];exact .str _
 . rename_i e sz xs hd;rw [hS (by rw [hd];simp)]
   split at h
   case h_2=>simp at h
   rename_i te V;split at h
   case isFalse=>simp at h
   rename_i hsz;split at h
   case h_2=>simp at h
   rename_i l hh hb;cases h;have Y:=xcx V w;cases hx with
   | list0 a cap _ =>
    have ab:l=0/\hh=0:=by
     obtain ⟨_,h2,h3⟩:=xdn (P:=P) O J Q D hb true 0 (zd _);simp at h3;omega
    obtain ⟨h1,h2,h3⟩:=xdn (P:=P) O J Q D hb true cap (zR _);obtain ⟨rfl,rfl⟩:=ab;have e:List.take (0 - 0) (List.drop 0 ([]:List AV))=[]:=rfl;rw [e];exact ⟨.slice (if cap=0 then a else a.map (·.add (0*te.sz))) (0 - 0) (cap - 0),by
     simp only [List.length_nil] at h1;simp only [Instr.slice,Sem.run_bind,hu,hd,Result.andThen_ok,h1,Y,Sem.run_pure],.list0 _ _ _⟩
   | list b off cap _ _ val ha hbl hne hcap hok hc hr =>
    obtain ⟨h0,h2,h3⟩:=xdn (P:=P) O J Q D hb true xs.length (zd _);obtain ⟨h1,_,_⟩:=xdn (P:=P) O J Q D hb true cap hcap;refine ⟨.slice (if cap=l then some ⟨b,off,none⟩ else some (Addr.add ⟨b,off,none⟩ (l*te.sz))) (hh - l) (cap - l),by
     simp only [Instr.slice,Sem.run_bind,hu,hd,Result.andThen_ok,h1,Y,Sem.run_pure,Option.map_some],?_⟩
    by_cases hz:hh - l=0
    . have e:List.take (hh - l) (List.drop l xs)=[]:=by rw [hz];rfl
      rw [e,hz];exact .list0 _ _ _
    . rw [if_neg (by omega),xfl]
      have q:((xs.drop l).take (hh - l)).length=hh - l:=by simp;omega
      have hg:∀ i,i<hh - l->((xs.drop l).take (hh - l)).getD i .top=xs.getD (l+i) .top:=by
       intro i hi;simp [z7,List.getElem?_take,hi,List.getElem?_drop]
      have:=Rel.list (w:=w) (A:=A) (M:=M) b (off+l*te.sz) (cap - l) sz ((xs.drop l).take (hh - l)) (fun i j=>val (l+i) j) ha hbl (by intro e;rw [e] at q;simp at q;omega) (by rw [q];omega)
       (fun x hx=>hok x (List.mem_of_mem_drop (List.mem_of_mem_take hx)))
       (fun i j hi hj=>by
        rw [q] at hi;have:=hc (l+i) j (by omega) hj
        rw [hsz];rw [show off+l*sz+i*sz+j=off+(l+i)*sz+j by rw [Nat.add_mul];omega]
        exact this)
       (fun i j hi hj=>by
        rw [q] at hi;rw [hg i hi];exact hr (l+i) j (by omega) hj)
      rw [q] at this;exact this
 . rename_i e hd;rw [hS (by rw [hd];simp)]
   split at h
   case h_2=>simp at h
   rename_i te V;split at h
   case h_2=>simp at h
   rename_i bd hb;obtain ⟨l,hh⟩:=bd;cases h;cases hx;obtain ⟨h1,h2,h3⟩:=xdn (P:=P) O J Q D hb true 0 (zd _);have:l=0/\hh=0:=by omega
   obtain ⟨rfl,rfl⟩:=this;exact ⟨.slice none 0 0,by simp [Instr.slice,hu,hd,h1,xcx V],.nils⟩
 . rename_i e id ver off len hd;rw [hS (by rw [hd];simp)]
   split at h
   case h_2=>simp at h
   rename_i te bx V aa;split at h
   case isFalse=>simp at h
   rename_i hsz;split at h
   case h_2=>simp at h
   rename_i l hh hb;cases h;have hx':=hx;obtain ⟨m,a,hm,Z,af,rfl,ha⟩:=xil hR hx aa;have ad:te.sz=m.sz:=by rw [hsz,Z.sz]
   obtain ⟨h1,h2,h3⟩:=xdn (P:=P) O J Q D hb true (m.cap - off) (by omega)
   refine ⟨.slice (if m.cap - off=l then a else a.map (·.add (l*te.sz))) (hh - l) (m.cap - off - l),by
    simp only [Instr.slice,Sem.run_bind,hu,hd,Result.andThen_ok,h1,xcx V,Sem.run_pure,Option.map_some],?_⟩
   . obtain ⟨m',W,hv,_⟩:=hx'.osl_inv;rw [hm] at W;cases W;refine .osl _ id ver (off+l) (hh - l) m hm hv rfl fun _=>⟨by omega,?_⟩
     by_cases hz:m.cap - off=l
     . exact ⟨a,by rw [if_pos hz,show m.cap - off - l=m.cap - (off+l) by omega],fun ae=>by omega⟩
     . refine ⟨a.map (·.add (l*te.sz)),by rw [if_neg hz,show m.cap - off - l=m.cap - (off+l) by omega],fun ae=>?_⟩
       rw [ha (by omega),Option.map_some,xfl,ad,Nat.add_mul]
 . simp at h
end
end Go.Sim
namespace Go.Sim
open Go.RowKit
section
variable {P : Program} {w : World} {A : Nat -> Prop} {M : Id -> Option MB} {B : Nat} {H : List Box}
def xnL {v:Value} {sz:Nat} {xs:List AV} {i j:Nat} (h:Rel w A M v (.eptr sz xs i j)):∃ b o,v=.pointer (some ⟨b,o,none⟩)/\∀ n,Rel w A M (.pointer (some ⟨b,o+n,none⟩)) (.eptr sz xs i (j+n)):=by
 cases h with
 | eptr b off _ _ _ _ val ha hb hi hsz hc hr =>
  refine ⟨b,off+i*sz+j,rfl,fun n=>?_⟩
  rw [Nat.add_assoc];exact .eptr b off sz xs i (j+n) val ha hb hi hsz hc hr
def Rel.own_inv {v:Value} {id:Id} {ver i j:Nat} (h:Rel w A M v (.own id ver i j)):∃ m,M id=some m/\ver<=m.ver/\v.oneCell'=true/\(ver=m.ver->v=ptrOf m i j):=by
 generalize hx:AV.own id ver i j=x at h;cases h<;>simp at hx;obtain ⟨rfl,rfl,rfl,rfl⟩:=hx;exact ⟨_,by assumption,by assumption,by assumption,by assumption⟩
def xrW (hR:HR w A M B H) {v:Value} {id:Id} {ver i j:Nat} {bx:Box} (h:Rel w A M v (.own id ver i j)) (hb:xIb H id ver=some bx) :
  ∃ b o,v=.pointer (some ⟨b,o,none⟩)/\∀ n,Rel w A M (.pointer (some ⟨b,o+n,none⟩)) (.own id ver i (j+n)):=by
 obtain ⟨m,hm,D,rfl⟩:=xkQ hR h hb;refine ⟨m.b,i*m.sz+j,rfl,fun n=>?_⟩
 obtain ⟨m',q,hv,_⟩:=h.own_inv;rw [hm] at q;cases q;exact .own _ id ver i (j+n) m hm hv rfl fun _=>by rw [xjf (D.nomap (xb1 hb)),Nat.add_assoc]
def xpW (hR:HR w A M B H) {t:TypeId} {v:Value} {x r:AV} {f:Nat} (hx:Rel w A M v x) (h:xIk P H t x f=some r) :
  ∃ u,(Instr.fieldAt t v f).run P w=.ok u w/\Rel w A M u r:=by
 unfold xIk at h;split at h
 case h_2=>simp at h
 rename_i ti O;split at h
 case h_2=>simp at h
 rename_i fs hd;split at h
 case h_2=>simp at h
 rename_i fd Q;split at h
 case h_2=>simp at h
 rename_i tf D;split at h
 . simp at h
 rename_i hsz;have q:∀ b o,(Instr.fieldAt t (.pointer (some ⟨b,o,none⟩)) f).run P w=.ok (.pointer (some ⟨b,o+fd.offset,none⟩)) w:=by
  intro b o;simp [Instr.fieldAt,xiL O,hd,Q,Instr.sureAddr,fieldPlace,xcx D,hsz,xfl]
 split at h
 . cases h;obtain ⟨b,o,rfl,hm⟩:=xnL hx;exact ⟨_,q b o,hm _⟩
 . split at h
   case h_2=>simp at h
   rename_i bx J;cases h;obtain ⟨b,o,rfl,hm⟩:=xrW hR hx J;exact ⟨_,q b o,hm _⟩
 . simp at h
def xpX (hR:HR w A M B H) {t:TypeId} {v vi:Value} {x ix r:AV} (hx:Rel w A M v x) (V:Rel w A M vi ix) (h:xIf P H t x ix=some r) :
  ∃ u,(Instr.indexAt t v vi).run P w=.ok u w/\Rel w A M u r:=by
 unfold xIf at h;split at h
 case h_2=>simp at h
 rename_i ti k n Y;have:=V.int_inv;subst this;have hu:=xiL Y w;split at h
 . rename_i e sz xs hd;split at h
   case h_2=>simp at h
   rename_i te D;split at h
   case isFalse=>simp at h
   rename_i q;obtain ⟨hsz,h0,hn⟩:=q;cases h;cases hx with
   | list0 a cap _=>simp at hn;omega
   | list b off cap _ _ val ha hbl hne hcap hok hc hr =>
    refine ⟨.pointer (some ⟨b,off+n.toNat*sz+0,none⟩),?_,.eptr b off sz xs n.toNat 0 val ha hbl (by omega) hok hc hr⟩
    simp [Instr.indexAt,asIntOf,hu,hd,h0,hn,xcx D,xfl,hsz]
 . rename_i e id ver off len hd;split at h
   case h_2=>simp at h
   rename_i te bx D J;split at h
   case isFalse=>simp at h
   rename_i q;obtain ⟨hsz,h0,hn⟩:=q;cases h;have hx':=hx;obtain ⟨m,a,hm,O,aa,rfl,ha⟩:=xil hR hx J;have Z:te.sz=m.sz:=by rw [hsz,O.sz]
   have W:=ha (by omega);subst W
   refine ⟨.pointer (some ⟨m.b,off*m.sz+n.toNat*te.sz,none⟩),?_,?_⟩
   . simp [Instr.indexAt,asIntOf,hu,hd,h0,hn,xcx D,xfl]
   . . obtain ⟨m',Q,hv,_⟩:=hx'.osl_inv;rw [hm] at Q;cases Q;exact .own _ id ver (off+n.toNat) 0 m hm hv rfl fun _=>by rw [xjf (O.nomap (xb1 J)),Z,Nat.add_mul,Nat.add_zero]
 . rename_i mm e id ver i j hd;split at h
   case h_2=>simp at h
   rename_i te bx D J;split at h
   case isFalse=>simp at h
   rename_i q;obtain ⟨h0,hn⟩:=q;cases h;obtain ⟨b,o,rfl,hm⟩:=xrW hR hx J;exact ⟨_,by simp [Instr.indexAt,asIntOf,hu,hd,h0,hn,xcx D,xfl,Instr.sureAddr],hm _⟩
 . rename_i mm e sz xs i j hd;split at h
   case h_2=>simp at h
   rename_i te D;split at h
   case isFalse=>simp at h
   rename_i q;obtain ⟨h0,hn⟩:=q;cases h;obtain ⟨b,o,rfl,hm⟩:=xnL hx;exact ⟨_,by simp [Instr.indexAt,asIntOf,hu,hd,h0,hn,xcx D,xfl,Instr.sureAddr],hm _⟩
 . simp at h
def xpw {t:TypeId} {ti:TI} (q:xH7 P t=some ti) {vs:Array Value} {cs:List AV} (hs:vs.size=cs.length) (hr:∀ i,i<cs.length->Rel w A M (vs.getD i undef) (cs.getD i .top)) {off:Nat} {r:AV} (h:absPart ti cs off=some r) :
  ∃ u,(part t vs off).run P w=.ok u w/\Rel w A M u r:=by
 unfold absPart at h;split at h
 . rename_i ha;split at h
   case isFalse=>simp at h
   rename_i J;cases h;refine ⟨.agg (vs.extract off (off+ti.sz)),by simp [part,xj5 q,ha,xcx q],.agg _ _ (by simp;omega) fun i hi=>?_⟩
   have hi':i<ti.sz:=by simp at hi;omega
   have e1:(vs.extract off (off+ti.sz)).getD i undef=vs.getD (off+i) undef:=by
    have:off+i<vs.size:=by omega
    simp [zv,Array.getElem?_extract,show i<min (off+ti.sz) vs.size - off by omega,this]
   have e2:((cs.drop off).take ti.sz).getD i .top=cs.getD (off+i) .top:=by simp [z7,List.getElem?_take,hi',List.getElem?_drop]
   rw [e1,e2];exact hr _ (by omega)
 . rename_i ha;split at h
   case isFalse=>simp at h
   rename_i D;cases h;have hlt':off<vs.size:=by omega
   have:=hr off D;exact ⟨vs[off],by simp [part,xj5 q,ha,hlt'],by simpa [hlt'] using this⟩
def xtc {t:TypeId} {v:Value} {x r:AV} {f:Nat} (hx:Rel w A M v x) (h:absField P t x f=some r) :
  ∃ u,(Instr.field t v f).run P w=.ok u w/\Rel w A M u r:=by
 unfold absField at h;split at h
 case h_2=>simp at h
 rename_i ti cs D;split at h
 case h_2=>simp at h
 rename_i fs hd;split at h
 case h_2=>simp at h
 rename_i fd O;split at h
 case h_2=>simp at h
 rename_i tf q;obtain ⟨vs,rfl,hs,hr⟩:=hx.agg_inv;obtain ⟨u,hu,J⟩:=xpw q hs hr h;exact ⟨u,by simp [Instr.field,xiL D,hd,O,asAgg,hu],J⟩
def xtd {t:TypeId} {v vi:Value} {x ix r:AV} (hx:Rel w A M v x) (J:Rel w A M vi ix) (h:absIndex P t x ix=some r) :
  ∃ u,(Instr.index t v vi).run P w=.ok u w/\Rel w A M u r:=by
 unfold absIndex at h;split at h
 case h_2=>simp at h
 rename_i ti k n Q;have:=J.int_inv;subst this;have hu:=xiL Q w;split at h
 . rename_i s hd;split at h
   case isFalse=>simp at h
   rename_i hn;cases h;obtain ⟨s',rfl,rfl⟩:=hx.str_inv;have q:n.toNat<s'.size:=by rw [xj6];omega
   have hlt':n.toNat<s'.data.size:=q;have e:s'[n.toNat]?=some s'[n.toNat]:=by simp [q]
   have e2:s'.data.toList.getD n.toNat 0=s'[n.toNat]:=by
    rw [z7,Array.getElem?_toList,Array.getElem?_eq_getElem hlt'];rfl
   refine ⟨.int .u8 (s'[n.toNat]).toNat,by simp [Instr.index,asIntOf,hu,hd,hn.1,e],?_⟩
   rw [e2];exact .int _ _
 . rename_i m e cs hd;split at h
   case h_2=>simp at h
   rename_i te D;split at h
   case isFalse=>simp at h
   rename_i hn;obtain ⟨vs,rfl,hs,hr⟩:=hx.agg_inv;obtain ⟨u,O,V⟩:=xpw D hs hr h;exact ⟨u,by simp [Instr.index,asIntOf,hu,hd,hn.1,hn.2,xcx D,O],V⟩
 . simp at h
def xva (hR:HR w A M B H) {t ty:TypeId} {D:Array TypeId} {v:Value} {x r:AV} (q:D[0]?=some t) (hx:Rel w A M v x) (h:absLen P H t x=some r) :
  ∃ u,(Builtin.len_ D ty #[v]).run P w=.ok u w/\Rel w A M u r:=by
 unfold absLen at h;split at h
 case h_2=>simp at h
 rename_i ti O;have hu:=xiL O w;split at h
 . rename_i s hd;cases h;obtain ⟨s',rfl,rfl⟩:=hx.str_inv;exact ⟨.int .i64 s'.size,by simp [Builtin.len_,q,hu,hd,goInt],by rw [xj6];exact .int _ _⟩
 . rename_i e sz xs hd;cases h;cases hx with
   | list0 a cap _=>exact ⟨.int .i64 0,by simp [Builtin.len_,q,hu,hd,goInt],.int _ _⟩
   | list b off cap _ _ val ha hbl hne hcap hok hc hr=>exact ⟨.int .i64 xs.length,by simp [Builtin.len_,q,hu,hd,goInt],.int _ _⟩
 . rename_i e hd;cases h;cases hx;exact ⟨.int .i64 0,by simp [Builtin.len_,q,hu,hd,goInt],.int _ _⟩
 . rename_i e id ver off len hd;split at h
   case h_2=>simp at h
   rename_i bx J;cases h;obtain ⟨m,a,hm,Q,V,rfl,ha⟩:=xil hR hx J;exact ⟨.int .i64 len,by simp [Builtin.len_,q,hu,hd,goInt],.int _ _⟩
 . simp at h
def xpZ:∀ (xs:List AV) (vs:List Value) (x r:AV) (v:Value),Rel w A M v x->vs.length=xs.length->(∀ i,i<xs.length->Rel w A M (vs.getD i undef) (xs.getD i .top))->absMin x xs=some r ->
  ∃ u,(vs.foldlM Builtin.min2 v).run P w=.ok u w/\Rel w A M u r
 | [],vs,x,r,v,hx,hl,hr,h=>by
  have:vs=[]:=by simpa using hl
  subst this;unfold absMin at h;cases h;exact ⟨v,by simp,hx⟩
 | y::xs,vs,x,r,v,hx,hl,hr,h=>by
  cases vs with
  | nil=>simp at hl
  | cons u vs =>
   have h0:=hr 0 (by simp)
   simp only [List.getD_cons_zero] at h0;unfold absMin at h;split at h
   . rename_i q;simp at q
   . rename_i k a k' b rest q;simp only [List.cons.injEq] at q;obtain ⟨rfl,rfl⟩:=q;have:=hx.int_inv;subst this;have:=h0.int_inv;subst this;obtain ⟨z,hz,D⟩:=xpZ xs vs (.int k (if b<a then b else a)) r (.int k (if b<a then b else a)) (.int _ _) (by simpa using hl) (fun i hi=>by have:=hr (i+1) (by simp;omega);simpa using this) h
     exact ⟨z,by simp [List.foldlM_cons,Builtin.min2,hz],D⟩
   . simp at h
def xpY:∀ (xs:List AV) (vs:List Value) (x r:AV) (v:Value),Rel w A M v x->vs.length=xs.length->(∀ i,i<xs.length->Rel w A M (vs.getD i undef) (xs.getD i .top))->absMax x xs=some r ->
  ∃ u,(vs.foldlM Builtin.max2 v).run P w=.ok u w/\Rel w A M u r
 | [],vs,x,r,v,hx,hl,hr,h=>by
  have:vs=[]:=by simpa using hl
  subst this;unfold absMax at h;cases h;exact ⟨v,by simp,hx⟩
 | y::xs,vs,x,r,v,hx,hl,hr,h=>by
  cases vs with
  | nil=>simp at hl
  | cons u vs =>
   have h0:=hr 0 (by simp)
   simp only [List.getD_cons_zero] at h0;unfold absMax at h;split at h
   . rename_i q;simp at q
   . rename_i k a k' b rest q;simp only [List.cons.injEq] at q;obtain ⟨rfl,rfl⟩:=q;have:=hx.int_inv;subst this;have:=h0.int_inv;subst this;obtain ⟨z,hz,D⟩:=xpY xs vs (.int k (if b>a then b else a)) r (.int k (if b>a then b else a)) (.int _ _) (by simpa using hl) (fun i hi=>by have:=hr (i+1) (by simp;omega);simpa using this) h
     exact ⟨z,by simp [List.foldlM_cons,Builtin.max2,hz],D⟩
   . simp at h
def xwq {op:UnOp} {v:Value} {x r:AV} (hx:Rel w A M v x) (h:absUn op x=some r):∃ u,(Op.unary op v).run P w=.ok u w/\Rel w A M u r:=by
 unfold absUn at h;split at h
 . cases h;have:=hx.bool_inv;subst this;exact ⟨_,by simp [Op.unary],.bool _⟩
 . cases h;have:=hx.int_inv;subst this;exact ⟨_,by simp [Op.unary,Op.intArith],.int _ _⟩
 . simp at h
def xuB {s d:TypeId} {v:Value} {x r:AV} (hx:Rel w A M v x) (h:absConv P s d x=some r):∃ u,(convert s d v).run P w=.ok u w/\Rel w A M u r:=by
 unfold absConv at h;split at h
 case h_2=>simp at h
 rename_i ts td hs hd;have q:=xiL hs w;have D:=xiL hd w;split at h
 . rename_i k k' n hk;cases h;have:=hx.int_inv;subst this;exact ⟨.int k (k.wrap n),by simp [convert,q,D,hk,Conv.intToInt],.int _ _⟩
 . rename_i l hk;cases h;obtain ⟨s',rfl,rfl⟩:=hx.str_inv;exact ⟨.string s',by cases J:ts.d<;>simp [convert,q,D,hk,J],.str _⟩
 . simp at h
end
end Go.Sim
namespace Go.Sim
open Go.RowKit
def NewId (w:World) (M M':Id->Option MB) (nid:Nat):Prop:=(∀ id:Id,id≠.b nid->M' id=M id)/\∀ m,M' nid=some m->M nid=some m\/w.heap.size<=m.b
def Gives (P:Program) (o:Oper) (ρc:Operand->Value) (w:World) (A:Nat->Prop) (M:Id->Option MB) (B:Nat) (H:List Box) (nid:Nat) (x:AV):Prop :=
 ∃ v w' A' M',(execOp ρc o).run P w=.ok (.value v) w'/\Below w.heap.size w w'/\MExt M M'/\(∀ b,b<w.heap.size->(A' b↔A b))/\NewId w M M' nid/\HR w' A' M' B H/\Rel w' A' M' v x
section
variable {P : Program} {w : World} {A : Nat -> Prop} {M : Id -> Option MB} {B : Nat} {H : List Box} {nid : Nat}
def Gives.stay {o:Oper} {ρc:Operand->Value} {x:AV} (hR:HR w A M B H) (h:∃ v,(execOp ρc o).run P w=.ok (.value v) w/\Rel w A M v x):Gives P o ρc w A M B H nid x:=by
 obtain ⟨v,h1,h2⟩:=h;exact ⟨v,w,A,M,h1,Below.refl _ _,MExt.refl M,fun _ _=>Iff.rfl,⟨fun _ _=>rfl,fun _ h=>.inl h⟩,hR,h2⟩
def MPut (M:Id->Option MB) (nid:Nat) (m:MB):Id->Option MB:=fun i=>if i=nid then some m else M i
def APut (A:Nat->Prop) (b:Nat) (frz:Bool):Nat->Prop:=fun x=>A x\/(x=b/\frz=false)
def xlt (hn:Free M nid) (m:MB):MExt M (MPut M nid m):=fun id m' h=>⟨m',by
 have:id≠nid:=fun e=>by rw [e,hn.1] at h;simp at h
 simp [MPut,this,h],.inl rfl⟩
def xe9 (w:World) (o:Obj):Below w.heap.size w (w.alloc o):=(Below.refl _ _).alloc (zd _) o
def xmC (hR:HR w A M B H) (hB:B<=w.heap.size) (hn:Free M nid) {bx:Box} (O:isC bx.ty=false) (hH:H[nid]?=some bx) {c:Array Value} {cap:Nat} (Y:cap<=maxLen) (hsz:c.size=cap*bx.sz) (W:bx.xs.length<=cap)
  (aa:∀ x,x∈bx.xs->x.okElem bx.sz=true) (hc:∀ i j,i<bx.xs.length->j<bx.sz->Rel w A (MP M bx.pm) (c.getD (i*bx.sz+j) undef) ((bx.xs.getD i .top).cells.getD j .top)) :
  let m:MB:=⟨w.heap.size,bx.ver,bx.sz,cap,bx.ty⟩
  MExt M (MPut M nid m)/\(∀ b,b<w.heap.size->(APut A w.heap.size bx.frz b↔A b))/\NewId w M (MPut M nid m) nid/\HR (w.alloc (.cells c bx.ty)) (APut A w.heap.size bx.frz) (MPut M nid m) B H/\MPut M nid m nid=some m:=by
 intro m;have J:MExt M (MPut M nid m):=xlt hn m;have hA:∀ b,b<w.heap.size->(APut A w.heap.size bx.frz b->A b):=fun b hb h=>by
  rcases h with h|⟨h,_⟩
  . exact h
  . omega
 have q:=xe9 w (.cells c bx.ty);refine ⟨J,fun b hb=>⟨hA b hb,.inl⟩,⟨fun id V=>by simp [MPut,V],fun m' D=>.inr (by simp [MPut] at D;subst D;exact zd _)⟩,⟨?_,?_,?_⟩,by simp [MPut]⟩
 . intro id m' D;by_cases V:id=nid
   . subst V;have:m'=m:=by simp [MPut] at D;exact D.symm
     subst this;refine ⟨bx,hH,⟨rfl,rfl,xbJ O,Y,W,aa,fun _=>hB,fun _=>by simp [m],fun _=>⟨c,.of (xaH O) (heap_alloc_new w _),hsz,fun i j hi hj=>by rw [xar O,xax O];exact (hc i j hi hj).mono (fun b hb _=>q.block b hb) q.size hA (xqM J _)⟩,fun _=>⟨fun hf=>.inr ⟨rfl,hf⟩,fun hf=>by
      rcases hf with hf|⟨_,hf⟩
      . have:=hR.lt _ hf;simp [m] at this
      . exact hf⟩⟩⟩
   . have Z:M id=some m':=by simpa [MPut,V] using D
     obtain ⟨bx',h1,h2⟩:=hR.box id m' Z;exact ⟨bx',h1,h2.mono (fun h0=>q.block _ (h2.lt h0)) (fun b hb _=>q.block b hb) q.size hA (fun h0=>⟨fun hf=>.inl ((h2.guard h0).1 hf),fun hf=>(h2.guard h0).2 (hA _ (h2.lt h0) hf)⟩) J⟩
 . intro id id' m1 m2 h1 h2 c1 c2 he;by_cases hi:id=nid<;>by_cases Q:id'=nid
   . rw [hi,Q]
   . exfalso;have e1:m1=m:=by simp [MPut,hi] at h1;exact h1.symm
     have h2':M id'=some m2:=by simpa [MPut,Q] using h2
     obtain ⟨bx',_,h3⟩:=hR.box id' m2 h2';have:=h3.lt c2;rw [<-he,e1] at this;simp [m] at this
   . exfalso;have e1:m2=m:=by simp [MPut,Q] at h2;exact h2.symm
     have h1':M id=some m1:=by simpa [MPut,hi] using h1
     obtain ⟨bx',_,h3⟩:=hR.box id m1 h1';have:=h3.lt c1;rw [he,e1] at this;simp [m] at this
   . exact hR.inj id id' m1 m2 (by simpa [MPut,hi] using h1) (by simpa [MPut,Q] using h2) c1 c2 he
 . intro b hb;rcases hb with hb|⟨rfl,_⟩
   . have:=hR.lt b hb;simp;omega
   . simp
def xtK (hR:HR w A M B H) (hB:B<=w.heap.size) (hn:Free M nid) {o:Oper} {ρc:Operand->Value} {e:TypeId} {v:Value} {x:AV} (hv:Rel w A M v x) (q:x.cells.all AV.one=true) {f:Bool} (D:isC e=false)
  (hH:H[nid]?=some ⟨0,x.cells.length,e,[x],f,x.pure⟩)
  (J:(execOp ρc o).run P w=.ok (.value (.pointer (some ⟨w.heap.size,0,none⟩))) (w.alloc (.cells v.cells e))):Gives P o ρc w A M B H nid (.own nid 0 0 0):=by
 obtain ⟨h1,h2⟩:=hv.cells q;have O:=xmC (bx:=⟨0,x.cells.length,e,[x],f,x.pure⟩) (c:=v.cells) (cap:=1) hR hB hn D hH (by unfold maxLen;omega) (by simpa using h1) (by simp)
  (fun y hy=>by simp only [zw] at hy;subst hy;simp only [AV.okElem,beq_self_eq_true,Bool.true_and];exact q)
  (fun i j hi hj=>by
   have Q:i=0:=by simpa using hi
   subst Q;have:=(h2 j hj).mp (pm:=x.pure) fun hp=>xe1 (xkR hp) j
   simpa using this)
 obtain ⟨s1,s2,s3,s4,s5⟩:=O;exact ⟨_,_,_,_,J,xe9 _ _,s1,s2,s3,s4,.own _ nid 0 0 0 _ s5 (zd _) rfl fun _=>by rw [xjf (xaH D)];simp⟩
def xq7 (hR:HR w A M B H) (hB:B<=w.heap.size) (hn:Free M nid) {o:Oper} {ρc:Operand->Value} {e:TypeId} {sz cap:Nat} {c:Array Value} {xs:List AV} {f pm:Bool} (O:isC e=false)
  (hH:H[nid]?=some ⟨0,sz,e,xs,f,pm⟩) (J:cap<=maxLen) (hsz:c.size=cap*sz) (q:xs.length<=cap) (Q:∀ x,x∈xs->x.okElem sz=true)
  (hc:∀ i j,i<xs.length->j<sz->Rel w A (MP M pm) (c.getD (i*sz+j) undef) ((xs.getD i .top).cells.getD j .top))
  (D:(execOp ρc o).run P w=.ok (.value (.slice (some ⟨w.heap.size,0,none⟩) xs.length cap)) (w.alloc (.cells c e))):Gives P o ρc w A M B H nid (.osl nid 0 0 xs.length):=by
 obtain ⟨s1,s2,s3,s4,s5⟩:=xmC (bx:=⟨0,sz,e,xs,f,pm⟩) (c:=c) (cap:=cap) hR hB hn O hH J hsz q Q hc;exact ⟨_,_,_,_,D,xe9 _ _,s1,s2,s3,s4,.osl _ nid 0 0 xs.length _ s5 (zd _) rfl fun _=>⟨by simpa using q,some ⟨w.heap.size,0,none⟩,by simp,fun _=>by simp⟩⟩
def xpA {z:Value} {x:AV} {n sz:Nat} (hz:Rel w A M z x) (hx:x.okElem sz=true) {i j:Nat} (hi:i<n) (hj:j<sz) {c:Array Value} (q:i*sz+j<c.size)
  (hc:∀ k,k<c.size->c.getD k undef=z.cells.getD (k % z.cells.size) undef):Rel w A M (c.getD (i*sz+j) undef) (((List.replicate n x).getD i .top).cells.getD j .top):=by
 obtain ⟨h1,h2⟩:=hz.cells (xa1 hx);have hl:=xaw hx;have e1:(List.replicate n x).getD i .top=x:=by simp [z7,hi]
 have e2:(i*sz+j) % z.cells.size=j:=by
  rw [h1,hl,Nat.mul_comm,Nat.mul_add_mod,Nat.mod_eq_of_lt hj]
 rw [e1,hc _ q,e2];exact h2 j (by omega)
def xuc {z:Array Value} {n k:Nat} (hk:k<n) (hz:0<z.size):(madeCells z n).getD k undef=z.getD (k % z.size) undef:=by
 have:k % z.size<z.size:=Nat.mod_lt _ hz;simp [madeCells,hk,this]
def xv1 {ps:List (Nat×Operand)} {ρc:Operand->Value} {ρ:Operand->AV} (h:∀ o,o∈ps.map (·.2)->Rel w A M (ρc o) (ρ o)) :
  (ps.map fun p=>(p.1,ρc p.2)).length=(ps.map fun p=>(p.1,ρ p.2)).length /\
  ∀ i,i<(ps.map fun p=>(p.1,ρ p.2)).length->((ps.map fun p=>(p.1,ρc p.2)).getD i (0,undef)).1=((ps.map fun p=>(p.1,ρ p.2)).getD i (0,.top)).1 /\
   Rel w A M ((ps.map fun p=>(p.1,ρc p.2)).getD i (0,undef)).2 ((ps.map fun p=>(p.1,ρ p.2)).getD i (0,.top)).2:=by
 refine ⟨by simp,fun i hi=>?_⟩
 have hi':i<ps.length:=by simpa using hi
 simp only [z7,List.getElem?_map,zf hi',Option.map_some,zi];exact ⟨trivial,h _ (zL.2 ⟨ps[i],zp _,rfl⟩)⟩
def xmS {l:List Operand} {ρc:Operand->Value} {ρ:Operand->AV} (h:∀ o,o∈l->Rel w A M (ρc o) (ρ o)) :
 (l.map ρc).length=(l.map ρ).length/\∀ i,i<(l.map ρ).length->Rel w A M ((l.map ρc).getD i undef) ((l.map ρ).getD i .top):=by simp_all
set_option maxHeartbeats 1000000 in
def xtZ {ρ:Operand->AV} {ρc:Operand->Value} {o:Oper} {x:AV} {nb:Option Box} (hf:fop P ρ H nid o.op=some (x,nb)) (hρ:∀ a,a∈o.op.operands.toList->Rel w A M (ρc a) (ρ a))
  (hR:HR w A M B H) (hB:B<=w.heap.size) (hn:Free M nid) (hH:∀ bx,nb=some bx->∃ f,H[nid]?=some { bx with frz:=f }):Gives P o ρc w A M B H nid x:=by
 unfold fop at hf;split at hf
 ·
  rename_i a ho;simp only [z6,zb] at hf;obtain ⟨rfl,rfl⟩:=hf;exact .stay hR ⟨_,by simp [execOp,ho],hρ a (by simp [ho,Op.operands])⟩
 . rename_i a ho;simp only [z6,zb] at hf;obtain ⟨rfl,rfl⟩:=hf;exact .stay hR ⟨_,by simp [execOp,ho],hρ a (by simp [ho,Op.operands])⟩
 ·
  rename_i c a b ho;split at hf
  case h_2=>simp at hf
  rename_i t ht;simp only [z6,zb] at hf;obtain ⟨rfl,rfl⟩:=hf;have hc:=hρ c (by simp [ho,Op.operands])
  rw [ht] at hc;have ap:=hc.bool_inv;refine .stay hR ⟨if t=true then ρc a else ρc b,by simp [execOp,ho,ap,asBool],?_⟩
  cases t
  . exact hρ b (by simp [ho,Op.operands])
  . exact hρ a (by simp [ho,Op.operands])
 ·
  rename_i e ho;split at hf
  case h_2=>simp at hf
  rename_i ti W;split at hf
  case isFalse=>simp at hf
  rename_i O;simp only [z6,zb] at hf;obtain ⟨rfl,rfl⟩:=hf;obtain ⟨f,ab⟩:=hH _ rfl;obtain ⟨z,hz,bc⟩:=xr6 W w;have aa:Rel w A M z ti.zero:=by rw [bc];exact xcZ w A M z
  have hl:=xaw O;refine xtK hR hB hn aa (xa1 O) (f:=f) (e:=e) (xjk W) (by rw [hl];exact ab) ?_
  simp [execOp,ho,Instr.alloc,hz,newVar,newRow]
 ·
  rename_i e a ho;split at hf
  case isFalse=>simp at hf
  rename_i am;simp only [z6,zb] at hf;obtain ⟨rfl,rfl⟩:=hf;obtain ⟨f,ab⟩:=hH _ rfl;exact xtK hR hB hn (hρ a (by simp [ho,Op.operands])) am.1 (f:=f) (e:=e) am.2 ab (by simp [execOp,ho,Instr.box,newVar,newRow])
 ·
  rename_i t J ho;split at hf
  case h_2=>simp at hf
  rename_i r hr;simp only [z6,zb] at hf;obtain ⟨rfl,rfl⟩:=hf;have hp:=xv1 (w:=w) (A:=A) (M:=M) (ps:=J.toList) (ρc:=ρc) (ρ:=ρ) (fun a ha=>hρ a (by simpa [ho,Op.operands] using ha))
  obtain ⟨v,hv,a1⟩:=xta (P:=P) (pc:=J.map fun p=>(p.1,ρc p.2)) (by simpa using hp.1) (by simpa using hp.2) hr
  exact .stay hR ⟨v,by simp only [execOp,ho,Sem.run_bind,hv,Result.andThen_ok,Sem.run_pure],a1⟩
 ·
  rename_i t len J ho;split at hf
  case h_2=>simp at hf
  rename_i ti W;split at hf
  case h_2=>simp at hf
  rename_i e hd;split at hf
  case h_2=>simp at hf
  rename_i te ai;split at hf
  case isFalse=>simp at hf
  rename_i ag;obtain ⟨bp,az,O⟩:=ag;split at hf
  case h_2=>simp at hf
  rename_i xs bj;simp only [z6,zb] at hf;obtain ⟨rfl,rfl⟩:=hf;obtain ⟨f,ab⟩:=hH _ rfl;have hp:=xv1 (w:=w) (A:=A) (M:=M) (ps:=J.toList) (ρc:=ρc) (ρ:=ρ) (fun a ha=>hρ a (by simpa [ho,Op.operands] using ha))
  obtain ⟨i,z,al,a3,ax,Y,_,an,_⟩:=xa2 ai;have aa:Rel w A M z te.zero:=by rw [an];exact xcZ w A M z
  obtain ⟨bg,_⟩:=aa.cells (xa1 O);have hl:=xaw O;have bq:z.cells.size=te.sz:=by omega
  have ag:RE w A M te.sz (madeCells z.cells (len*te.sz)).toList (List.replicate len te.zero):=by
   refine ⟨by simp [size_madeCells],fun i j hi hj=>?_⟩
   have ae:i<len:=by simpa using hi
   have af:i*te.sz+j<(madeCells z.cells (len*te.sz)).size:=by rw [size_madeCells];exact xdP ae hj
   have:=xpA (n:=len) aa O ae hj af (fun k hk=>xuc (by rwa [size_madeCells] at hk) (by omega))
   simpa [z7,zv] using this
  obtain ⟨c',aj,ba,bd,a8,bk⟩:=xpx te.sz _ (J.toList.map fun p=>(p.1,ρc p.2)) _ xs (madeCells z.cells (len*te.sz)) ag (by simp [size_madeCells]) (fun x hx=>by rw [(List.mem_replicate.1 hx).2];exact O) hp.1 hp.2 bj
  have ac:xs.length=len:=by simpa using a8
  have ah:(Instr.buildSlice t len (J.map fun p=>(p.1,ρc p.2))).run P w=.ok (.slice (some ⟨w.heap.size,0,none⟩) len len) (w.alloc (.cells c' e)):=by
   by_cases ay:len=0
   . have a2:P.underlying t=some (.slice e):=by rw [xj8 W,hd]
     simp only [ay,Nat.zero_mul] at aj;have a7:madeCells z.cells 0=#[]:=by simp [madeCells]
     rw [a7] at aj;rw [Y] at aj;simp [Instr.buildSlice,run_underlying a2,sizeOf,typeInfo,al,ay,aj,newRow,show Array.range 0=#[] from rfl]
   . have hpos':¬ len*i.size=0:=by rw [<-Y];intro h;rcases Nat.mul_eq_zero.1 h with h|h<;>omega
     exact run_buildSlice w t e len _ c' i z (by rw [xj8 W,hd]) al ax (by rw [<-Y];omega) hpos' (by rw [<-Y];simpa [madeCells] using aj)
  rw [<-ac] at ah |-;have:=xq7 (P:=P) (o:=o) (ρc:=ρc) (e:=e) (sz:=te.sz) (cap:=xs.length) (c:=c') (xs:=xs) (f:=f) hR hB hn (xjk ai) ab (by unfold maxLen;rw [ac];have:len*1<=len*te.sz:=Nat.mul_le_mul_left _ az;omega) bd (zd _) bk
   (fun i j hi hj=>by have:=(ba.2 i j hi hj).mp (pm:=AV.pures xs) fun hp=>xe1 (xkR (xe1 hp i)) j;simpa [z7,zv] using this)
   (by simp only [execOp,ho];rw [<-ac];simp [ah])
  simpa [ac] using this
 ·
  rename_i t a ho;split at hf
  case h_2=>simp at hf
  rename_i ti W;split at hf
  case h_2=>simp at hf
  rename_i r hr;simp only [z6,zb] at hf;obtain ⟨rfl,rfl⟩:=hf;obtain ⟨u,hu,D⟩:=xqj W hR (hρ a (by simp [ho,Op.operands])) hr
  exact .stay hR ⟨u,by simp [execOp,ho,hu],D⟩
 ·
  rename_i a ho;have ha:=hρ a (by simp [ho,Op.operands])
  split at hf
  . rename_i sz xs i j hx;simp only [z6,zb] at hf;obtain ⟨rfl,rfl⟩:=hf;rw [hx] at ha;obtain ⟨b,off,hv,_⟩:=xnL ha;exact .stay hR ⟨.pointer (some ⟨b,off,none⟩),by simp [execOp,ho,hv],by rw [<-hv];exact ha⟩
  . rename_i id ver i j hx;split at hf
    case h_2=>simp at hf
    rename_i bx a6;simp only [z6,zb] at hf;obtain ⟨rfl,rfl⟩:=hf;rw [hx] at ha;obtain ⟨b,off,hv,_⟩:=xrW hR ha a6;exact .stay hR ⟨.pointer (some ⟨b,off,none⟩),by simp [execOp,ho,hv],by rw [<-hv];exact ha⟩
  . rename_i f cs hx;split at hf
    . simp at hf
    rename_i aq;simp only [z6,zb] at hf;obtain ⟨rfl,rfl⟩:=hf;rw [hx] at ha;obtain ⟨vs,hv,_⟩:=ha.func_inv aq;exact .stay hR ⟨.func (.func f) #[] vs,by simp [execOp,ho,hv],by rw [<-hv];exact ha⟩
  . simp at hf
 ·
  rename_i op t a b ty ho;split at hf
  case h_2=>simp at hf
  rename_i r hr;simp only [z6,zb] at hf;obtain ⟨rfl,rfl⟩:=hf;obtain ⟨u,hu,D⟩:=xu8 (P:=P) (x:=a) (y:=b) (hρ a (by simp [ho,Op.operands])) (hρ b (by simp [ho,Op.operands])) hr
  refine .stay hR ⟨u,?_,D⟩;simp only [execOp,ho,Sem.run_bind] at hu |-;rw [hu];rfl
 ·
  rename_i op t a ho;split at hf
  case h_2=>simp at hf
  rename_i r hr;simp only [z6,zb] at hf;obtain ⟨rfl,rfl⟩:=hf;obtain ⟨u,hu,D⟩:=xwq (P:=P) (hρ a (by simp [ho,Op.operands])) hr
  exact .stay hR ⟨u,by simp [execOp,ho,hu],D⟩
 ·
  rename_i s d a ho;split at hf
  case h_2=>simp at hf
  rename_i r hr;simp only [z6,zb] at hf;obtain ⟨rfl,rfl⟩:=hf;obtain ⟨u,hu,D⟩:=xuB (P:=P) (hρ a (by simp [ho,Op.operands])) hr
  exact .stay hR ⟨u,by simp [execOp,ho,hu],D⟩
 ·
  rename_i fn first Q ho
  split at hf
  case h_2=>simp at hf
  rename_i f;split at hf
  case isFalse=>simp at hf
  rename_i V;obtain ⟨V,aq⟩:=V;subst V;simp only [z6,zb] at hf;obtain ⟨rfl,rfl⟩:=hf;have hm:=xmS (w:=w) (A:=A) (M:=M) (l:=Q.toList) (ρc:=ρc) (ρ:=ρ) (fun a ha=>hρ a (by simpa [ho,Op.operands] using ha))
  refine .stay hR ⟨.func (.func f) #[] (Q.map ρc),by simp [execOp,ho,Instr.makeFunc],.func f _ _ (by simp) (fun i hi=>?_) fun e=>by rw [aq] at e;cases e⟩
  have:=hm.2 i hi;simpa [z7,zv] using this
 ·
  rename_i t l c ho;unfold absMake at hf;split at hf
  case h_2=>simp at hf
  rename_i ti kl nl kc nc W bn bf;split at hf
  case h_2=>simp at hf
  rename_i e hd;split at hf
  case h_2=>simp at hf
  rename_i te ai;split at hf
  case isFalse=>simp at hf
  rename_i ag;obtain ⟨h0,bb,a9,bt,O⟩:=ag;simp only [z6,zb] at hf;obtain ⟨rfl,rfl⟩:=hf;obtain ⟨f,ab⟩:=hH _ rfl;have hl:=hρ l (by simp [ho,Op.operands]);rw [bn] at hl;have bo:=hl.int_inv
  have hc:=hρ c (by simp [ho,Op.operands]);rw [bf] at hc;have ap:=hc.int_inv
  obtain ⟨i,z,al,a3,ax,Y,bl,an,_⟩:=xa2 ai;have aa:Rel w A M z te.zero:=by rw [an];exact xcZ w A M z
  obtain ⟨bg,_⟩:=aa.cells (xa1 O);have bu:=xaw O;have au:=run_make (P:=P) w t e i z (by rw [xj8 W,hd]) al ax kl kc nl nc h0 bb (by rw [<-bl];exact a9) (by omega)
  have ak:(List.replicate nl.toNat te.zero).length=nl.toNat:=by simp
  have:=xq7 (P:=P) (o:=o) (ρc:=ρc) (e:=e) (sz:=te.sz) (cap:=nc.toNat) (c:=madeCells z.cells (nc.toNat*i.size)) (xs:=List.replicate nl.toNat te.zero) (f:=f) hR hB hn (xjk ai) ab (by unfold maxLen;omega)
   (by rw [size_madeCells,Y]) (by rw [ak];omega) (fun x hx=>by rw [(List.mem_replicate.1 hx).2];exact O)
   (fun i' j ae hj=>by
    rw [ak] at ae;have af:i'*te.sz+j<(madeCells z.cells (nc.toNat*i.size)).size:=by rw [size_madeCells,<-Y];exact xdP (by omega) hj
    refine Rel.mp ?_ fun hp=>by
     have e1:(List.replicate nl.toNat te.zero).getD i' .top=te.zero:=by simp [z7,ae]
     rw [e1];exact xe1 (xkR hp) j
    exact xpA (n:=nl.toNat) aa O ae hj af (fun k hk=>xuc (by rwa [size_madeCells] at hk) (by omega)))
   (by simp only [execOp,ho,bo,ap,Sem.run_bind,au,Result.andThen_ok,Sem.run_pure,ak])
  rwa [ak] at this
 ·
  rename_i t a lo hi mx ho;split at hf
  case h_2=>simp at hf
  split at hf
  case h_2=>simp at hf
  rename_i r hr;simp only [z6,zb] at hf;obtain ⟨rfl,rfl⟩:=hf;obtain ⟨u,hu,D⟩:=xtf (P:=P) hR (hρ a (by simp [ho,Op.operands])) (clo:=lo.map ρc) (chi:=hi.map ρc)
   (fun y hy=>by
    cases lo with
    | none=>simp at hy
    | some q=>simp only [Option.map_some,z6] at hy;subst hy;exact ⟨_,rfl,hρ q (by simp [ho,Op.operands])⟩)
   (fun y hy=>by
    cases hi with
    | none=>simp at hy
    | some q=>simp only [Option.map_some,z6] at hy;subst hy;exact ⟨_,rfl,hρ q (by simp [ho,Op.operands])⟩)
   (fun h=>by cases lo with|none=>rfl|some q=>simp at h) (fun h=>by cases hi with|none=>rfl|some q=>simp at h) hr
  exact .stay hR ⟨u,by simp [execOp,ho,hu],D⟩
 ·
  rename_i t a f ho;split at hf
  case h_2=>simp at hf
  rename_i r hr;simp only [z6,zb] at hf;obtain ⟨rfl,rfl⟩:=hf;obtain ⟨u,hu,D⟩:=xpW (P:=P) hR (hρ a (by simp [ho,Op.operands])) hr
  exact .stay hR ⟨u,by simp [execOp,ho,hu],D⟩
 ·
  rename_i t a f ho;split at hf
  case h_2=>simp at hf
  rename_i r hr;simp only [z6,zb] at hf;obtain ⟨rfl,rfl⟩:=hf;obtain ⟨u,hu,D⟩:=xtc (P:=P) (hρ a (by simp [ho,Op.operands])) hr
  exact .stay hR ⟨u,by simp [execOp,ho,hu],D⟩
 ·
  rename_i t a ix ho;split at hf
  case h_2=>simp at hf
  rename_i r hr;simp only [z6,zb] at hf;obtain ⟨rfl,rfl⟩:=hf;obtain ⟨u,hu,D⟩:=xpX (P:=P) hR (hρ a (by simp [ho,Op.operands])) (hρ ix (by simp [ho,Op.operands])) hr
  exact .stay hR ⟨u,by simp [execOp,ho,hu],D⟩
 ·
  rename_i t a ix ho;split at hf
  case h_2=>simp at hf
  rename_i r hr;simp only [z6,zb] at hf;obtain ⟨rfl,rfl⟩:=hf;obtain ⟨u,hu,D⟩:=xtd (P:=P) (hρ a (by simp [ho,Op.operands])) (hρ ix (by simp [ho,Op.operands])) hr
  exact .stay hR ⟨u,by simp [execOp,ho,hu],D⟩
 ·
  rename_i a i ho;split at hf
  case h_2=>simp at hf
  rename_i vs a4;split at hf
  case h_2=>simp at hf
  rename_i y hy;simp only [z6,zb] at hf;obtain ⟨rfl,rfl⟩:=hf;have ha:=hρ a (by simp [ho,Op.operands])
  rw [a4] at ha;obtain ⟨us,hu,hs,hr⟩:=ha.tuple_inv;have af:i<vs.length:=by
   rcases zK i vs.length with h'|h'
   . exact h'
   . simp [zA h'] at hy
  have hlt':i<us.size:=by omega
  have:=hr i af;refine .stay hR ⟨us[i],by simp [execOp,ho,hu,Instr.extract,hlt'],?_⟩
  simp only [z7,hy,zi] at this;simpa [hlt'] using this
 ·
  rename_i c ho;split at hf
  case h_2=>simp at hf
  rename_i b ad;have ao:∀ a,a∈c.args.toList->Rel w A M (ρc a) (ρ a):=fun a ha=>hρ a (by simp [ho,Op.operands,Call.operands,ad];simpa using ha)
  have hm:=xmS (w:=w) (A:=A) (M:=M) (l:=c.args.toList) (ρc:=ρc) (ρ:=ρ) ao;split at hf
  . rename_i t ts y bh Z;split at hf
    case h_2=>simp at hf
    rename_i r hr;simp only [z6,zb] at hf;obtain ⟨rfl,rfl⟩:=hf;have a0:(c.args.toList.map ρc).length=1:=by rw [hm.1,Z];rfl
    have h0:=hm.2 0 (by rw [Z];simp)
    rw [Z] at h0;simp only [List.getD_cons_zero] at h0;have aw:∃ v,c.args.map ρc=#[v]/\(c.args.toList.map ρc).getD 0 undef=v:=by
     generalize hl:c.args.toList.map ρc=l at a0;match l,a0 with
     | [v],_=>exact ⟨v,by apply Array.ext';simpa using hl,rfl⟩
    obtain ⟨v,a5,be⟩:=aw;rw [be] at h0;have bi:c.argTypes[0]?=some t:=by rw [<-Array.getElem?_toList,bh];rfl
    obtain ⟨u,hu,D⟩:=xva (P:=P) (ty:=o.type) hR bi h0 hr;exact .stay hR ⟨u,by simp [execOp,ho,resolve,ad,invoke,builtin,a5,hu],D⟩
  . rename_i y ys Z;split at hf
    case h_2=>simp at hf
    rename_i r hr;simp only [z6,zb] at hf;obtain ⟨rfl,rfl⟩:=hf;generalize hl:c.args.toList.map ρc=l at hm;rw [Z] at hm;cases l with
    | nil=>simp at hm
    | cons v vs =>
     have h0:=hm.2 0 (by simp)
     simp only [List.getD_cons_zero] at h0;obtain ⟨u,hu,D⟩:=xpZ (P:=P) ys vs y _ v h0 (by simpa using hm.1) (fun i hi=>by have:=hm.2 (i+1) (by simp;omega);simpa using this) hr
     exact .stay hR ⟨u,by simp [execOp,ho,resolve,ad,invoke,builtin,Builtin.min_,hl,hu],D⟩
  . rename_i y ys Z;split at hf
    case h_2=>simp at hf
    rename_i r hr;simp only [z6,zb] at hf;obtain ⟨rfl,rfl⟩:=hf;generalize hl:c.args.toList.map ρc=l at hm;rw [Z] at hm;cases l with
    | nil=>simp at hm
    | cons v vs =>
     have h0:=hm.2 0 (by simp)
     simp only [List.getD_cons_zero] at h0;obtain ⟨u,hu,D⟩:=xpY (P:=P) ys vs y _ v h0 (by simpa using hm.1) (fun i hi=>by have:=hm.2 (i+1) (by simp;omega);simpa using this) hr
     exact .stay hR ⟨u,by simp [execOp,ho,resolve,ad,invoke,builtin,Builtin.max_,hl,hu],D⟩
  . simp at hf
 . simp at hf
end
end Go.Sim
end
