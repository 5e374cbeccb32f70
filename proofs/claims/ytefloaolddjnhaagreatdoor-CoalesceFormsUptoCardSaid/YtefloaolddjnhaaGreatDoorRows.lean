/-
  NARROWER THAN 'FOR EVERY INPUT', by the rows' own cells (each row's printed sentence says how): CoalesceForms: laid · CoalesceRestricts: laid · CoalesceSnapshots: laid · CoalesceDivided: laid · CoalesceConstant: laid · CoalesceMaximal: laid · CoalesceSame: laid · CoalesceAt: laid.
  DERIVED. THE GIVEN ROWS OF THIS SEAT. 8 by the template 'for every input the law returns true; each argument reads behind the call as it read before'; 0 by the template 'total and deterministic' (their statements: YtefloaolddjnhaaGreatDoorTotals.lean).
  GIVEN WITH THE SEED: the statements are not yours to turn. If you find one false, say at which input.
  Laid BY PROGRAM, IN A SANDBOX (cutbox-rows.mjs): the forced cells as the released guide's own fill.sh prints them over the translation 2361abd1834f112e… (all of the seat's roots in one cut). By AI agents, Wed Nov 11 2026. No macro, syntax, notation, axiom, sorry.
-/
import Derived.Test.YtefloaolddjnhaaGreatDoorChecked
import GoSem.Claim
import GoSem.ClaimJoined
import GoSem.ClaimMapViews
import Derived.JoinedTies
import Derived.KernelRfl
namespace Go.Proofs.YtefloaolddjnhaaGreatDoor
/- THE CELL 'sum', in the pinned program and in every row, IS THE sha256 OF THE DUMP (.gsa) THAT YtefloaolddjnhaaGreatDoorProg.lean LOADS. Nothing in Lean hashes anything: it is a label: what it is worth is what the hold of that sum in a sandbox is worth. -/
noncomputable def Tryz.pinned : Pinned := { name := "ytefloaolddjnhaagreatdoor", sum := "2361abd1834f112e6eb4b8ab8d8e22982614d0cc10e6c78b8e3b4cf51726ead2", checked := Tryz.checked }
namespace Rows
def none {H : Type} : Left H := { results := [], args := [] }

/- WHAT THE LISTED PACKAGE-LEVEL VARIABLES READ AS WHEN THE CALL BEGINS. Each datum BY PROGRAM (the guide's laid-datum.mjs) off the statement by which the dump's own 'gosem.cut.vars' lays the variable. In a bare row this is a premise. The card (YtefloaolddjnhaaGreatDoorCards.lean) ties it to the program's text. -/
def laid_math_bits_deBruijn32tab {H : Type} : DataW H := .agg [.lit (.int .u8 0), .lit (.int .u8 1), .lit (.int .u8 28), .lit (.int .u8 2), .lit (.int .u8 29), .lit (.int .u8 14), .lit (.int .u8 24), .lit (.int .u8 3), .lit (.int .u8 30), .lit (.int .u8 22), .lit (.int .u8 20), .lit (.int .u8 15), .lit (.int .u8 25), .lit (.int .u8 17), .lit (.int .u8 4), .lit (.int .u8 8), .lit (.int .u8 31), .lit (.int .u8 27), .lit (.int .u8 13), .lit (.int .u8 23), .lit (.int .u8 21), .lit (.int .u8 19), .lit (.int .u8 16), .lit (.int .u8 7), .lit (.int .u8 26), .lit (.int .u8 12), .lit (.int .u8 18), .lit (.int .u8 6), .lit (.int .u8 11), .lit (.int .u8 5), .lit (.int .u8 10), .lit (.int .u8 9)]
def laid_math_bits_deBruijn64tab {H : Type} : DataW H := .agg [.lit (.int .u8 0), .lit (.int .u8 1), .lit (.int .u8 56), .lit (.int .u8 2), .lit (.int .u8 57), .lit (.int .u8 49), .lit (.int .u8 28), .lit (.int .u8 3), .lit (.int .u8 61), .lit (.int .u8 58), .lit (.int .u8 42), .lit (.int .u8 50), .lit (.int .u8 38), .lit (.int .u8 29), .lit (.int .u8 17), .lit (.int .u8 4), .lit (.int .u8 62), .lit (.int .u8 47), .lit (.int .u8 59), .lit (.int .u8 36), .lit (.int .u8 45), .lit (.int .u8 43), .lit (.int .u8 51), .lit (.int .u8 22), .lit (.int .u8 53), .lit (.int .u8 39), .lit (.int .u8 33), .lit (.int .u8 30), .lit (.int .u8 24), .lit (.int .u8 18), .lit (.int .u8 12), .lit (.int .u8 5), .lit (.int .u8 63), .lit (.int .u8 55), .lit (.int .u8 48), .lit (.int .u8 27), .lit (.int .u8 60), .lit (.int .u8 41), .lit (.int .u8 37), .lit (.int .u8 16), .lit (.int .u8 46), .lit (.int .u8 35), .lit (.int .u8 44), .lit (.int .u8 21), .lit (.int .u8 52), .lit (.int .u8 32), .lit (.int .u8 23), .lit (.int .u8 11), .lit (.int .u8 54), .lit (.int .u8 26), .lit (.int .u8 40), .lit (.int .u8 15), .lit (.int .u8 34), .lit (.int .u8 20), .lit (.int .u8 31), .lit (.int .u8 10), .lit (.int .u8 25), .lit (.int .u8 14), .lit (.int .u8 19), .lit (.int .u8 9), .lit (.int .u8 13), .lit (.int .u8 8), .lit (.int .u8 7), .lit (.int .u8 6)]
def laid_internal_strconv_uint64pow10 {H : Type} : DataW H := .agg [.lit (.int .u64 1), .lit (.int .u64 10), .lit (.int .u64 100), .lit (.int .u64 1000), .lit (.int .u64 10000), .lit (.int .u64 100000), .lit (.int .u64 1000000), .lit (.int .u64 10000000), .lit (.int .u64 100000000), .lit (.int .u64 1000000000), .lit (.int .u64 10000000000), .lit (.int .u64 100000000000), .lit (.int .u64 1000000000000), .lit (.int .u64 10000000000000), .lit (.int .u64 100000000000000), .lit (.int .u64 1000000000000000), .lit (.int .u64 10000000000000000), .lit (.int .u64 100000000000000000), .lit (.int .u64 1000000000000000000), .lit (.int .u64 10000000000000000000)]

/-- 'bitemporallaw22.CoalesceForms': WHATEVER THE INPUT: true; the input reads as it did. -/
def coalesceFormsSpec : ChangeSpec := { name := "coalesceForms", fn := fun _ => fun
  | [d] => { results := [.lit (.bool true)], args := [d] }
  | _ => none }
def coalesceFormsRow : OpenClaim := { program := "ytefloaolddjnhaagreatdoor", sum := "2361abd1834f112e6eb4b8ab8d8e22982614d0cc10e6c78b8e3b4cf51726ead2", func := "bitemporal/bitemporallaw22.CoalesceForms", spec := "coalesceForms", inPlace := ["internal/abi.NoEscape", "internal/bytealg.abigen_runtime_cmpstring"], unfollowed := true, recurses := true, named := ["internal/strconv.uint64pow10", "math/bits.deBruijn32tab", "math/bits.deBruijn64tab"], apart := false, laid := [("math/bits.deBruijn32tab", laid_math_bits_deBruijn32tab), ("math/bits.deBruijn64tab", laid_math_bits_deBruijn64tab), ("internal/strconv.uint64pow10", laid_internal_strconv_uint64pow10)] }
def CoalesceFormsSaid : Prop := coalesceFormsRow.holds Tryz.pinned (OpenSpec.ofChange coalesceFormsSpec)

/-- ITS FALSE NEIGHBOUR: 'it returns false'. Refute it at one input. -/
def coalesceFormsWrong : ChangeSpec := { name := "coalesceForms", fn := fun _ => fun
  | [d] => { results := [.lit (.bool false)], args := [d] }
  | _ => none }
def CoalesceFormsWrongFalsely : Prop := coalesceFormsRow.holds Tryz.pinned (OpenSpec.ofChange coalesceFormsWrong)

/-- 'bitemporallaw22.CoalesceRestricts': WHATEVER THE INPUT: true; the input reads as it did. -/
def coalesceRestrictsSpec : ChangeSpec := { name := "coalesceRestricts", fn := fun _ => fun
  | [d1, d2] => { results := [.lit (.bool true)], args := [d1, d2] }
  | _ => none }
def coalesceRestrictsRow : OpenClaim := { program := "ytefloaolddjnhaagreatdoor", sum := "2361abd1834f112e6eb4b8ab8d8e22982614d0cc10e6c78b8e3b4cf51726ead2", func := "bitemporal/bitemporallaw22.CoalesceRestricts", spec := "coalesceRestricts", inPlace := ["internal/abi.NoEscape", "internal/bytealg.abigen_runtime_cmpstring"], unfollowed := true, recurses := true, named := ["internal/strconv.uint64pow10", "math/bits.deBruijn32tab", "math/bits.deBruijn64tab"], apart := false, laid := [("math/bits.deBruijn32tab", laid_math_bits_deBruijn32tab), ("math/bits.deBruijn64tab", laid_math_bits_deBruijn64tab), ("internal/strconv.uint64pow10", laid_internal_strconv_uint64pow10)] }
def CoalesceRestrictsSaid : Prop := coalesceRestrictsRow.holds Tryz.pinned (OpenSpec.ofChange coalesceRestrictsSpec)

/-- ITS FALSE NEIGHBOUR: 'it returns false'. Refute it at one input. -/
def coalesceRestrictsWrong : ChangeSpec := { name := "coalesceRestricts", fn := fun _ => fun
  | [d1, d2] => { results := [.lit (.bool false)], args := [d1, d2] }
  | _ => none }
def CoalesceRestrictsWrongFalsely : Prop := coalesceRestrictsRow.holds Tryz.pinned (OpenSpec.ofChange coalesceRestrictsWrong)

/-- 'bitemporallaw22.CoalesceSnapshots': WHATEVER THE INPUT: true; the input reads as it did. -/
def coalesceSnapshotsSpec : ChangeSpec := { name := "coalesceSnapshots", fn := fun _ => fun
  | [d1, d2, d3] => { results := [.lit (.bool true)], args := [d1, d2, d3] }
  | _ => none }
def coalesceSnapshotsRow : OpenClaim := { program := "ytefloaolddjnhaagreatdoor", sum := "2361abd1834f112e6eb4b8ab8d8e22982614d0cc10e6c78b8e3b4cf51726ead2", func := "bitemporal/bitemporallaw22.CoalesceSnapshots", spec := "coalesceSnapshots", inPlace := ["internal/abi.NoEscape", "internal/bytealg.abigen_runtime_cmpstring"], unfollowed := true, recurses := true, named := ["internal/strconv.uint64pow10", "math/bits.deBruijn32tab", "math/bits.deBruijn64tab"], apart := false, laid := [("math/bits.deBruijn32tab", laid_math_bits_deBruijn32tab), ("math/bits.deBruijn64tab", laid_math_bits_deBruijn64tab), ("internal/strconv.uint64pow10", laid_internal_strconv_uint64pow10)] }
def CoalesceSnapshotsSaid : Prop := coalesceSnapshotsRow.holds Tryz.pinned (OpenSpec.ofChange coalesceSnapshotsSpec)

/-- ITS FALSE NEIGHBOUR: 'it returns false'. Refute it at one input. -/
def coalesceSnapshotsWrong : ChangeSpec := { name := "coalesceSnapshots", fn := fun _ => fun
  | [d1, d2, d3] => { results := [.lit (.bool false)], args := [d1, d2, d3] }
  | _ => none }
def CoalesceSnapshotsWrongFalsely : Prop := coalesceSnapshotsRow.holds Tryz.pinned (OpenSpec.ofChange coalesceSnapshotsWrong)

/-- 'bitemporallaw22.CoalesceDivided': WHATEVER THE INPUT: true; the input reads as it did. -/
def coalesceDividedSpec : ChangeSpec := { name := "coalesceDivided", fn := fun _ => fun
  | [d1, d2] => { results := [.lit (.bool true)], args := [d1, d2] }
  | _ => none }
def coalesceDividedRow : OpenClaim := { program := "ytefloaolddjnhaagreatdoor", sum := "2361abd1834f112e6eb4b8ab8d8e22982614d0cc10e6c78b8e3b4cf51726ead2", func := "bitemporal/bitemporallaw22.CoalesceDivided", spec := "coalesceDivided", inPlace := ["internal/abi.NoEscape", "internal/bytealg.abigen_runtime_cmpstring"], unfollowed := true, recurses := true, named := ["internal/strconv.uint64pow10", "math/bits.deBruijn32tab", "math/bits.deBruijn64tab"], apart := false, laid := [("math/bits.deBruijn32tab", laid_math_bits_deBruijn32tab), ("math/bits.deBruijn64tab", laid_math_bits_deBruijn64tab), ("internal/strconv.uint64pow10", laid_internal_strconv_uint64pow10)] }
def CoalesceDividedSaid : Prop := coalesceDividedRow.holds Tryz.pinned (OpenSpec.ofChange coalesceDividedSpec)

/-- ITS FALSE NEIGHBOUR: 'it returns false'. Refute it at one input. -/
def coalesceDividedWrong : ChangeSpec := { name := "coalesceDivided", fn := fun _ => fun
  | [d1, d2] => { results := [.lit (.bool false)], args := [d1, d2] }
  | _ => none }
def CoalesceDividedWrongFalsely : Prop := coalesceDividedRow.holds Tryz.pinned (OpenSpec.ofChange coalesceDividedWrong)

/-- 'bitemporallaw22.CoalesceConstant': WHATEVER THE INPUT: true; the input reads as it did. -/
def coalesceConstantSpec : ChangeSpec := { name := "coalesceConstant", fn := fun _ => fun
  | [d1, d2] => { results := [.lit (.bool true)], args := [d1, d2] }
  | _ => none }
def coalesceConstantRow : OpenClaim := { program := "ytefloaolddjnhaagreatdoor", sum := "2361abd1834f112e6eb4b8ab8d8e22982614d0cc10e6c78b8e3b4cf51726ead2", func := "bitemporal/bitemporallaw22.CoalesceConstant", spec := "coalesceConstant", inPlace := ["internal/abi.NoEscape", "internal/bytealg.abigen_runtime_cmpstring"], unfollowed := true, recurses := true, named := ["internal/strconv.uint64pow10", "math/bits.deBruijn32tab", "math/bits.deBruijn64tab"], apart := false, laid := [("math/bits.deBruijn32tab", laid_math_bits_deBruijn32tab), ("math/bits.deBruijn64tab", laid_math_bits_deBruijn64tab), ("internal/strconv.uint64pow10", laid_internal_strconv_uint64pow10)] }
def CoalesceConstantSaid : Prop := coalesceConstantRow.holds Tryz.pinned (OpenSpec.ofChange coalesceConstantSpec)

/-- ITS FALSE NEIGHBOUR: 'it returns false'. Refute it at one input. -/
def coalesceConstantWrong : ChangeSpec := { name := "coalesceConstant", fn := fun _ => fun
  | [d1, d2] => { results := [.lit (.bool false)], args := [d1, d2] }
  | _ => none }
def CoalesceConstantWrongFalsely : Prop := coalesceConstantRow.holds Tryz.pinned (OpenSpec.ofChange coalesceConstantWrong)

/-- 'bitemporallaw22.CoalesceMaximal': WHATEVER THE INPUT: true; the input reads as it did. -/
def coalesceMaximalSpec : ChangeSpec := { name := "coalesceMaximal", fn := fun _ => fun
  | [d] => { results := [.lit (.bool true)], args := [d] }
  | _ => none }
def coalesceMaximalRow : OpenClaim := { program := "ytefloaolddjnhaagreatdoor", sum := "2361abd1834f112e6eb4b8ab8d8e22982614d0cc10e6c78b8e3b4cf51726ead2", func := "bitemporal/bitemporallaw22.CoalesceMaximal", spec := "coalesceMaximal", inPlace := ["internal/abi.NoEscape", "internal/bytealg.abigen_runtime_cmpstring"], unfollowed := true, recurses := true, named := ["internal/strconv.uint64pow10", "math/bits.deBruijn32tab", "math/bits.deBruijn64tab"], apart := false, laid := [("math/bits.deBruijn32tab", laid_math_bits_deBruijn32tab), ("math/bits.deBruijn64tab", laid_math_bits_deBruijn64tab), ("internal/strconv.uint64pow10", laid_internal_strconv_uint64pow10)] }
def CoalesceMaximalSaid : Prop := coalesceMaximalRow.holds Tryz.pinned (OpenSpec.ofChange coalesceMaximalSpec)

/-- ITS FALSE NEIGHBOUR: 'it returns false'. Refute it at one input. -/
def coalesceMaximalWrong : ChangeSpec := { name := "coalesceMaximal", fn := fun _ => fun
  | [d] => { results := [.lit (.bool false)], args := [d] }
  | _ => none }
def CoalesceMaximalWrongFalsely : Prop := coalesceMaximalRow.holds Tryz.pinned (OpenSpec.ofChange coalesceMaximalWrong)

/-- 'bitemporallaw22.CoalesceSame': WHATEVER THE INPUT: true; the input reads as it did. -/
def coalesceSameSpec : ChangeSpec := { name := "coalesceSame", fn := fun _ => fun
  | [d1, d2] => { results := [.lit (.bool true)], args := [d1, d2] }
  | _ => none }
def coalesceSameRow : OpenClaim := { program := "ytefloaolddjnhaagreatdoor", sum := "2361abd1834f112e6eb4b8ab8d8e22982614d0cc10e6c78b8e3b4cf51726ead2", func := "bitemporal/bitemporallaw22.CoalesceSame", spec := "coalesceSame", inPlace := ["internal/abi.NoEscape", "internal/bytealg.abigen_runtime_cmpstring"], unfollowed := true, recurses := true, named := ["internal/strconv.uint64pow10", "math/bits.deBruijn32tab", "math/bits.deBruijn64tab"], apart := false, laid := [("math/bits.deBruijn32tab", laid_math_bits_deBruijn32tab), ("math/bits.deBruijn64tab", laid_math_bits_deBruijn64tab), ("internal/strconv.uint64pow10", laid_internal_strconv_uint64pow10)] }
def CoalesceSameSaid : Prop := coalesceSameRow.holds Tryz.pinned (OpenSpec.ofChange coalesceSameSpec)

/-- ITS FALSE NEIGHBOUR: 'it returns false'. Refute it at one input. -/
def coalesceSameWrong : ChangeSpec := { name := "coalesceSame", fn := fun _ => fun
  | [d1, d2] => { results := [.lit (.bool false)], args := [d1, d2] }
  | _ => none }
def CoalesceSameWrongFalsely : Prop := coalesceSameRow.holds Tryz.pinned (OpenSpec.ofChange coalesceSameWrong)

/-- 'bitemporallaw22.CoalesceAt': WHATEVER THE INPUT: true; the input reads as it did. -/
def coalesceAtSpec : ChangeSpec := { name := "coalesceAt", fn := fun _ => fun
  | [d1, d2, d3] => { results := [.lit (.bool true)], args := [d1, d2, d3] }
  | _ => none }
def coalesceAtRow : OpenClaim := { program := "ytefloaolddjnhaagreatdoor", sum := "2361abd1834f112e6eb4b8ab8d8e22982614d0cc10e6c78b8e3b4cf51726ead2", func := "bitemporal/bitemporallaw22.CoalesceAt", spec := "coalesceAt", inPlace := ["internal/abi.NoEscape", "internal/bytealg.abigen_runtime_cmpstring"], unfollowed := true, recurses := true, named := ["internal/strconv.uint64pow10", "math/bits.deBruijn32tab", "math/bits.deBruijn64tab"], apart := false, laid := [("math/bits.deBruijn32tab", laid_math_bits_deBruijn32tab), ("math/bits.deBruijn64tab", laid_math_bits_deBruijn64tab), ("internal/strconv.uint64pow10", laid_internal_strconv_uint64pow10)] }
def CoalesceAtSaid : Prop := coalesceAtRow.holds Tryz.pinned (OpenSpec.ofChange coalesceAtSpec)

/-- ITS FALSE NEIGHBOUR: 'it returns false'. Refute it at one input. -/
def coalesceAtWrong : ChangeSpec := { name := "coalesceAt", fn := fun _ => fun
  | [d1, d2, d3] => { results := [.lit (.bool false)], args := [d1, d2, d3] }
  | _ => none }
def CoalesceAtWrongFalsely : Prop := coalesceAtRow.holds Tryz.pinned (OpenSpec.ofChange coalesceAtWrong)

/- THE SECOND FORM. 'bulk': how many values and letters a reading holds, each counted each time it is reached (what is shared counts as often as it is met; a slice's spare places count too). A statement '..UptoSaid' is the law's where the arguments, and the package variables that the reading takes, are together of bulk at most 1048576: NARROWER than '..Said'. Prove '..Said' where nothing that the law and all that it calls make is longer than what came in: it says more and counts as full. Else prove '..UptoSaid'. A law counts once. -/
mutual
def uptoBulk {H : Type} : DataW H → Nat
  | .lit (.string bytes) => bytes.length + 1
  | .lit _ => 1
  | .nil => 1
  | .ptr d => uptoBulk d + 1
  | .slice elems spare => uptoBulkAll elems + uptoBulkAll spare + 1
  | .agg parts => uptoBulkAll parts + 1
  | .iface _ d => uptoBulk d + 1
  | .map entries => uptoBulkEntries entries + 1
  | .held _ => 1
def uptoBulkAll {H : Type} : List (DataW H) → Nat
  | [] => 0
  | d :: r => uptoBulk d + uptoBulkAll r
def uptoBulkEntries {H : Type} : List (Lit × DataW H) → Nat
  | [] => 0
  | x :: r => uptoBulkEntry x + uptoBulkEntries r
def uptoBulkEntry {H : Type} : Lit × DataW H → Nat
  | (.string bytes, d) => bytes.length + uptoBulk d + 1
  | (_, d) => uptoBulk d + 1
 end
def uptoSmall : (H : Type) → List (DataW H) → Bool := fun _ ds => decide (uptoBulkAll ds ≤ 1048576)
def OpenSpec.upto (s : _root_.Go.ChangeSpec) : _root_.Go.OpenSpec := { _root_.Go.OpenSpec.ofChange s with cond := some uptoSmall }

/-- 'bitemporallaw22.CoalesceForms', WHERE WHAT IT READS IS OF BULK AT MOST 1048576: true; the input reads as it did. -/
def coalesceFormsUptoRow : OpenClaim := { program := "ytefloaolddjnhaagreatdoor", sum := "2361abd1834f112e6eb4b8ab8d8e22982614d0cc10e6c78b8e3b4cf51726ead2", func := "bitemporal/bitemporallaw22.CoalesceForms", spec := "coalesceForms", inPlace := ["internal/abi.NoEscape", "internal/bytealg.abigen_runtime_cmpstring"], unfollowed := true, recurses := true, named := ["internal/strconv.uint64pow10", "math/bits.deBruijn32tab", "math/bits.deBruijn64tab"], apart := false, laid := [("math/bits.deBruijn32tab", laid_math_bits_deBruijn32tab), ("math/bits.deBruijn64tab", laid_math_bits_deBruijn64tab), ("internal/strconv.uint64pow10", laid_internal_strconv_uint64pow10)], narrowed := true }
def CoalesceFormsUptoSaid : Prop := coalesceFormsUptoRow.holds Tryz.pinned (OpenSpec.upto coalesceFormsSpec)

/-- 'bitemporallaw22.CoalesceRestricts', WHERE WHAT IT READS IS OF BULK AT MOST 1048576: true; the input reads as it did. -/
def coalesceRestrictsUptoRow : OpenClaim := { program := "ytefloaolddjnhaagreatdoor", sum := "2361abd1834f112e6eb4b8ab8d8e22982614d0cc10e6c78b8e3b4cf51726ead2", func := "bitemporal/bitemporallaw22.CoalesceRestricts", spec := "coalesceRestricts", inPlace := ["internal/abi.NoEscape", "internal/bytealg.abigen_runtime_cmpstring"], unfollowed := true, recurses := true, named := ["internal/strconv.uint64pow10", "math/bits.deBruijn32tab", "math/bits.deBruijn64tab"], apart := false, laid := [("math/bits.deBruijn32tab", laid_math_bits_deBruijn32tab), ("math/bits.deBruijn64tab", laid_math_bits_deBruijn64tab), ("internal/strconv.uint64pow10", laid_internal_strconv_uint64pow10)], narrowed := true }
def CoalesceRestrictsUptoSaid : Prop := coalesceRestrictsUptoRow.holds Tryz.pinned (OpenSpec.upto coalesceRestrictsSpec)

/-- 'bitemporallaw22.CoalesceSnapshots', WHERE WHAT IT READS IS OF BULK AT MOST 1048576: true; the input reads as it did. -/
def coalesceSnapshotsUptoRow : OpenClaim := { program := "ytefloaolddjnhaagreatdoor", sum := "2361abd1834f112e6eb4b8ab8d8e22982614d0cc10e6c78b8e3b4cf51726ead2", func := "bitemporal/bitemporallaw22.CoalesceSnapshots", spec := "coalesceSnapshots", inPlace := ["internal/abi.NoEscape", "internal/bytealg.abigen_runtime_cmpstring"], unfollowed := true, recurses := true, named := ["internal/strconv.uint64pow10", "math/bits.deBruijn32tab", "math/bits.deBruijn64tab"], apart := false, laid := [("math/bits.deBruijn32tab", laid_math_bits_deBruijn32tab), ("math/bits.deBruijn64tab", laid_math_bits_deBruijn64tab), ("internal/strconv.uint64pow10", laid_internal_strconv_uint64pow10)], narrowed := true }
def CoalesceSnapshotsUptoSaid : Prop := coalesceSnapshotsUptoRow.holds Tryz.pinned (OpenSpec.upto coalesceSnapshotsSpec)

/-- 'bitemporallaw22.CoalesceDivided', WHERE WHAT IT READS IS OF BULK AT MOST 1048576: true; the input reads as it did. -/
def coalesceDividedUptoRow : OpenClaim := { program := "ytefloaolddjnhaagreatdoor", sum := "2361abd1834f112e6eb4b8ab8d8e22982614d0cc10e6c78b8e3b4cf51726ead2", func := "bitemporal/bitemporallaw22.CoalesceDivided", spec := "coalesceDivided", inPlace := ["internal/abi.NoEscape", "internal/bytealg.abigen_runtime_cmpstring"], unfollowed := true, recurses := true, named := ["internal/strconv.uint64pow10", "math/bits.deBruijn32tab", "math/bits.deBruijn64tab"], apart := false, laid := [("math/bits.deBruijn32tab", laid_math_bits_deBruijn32tab), ("math/bits.deBruijn64tab", laid_math_bits_deBruijn64tab), ("internal/strconv.uint64pow10", laid_internal_strconv_uint64pow10)], narrowed := true }
def CoalesceDividedUptoSaid : Prop := coalesceDividedUptoRow.holds Tryz.pinned (OpenSpec.upto coalesceDividedSpec)

/-- 'bitemporallaw22.CoalesceConstant', WHERE WHAT IT READS IS OF BULK AT MOST 1048576: true; the input reads as it did. -/
def coalesceConstantUptoRow : OpenClaim := { program := "ytefloaolddjnhaagreatdoor", sum := "2361abd1834f112e6eb4b8ab8d8e22982614d0cc10e6c78b8e3b4cf51726ead2", func := "bitemporal/bitemporallaw22.CoalesceConstant", spec := "coalesceConstant", inPlace := ["internal/abi.NoEscape", "internal/bytealg.abigen_runtime_cmpstring"], unfollowed := true, recurses := true, named := ["internal/strconv.uint64pow10", "math/bits.deBruijn32tab", "math/bits.deBruijn64tab"], apart := false, laid := [("math/bits.deBruijn32tab", laid_math_bits_deBruijn32tab), ("math/bits.deBruijn64tab", laid_math_bits_deBruijn64tab), ("internal/strconv.uint64pow10", laid_internal_strconv_uint64pow10)], narrowed := true }
def CoalesceConstantUptoSaid : Prop := coalesceConstantUptoRow.holds Tryz.pinned (OpenSpec.upto coalesceConstantSpec)

/-- 'bitemporallaw22.CoalesceMaximal', WHERE WHAT IT READS IS OF BULK AT MOST 1048576: true; the input reads as it did. -/
def coalesceMaximalUptoRow : OpenClaim := { program := "ytefloaolddjnhaagreatdoor", sum := "2361abd1834f112e6eb4b8ab8d8e22982614d0cc10e6c78b8e3b4cf51726ead2", func := "bitemporal/bitemporallaw22.CoalesceMaximal", spec := "coalesceMaximal", inPlace := ["internal/abi.NoEscape", "internal/bytealg.abigen_runtime_cmpstring"], unfollowed := true, recurses := true, named := ["internal/strconv.uint64pow10", "math/bits.deBruijn32tab", "math/bits.deBruijn64tab"], apart := false, laid := [("math/bits.deBruijn32tab", laid_math_bits_deBruijn32tab), ("math/bits.deBruijn64tab", laid_math_bits_deBruijn64tab), ("internal/strconv.uint64pow10", laid_internal_strconv_uint64pow10)], narrowed := true }
def CoalesceMaximalUptoSaid : Prop := coalesceMaximalUptoRow.holds Tryz.pinned (OpenSpec.upto coalesceMaximalSpec)

/-- 'bitemporallaw22.CoalesceSame', WHERE WHAT IT READS IS OF BULK AT MOST 1048576: true; the input reads as it did. -/
def coalesceSameUptoRow : OpenClaim := { program := "ytefloaolddjnhaagreatdoor", sum := "2361abd1834f112e6eb4b8ab8d8e22982614d0cc10e6c78b8e3b4cf51726ead2", func := "bitemporal/bitemporallaw22.CoalesceSame", spec := "coalesceSame", inPlace := ["internal/abi.NoEscape", "internal/bytealg.abigen_runtime_cmpstring"], unfollowed := true, recurses := true, named := ["internal/strconv.uint64pow10", "math/bits.deBruijn32tab", "math/bits.deBruijn64tab"], apart := false, laid := [("math/bits.deBruijn32tab", laid_math_bits_deBruijn32tab), ("math/bits.deBruijn64tab", laid_math_bits_deBruijn64tab), ("internal/strconv.uint64pow10", laid_internal_strconv_uint64pow10)], narrowed := true }
def CoalesceSameUptoSaid : Prop := coalesceSameUptoRow.holds Tryz.pinned (OpenSpec.upto coalesceSameSpec)

/-- 'bitemporallaw22.CoalesceAt', WHERE WHAT IT READS IS OF BULK AT MOST 1048576: true; the input reads as it did. -/
def coalesceAtUptoRow : OpenClaim := { program := "ytefloaolddjnhaagreatdoor", sum := "2361abd1834f112e6eb4b8ab8d8e22982614d0cc10e6c78b8e3b4cf51726ead2", func := "bitemporal/bitemporallaw22.CoalesceAt", spec := "coalesceAt", inPlace := ["internal/abi.NoEscape", "internal/bytealg.abigen_runtime_cmpstring"], unfollowed := true, recurses := true, named := ["internal/strconv.uint64pow10", "math/bits.deBruijn32tab", "math/bits.deBruijn64tab"], apart := false, laid := [("math/bits.deBruijn32tab", laid_math_bits_deBruijn32tab), ("math/bits.deBruijn64tab", laid_math_bits_deBruijn64tab), ("internal/strconv.uint64pow10", laid_internal_strconv_uint64pow10)], narrowed := true }
def CoalesceAtUptoSaid : Prop := coalesceAtUptoRow.holds Tryz.pinned (OpenSpec.upto coalesceAtSpec)

end Rows
end Go.Proofs.YtefloaolddjnhaaGreatDoor
