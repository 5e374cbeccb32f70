/- Part 2 of the proof of the law. -/
import Derived.Test.YtnbckejindjgaaaGreatDoorQD1
import Derived.Maps.Keyed
set_option linter.unusedVariables false
set_option linter.unusedSimpArgs false
noncomputable section
namespace Go.Sim
open Go.Maps Go.ChangeShapes Go.WideShapes Go.MapKept
open Go.ChangeMaps (setBlock modify_eq_set)
open Go.WideElems (Fit)
section
variable {P : Program} {k t e : TypeId} {w : World} {b clock : Nat} {es : Array MapEntry}
theorem xCQ (c:Bool) (K:Keyed P k) (ht:P.underlying t=some (.map k e)) {z:Value} (hz:(zeroValue e).run P w=.ok z w) (hb:w.heap[b]?=some (.map es clock)) (J:∀ x∈es.toList,∃ l,keyOf P k x.key=some l) {key:Value} {kl:Lit} (q:keyOf P k key=some kl) :
  ((Instr.lookup t (.map (some b)) key c).run P w=.ok (if c then .tuple #[z,.bool false] else z) w/\∀ x∈es.toList,x.key≠key) \/
  ∃ (j:Nat) (e0:MapEntry),es.toList[j]?=some e0/\e0.key=key/\(Instr.lookup t (.map (some b)) key c).run P w=.ok (if c then .tuple #[e0.val,.bool true] else e0.val) w:=by
 rcases K.find w q es.toList J with ⟨h1,h2⟩|⟨j,e0,h1,h2,h3⟩
 . exact .inl ⟨by simp [Instr.lookup,run_underlying ht,MapKept.run_getObj_map hb,K.check w _ q,h1,hz,Result.andThen],h2⟩
 . exact .inr ⟨j,e0,h2,h3,by simp [Instr.lookup,run_underlying ht,MapKept.run_getObj_map hb,K.check w _ q,h1,Result.andThen]⟩
theorem xEM (K:Keyed P k) (ht:P.underlying t=some (.map k e)) (hb:w.heap[b]?=some (.map es clock)) (O:∀ x∈es.toList,∃ l,keyOf P k x.key=some l) {key val:Value} {kl:Lit} (q:keyOf P k key=some kl) :
  ((Instr.mapUpdate t (.map (some b)) key val).run P w=.ok () (setBlock w b (.map (es.push ⟨key,val,clock⟩) (clock+1)))/\∀ x∈es.toList,x.key≠key) \/
  ∃ (j:Nat) (e0:MapEntry),es.toList[j]?=some e0/\e0.key=key/\∃ es':Array MapEntry,es'.toList=es.toList.set j { e0 with key:=key,val:=val }/\(Instr.mapUpdate t (.map (some b)) key val).run P w=.ok () (setBlock w b (.map es' clock)):=by
 rcases K.find w q es.toList O with ⟨h1,h2⟩|⟨j,e0,h1,h2,h3⟩
 . exact .inl ⟨by simp [Instr.mapUpdate,run_underlying ht,MapKept.run_getObj_map hb,K.check w false q,h1,MapKept.run_setObj_map _ hb,Result.andThen,setBlock],h2⟩
 . have hj:es[j]?=some e0:=by simpa using h2
   have J:(es.modify j (fun e'=>{ e' with key:=key,val:=val })).toList=es.toList.set j { e0 with key:=key,val:=val }:=by rw [Array.toList_modify,modify_eq_set _ _ _ _ h2]
   exact .inr ⟨j,e0,h2,h3,_,J,by simp [Instr.mapUpdate,run_underlying ht,MapKept.run_getObj_map hb,K.check w false q,h1,hj,h3,K.stays w q,MapKept.run_setObj_map _ hb,Result.andThen,setBlock]⟩
end
end Go.Sim
end
