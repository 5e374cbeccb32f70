/- Part 2 of the proof of the law. -/
import Derived.Test.YtefdfdjimkinpaaGreatDoorTA1
import Derived.Maps.Keyed
set_option linter.defProp false
set_option linter.unusedVariables false
set_option linter.unusedSimpArgs false
noncomputable section
namespace Go.Sim
open Go.Maps Go.ChangeShapes Go.WideShapes Go.MapKept
open Go.ChangeMaps (setBlock modify_eq_set)
open Go.WideElems (Fit)
def xuP {α:Type} {l l':List α} {i j:Nat} {x y:α} (hp:l.Perm l') (hi:l[i]?=some x) (hj:l'[j]?=some x):(l.set i y).Perm (l'.set j y):=by
 obtain ⟨a,b,rfl,ha⟩:∃ a b,l=a++x::b/\a.length=i:=by
  obtain ⟨q,h⟩:=List.getElem?_eq_some_iff.1 hi;exact ⟨l.take i,l.drop (i+1),by rw [<-h,List.getElem_cons_drop,List.take_append_drop],by simp;omega⟩
 obtain ⟨c,d,rfl,hc⟩:∃ a b,l'=a++x::b/\a.length=j:=by
  obtain ⟨q,h⟩:=List.getElem?_eq_some_iff.1 hj;exact ⟨l'.take j,l'.drop (j+1),by rw [<-h,List.getElem_cons_drop,List.take_append_drop],by simp;omega⟩
 have e1:(a++x::b).set i y=a++y::b:=by rw [<-ha];simp
 have e2:(c++x::d).set j y=c++y::d:=by rw [<-hc];simp
 rw [e1,e2];have h1:(a++b).Perm (c++d):=List.Perm.cons_inv (List.perm_middle.symm.trans (hp.trans List.perm_middle));exact List.perm_middle.trans ((h1.cons y).trans List.perm_middle.symm)
section
variable {P : Program} {k t e : TypeId} {w : World} {b clock : Nat} {es : Array MapEntry}
def xvT (c:Bool) (K:Keyed P k) (ht:P.underlying t=some (.map k e)) {z:Value} (hz:(zeroValue e).run P w=.ok z w) (hb:MapB w b es clock) (O:∀ x∈es.toList,∃ l,keyOf P k x.key=some l) {key:Value} {kl:Lit} (q:keyOf P k key=some kl) :
  ((Instr.lookup t (.map (some b)) key c).run P w=.ok (if c then .tuple #[z,.bool false] else z) w/\∀ x∈es.toList,x.key≠key) \/
  ∃ (j:Nat) (e0:MapEntry),es.toList[j]?=some e0/\e0.key=key/\(Instr.lookup t (.map (some b)) key c).run P w=.ok (if c then .tuple #[e0.val,.bool true] else e0.val) w:=by
 obtain ⟨e1,J,hp,_⟩:=hb;have D:∀ x∈e1.toList,∃ l,keyOf P k x.key=some l:=fun x hx=>O x (hp.mem_iff.1 hx)
 rcases K.find w q e1.toList D with ⟨h1,h2⟩|⟨j,e0,h1,h2,h3⟩
 . exact .inl ⟨by simp [Instr.lookup,run_underlying ht,MapKept.run_getObj_map J,K.check w _ q,h1,hz,Result.andThen],fun x hx=>h2 x (hp.mem_iff.2 hx)⟩
 . obtain ⟨j',Q⟩:=List.mem_iff_getElem?.1 (hp.mem_iff.1 (List.mem_of_getElem? h2));exact .inr ⟨j',e0,Q,h3,by simp [Instr.lookup,run_underlying ht,MapKept.run_getObj_map J,K.check w _ q,h1,Result.andThen]⟩
def xyv (K:Keyed P k) (ht:P.underlying t=some (.map k e)) (hb:MapB w b es clock) (Z:∀ (k l:Nat) (x y:MapEntry),es[k]?=some x->es[l]?=some y->x.key=y.key->k=l) (Y:∀ x∈es.toList,∃ l,keyOf P k x.key=some l) {key val:Value} {kl:Lit} (D:keyOf P k key=some kl) :
  ((∃ e1,(Instr.mapUpdate t (.map (some b)) key val).run P w=.ok () (setBlock w b (.map e1 (clock+1)))/\MapP e1 (es.push ⟨key,val,clock⟩) (clock+1))/\∀ x∈es.toList,x.key≠key) \/
  ∃ (j:Nat) (e0:MapEntry),es.toList[j]?=some e0/\e0.key=key/\∃ es' e1:Array MapEntry,es'.toList=es.toList.set j { e0 with key:=key,val:=val }/\(Instr.mapUpdate t (.map (some b)) key val).run P w=.ok () (setBlock w b (.map e1 clock))/\MapP e1 es' clock:=by
 obtain ⟨e1,O,hp,q,W⟩:=hb;have V:∀ x∈e1.toList,∃ l,keyOf P k x.key=some l:=fun x hx=>Y x (hp.mem_iff.1 hx)
 rcases K.find w D e1.toList V with ⟨h1,h2⟩|⟨j,e0,h1,h2,h3⟩
 . refine .inl ⟨⟨_,by simp [Instr.mapUpdate,run_underlying ht,MapKept.run_getObj_map O,K.check w false D,h1,MapKept.run_setObj_map _ O,Result.andThen,setBlock];rfl,?_,?_,?_⟩,fun x hx=>h2 x (hp.mem_iff.2 hx)⟩
   . simp only [Array.toList_push];exact hp.append_right _
   . intro x hx;simp only [Array.toList_push,zH,zw] at hx;rcases hx with hx|rfl
     . exact Nat.lt_succ_of_lt (q x hx)
     . exact Nat.lt_succ_self _
   . simp only [Array.toList_push,zy,zW,zX];rw [List.nodup_append];refine ⟨W,by simp,fun a ha c hc=>?_⟩
     simp only [zw] at hc;obtain ⟨x,hx,rfl⟩:=zL.1 ha;have:=q x hx;omega
 . have hj:e1[j]?=some e0:=by simpa using h2
   obtain ⟨j',J⟩:=List.mem_iff_getElem?.1 (hp.mem_iff.1 (List.mem_of_getElem? h2));have Q:(e1.modify j (fun e'=>{ e' with key:=key,val:=val })).toList=e1.toList.set j { e0 with key:=key,val:=val }:=by rw [Array.toList_modify,modify_eq_set _ _ _ _ h2]
   refine .inr ⟨j',e0,J,h3,(es.toList.set j' { e0 with key:=key,val:=val }).toArray,_,by simp,by simp [Instr.mapUpdate,run_underlying ht,MapKept.run_getObj_map O,K.check w false D,h1,hj,h3,K.stays w D,MapKept.run_setObj_map _ O,Result.andThen,setBlock];rfl,?_,?_,?_⟩
   . simp only [Q];exact xuP hp h2 J
   . intro x hx;rcases List.mem_or_eq_of_mem_set (by simpa using hx) with hx|rfl
     . exact q x hx
     . exact q e0 (List.mem_of_getElem? J)
   . have:(es.toList.set j' { e0 with key:=key,val:=val }).map (·.born)=es.toList.map (·.born):=by
      rw [List.map_set];refine List.ext_getElem? fun i=>?_
      rw [List.getElem?_set];split
      . rename_i hi;subst hi;simp [J];have:=(List.getElem?_eq_some_iff.1 J).1;simpa using this
      . rfl
     simpa [this] using W
end
end Go.Sim
