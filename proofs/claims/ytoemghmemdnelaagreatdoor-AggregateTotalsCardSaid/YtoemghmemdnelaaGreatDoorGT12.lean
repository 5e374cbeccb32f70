/- Part 12 of the proof of the law. -/
import Derived.Test.YtoemghmemdnelaaGreatDoorGT11
import Derived.WalkKit
import Derived.Lib.Walk
import Derived.StillTailTactics
set_option linter.unusedVariables false
set_option linter.unusedSimpArgs false
noncomputable section
set_option maxRecDepth 100000
namespace Go.Sim.M
def cmpI (x y:Int):Int:=if x<y then -1 else if y<x then 1 else 0
def orI (x y:Int):Int:=if x=0 then y else x
end Go.Sim.M
namespace Go.Sim.M
abbrev TyS:Type:=Fin 1099511627777×Int
def intsS (x:TyS):List Int:=[(x.1.val:Int),x.2]
def cmpS (x y:TyS):Int:=(x.1.val:Int) - (y.1.val:Int)
end Go.Sim.M
namespace Go.Proofs
open Go.RowKit Go.Sim Go.Sim.M Go.Sort
set_option maxHeartbeats 1000000 in
theorem Tryz.walkS (a b a' b' r:Int) (hr:IntKind.i64.wrap (a - a')=r) (W:World):Calls Tryz.prog 81 #[.agg #[.int .i64 a,.int .i64 b],.agg #[.int .i64 a',.int .i64 b']] W fun e w'=>e=.returned (.int .i64 r)∧∃ q os',w'=Sort.grow (W.drewN q) os':=by
 go_enter Tryz.func81,Tryz.ntmps81
 go_wp2
 go_ret
 subst hr
 exact ⟨rfl,0,_,by rw [alloc_eq_grow,alloc_eq_grow,grow_grow];rfl⟩
end Go.Proofs
namespace Go.Sim.M
open Go.RowKit Go.Proofs Go.Sort
def isS:AV→Bool
 | .agg [.int .i64 a,.int .i64 _]=>decide (0≤a)&&decide (a≤1099511627776)
 | _=>false
def decS:AV→TyS
 | .agg [.int _ a,.int _ b]=>(Fin.ofNat 1099511627777 a.toNat,b)
 | _=>default
noncomputable def srtS (xs:List AV):List AV:=(pdqL cmpS (xs.map decS)).map (encI intsS)
theorem xno {x:AV} (h:isS x=true):encI intsS (decS x)=x:=by
 unfold isS at h
 split at h
 · rename_i a b
   simp only [Bool.and_eq_true,decide_eq_true_eq] at h
   have:a.toNat % 1099511627777=a.toNat:=Nat.mod_eq_of_lt (by omega)
   simp only [decS,encI,intsS,List.map_cons,List.map_nil,Fin.ofNat,this,Int.toNat_of_nonneg h.1]
 · simp at h
theorem xmK {xs:List AV} (h:xs.all isS=true):(xs.map decS).map (encI intsS)=xs:=by
 rw [List.map_map]
 conv=>rhs;rw [←List.map_id xs]
 refine List.map_congr_left fun x hx=>?_
 exact xno (List.all_eq_true.1 h x hx)
theorem ltS (x y:TyS):ltOf cmpS x y=decide (x.1.val<y.1.val):=by
 unfold ltOf cmpS
 by_cases h:x.1.val<y.1.val
 · rw [decide_eq_true h,decide_eq_true (by omega)]
 · rw [decide_eq_false h,decide_eq_false (by omega)]
theorem swoS:SWO (ltOf cmpS) where
 irrefl x:=by rw [ltS];simp
 trans x y z h1 h2:=by rw [ltS] at *;simp at *;omega
 ntrans x y z h1 h2:=by rw [ltS] at *;simp at *;omega
noncomputable def xiD:List AV→List Box→Option (Bool×AV×List Box)
 | [.osl (.b 0) ver 0 n,.func g []],[⟨ver',2,ty,xs,false,true⟩]=>match Nat.beq g 81&&Nat.beq ty 86 with
  | true=>some (Nat.beq ver ver'&&(Nat.beq n xs.length&&(decide (n<4611686018427387904)&&xs.all isS)),.tuple [],[⟨ver',2,86,srtS xs,false,true⟩])
  | false=>none
 | _,_=>none
theorem xoy:OmOk Tryz.prog ITryz 80 xiD:=fun ass H r H' h=>by
 unfold xiD at h
 split at h
 · rename_i ver n g ver' ty xs
   split at h
   case h_2=>simp at h
   rename_i hg
   simp only [Bool.and_eq_true] at hg
   obtain rfl:=Nat.eq_of_beq_eq_true hg.1
   obtain rfl:=Nat.eq_of_beq_eq_true hg.2
   simp only [Option.some.injEq,Prod.mk.injEq,Bool.and_eq_true,decide_eq_true_eq] at h
   obtain ⟨⟨h1,h2,h3,h4⟩,rfl,rfl⟩:=h
   obtain rfl:=Nat.eq_of_beq_eq_true h1
   obtain rfl:=Nat.eq_of_beq_eq_true h2
   have hti:∃ ti,tinfo Tryz.prog 86=some ti∧ti.sz=2∧ti.agg=true:=by
    have h:(match tinfo Tryz.prog 86 with|some ti=>(ti.sz==2)&&ti.agg|none=>false)=true:=by kernel_rfl
    split at h
    · rename_i ti hti
      simp only [Bool.and_eq_true,beq_iff_eq] at h
      exact ⟨ti,hti,h.1,h.2⟩
    · simp at h
   obtain ⟨ti,hti,hz,ha⟩:=hti
   have hgd:=xjy (P:=Tryz.prog) (Inv:=ITryz) Tryz.srl80 2 (by decide) (fun w=>by rw [←ha];exact xdr hti w) (fun w=>by rw [←hz];exact xba hti w)
    intsS (fun _=>rfl) cmpS swoS 81 (xbW Tryz.func80 rfl (by kernel_rfl)) (xgd (xbW Tryz.func81 rfl (by kernel_rfl)))
    (fun x y W=>Tryz.walkS _ _ _ _ (cmpS x y) (by
     have:=x.1.isLt
     have:=y.1.isLt
     unfold cmpS
     exact xb5 (by omega) (by omega)) W)
    ver 86 rfl (xs.map decS) (by simpa using h3)
   rw [List.length_map,xmK h4] at hgd
   exact hgd
 · simp at h
end Go.Sim.M
namespace Go.Sim.M
abbrev TyP:Type:=Int×Int
def cmpP (x y:TyP):Int:=orI (cmpI x.1 y.1) (cmpI x.2 y.2)
end Go.Sim.M

end
noncomputable section
namespace Go.Sim.M
open Go.RowKit Go.Proofs
noncomputable def E1:Env:=EKA3.withM 80 xiD
theorem xgE:OrcOk Tryz.prog ITryz E1:=xnW.withM xoy
end Go.Sim.M
end
noncomputable section
set_option maxRecDepth 100000
namespace Go.Sim.M
open Go.IntKind (i64 u64 u8)
open Go.RowKit Go.Proofs
def xcv:Env:=E1.fn 106 0 (lsOf []) (lpsOf [])
theorem xiE:OrcOk Tryz.prog (ITryz.at 0) xcv:=xgE.fn
theorem xgw:LoOk Tryz.prog (ITryz.at xcv.pin) xcv (loopAt Tryz.f47 0):=xa0 (by kernel_rfl)
def xcq {T:Type} (d:LA) (e:Int) (a:Nat) (c:Int) (b:LA) (δ:T) (κl:(Nat×Int×LA)→T) (κr:(Nat×LA)→T):T:=br (decide (c<e)) (br (decide (0≤c)&&decide (c<d.length)) (br (decide (c.toNat<d.length)&&((d.getD c.toNat .top).cells.length==3&&hasShs [Sh.int .i64,Sh.int .i64,Sh.int .i64] (d.getD c.toNat .top).cells 0)) (br (xaX ((d.getD c.toNat .top).cells.getD 0 .top).toInt ((d.getD c.toNat .top).cells.getD 1 .top).toInt) (br (a==b.length&&(decide ((a+2)*16≤140737488355328)&&decide (a+2≤4611686018427387904))) (κl (a+2,i64.wrap (c+1),b++[AV.agg [AV.int .i64 ((d.getD c.toNat .top).cells.getD 0 .top).toInt,AV.int .i64 ((d.getD c.toNat .top).cells.getD 2 .top).toInt],AV.agg [AV.int .i64 ((d.getD c.toNat .top).cells.getD 1 .top).toInt,AV.int .i64 (i64.wrap (0 - ((d.getD c.toNat .top).cells.getD 2 .top).toInt))]])) δ) (κl (a,i64.wrap (c+1),b))) δ) δ) (κr (a,b))
def xaz (c:LA) (d:Int):(Nat×Int×LA)→Option ((Nat×Int×LA)⊕(Nat×LA)):=fun (b,e,a)=>xcq c d b e a none (fun s=>some (.inl s)) (fun p=>some (.inr p))
def xbP (c:LA) (d:Int):(Nat×Int×LA)→LA×List Box:=fun (b,e,a)=>([AV.osl 0 0 0 b,AV.list 3 c,AV.int .i64 d,AV.int .i64 e],[⟨0,2,86,a,false,true⟩])
def xby (a:LA) (b:Int):(Nat×LA)→LR:=fun p=>(.leaf (.exit 0) [AV.osl 0 0 0 p.1] [⟨0,2,86,p.2,false,true⟩])
abbrev xjA (a:LA) (H:List Box):=XR Tryz.prog xcv [3,10,11,12] [3] [(3,2,86)] (loopAt Tryz.f47 0) a H
theorem xjB (a:LA) (b:Int) (s:Nat×Int×LA):Enc (encR (xbP a b) (xby a b)) (xaz a b s) (xjA (xbP a b s).1 (xbP a b s).2):=by
 obtain ⟨d,e,c⟩:=s
 refine eV (xcq a b d e c none (fun s=>some (encR (xbP a b) (xby a b) (.inl s))) (fun p=>some (encR (xbP a b) (xby a b) (.inr p)))) (by kernel_rfl) ?_;unfold xaz xcq;repeat' first|exact eN|exact eS rfl|apply eB
def xb9:Lp:=lpOf [3,10,11,12] [3] [(3,2,86)] (pCons (pOsl 0 0 0) (pCons (pList 3 pAny) (pCons (pInt .i64) (pCons (pInt .i64) pNil)))) (pCons (pBox 0 2 86 false true pAny) pNil) fun (b,(c,(d,(e,_)))) (a,_)=>((Iter (xaz c d) (b,e,a)).isSome,xby c d ((Iter (xaz c d) (b,e,a)).getD (0,[])))
theorem xic:LoopOk Tryz.prog (ITryz.at xcv.pin) xcv.nt (loopAt Tryz.f47 0) xb9:=xei fun g h j i=>by
 obtain ⟨b,⟨c,⟨d,⟨e,_⟩⟩⟩⟩:=g
 obtain ⟨a,_⟩:=h
 obtain ⟨f,rfl⟩:=Prod.mk.inj i
 exact xbY mxTryz (inv0Ok Tryz.prog _) rfl xiE xgw (xbP c d) (xby c d) (fun p=>by simp only [xby,LR.eval];first|(simp;done)|(repeat' split<;>simp)) (xjB c d) (s:=(b,e,a)) (xam f)
def xcw:Env:=E1.fn 106 0 (lsOf []) (lpsOf [(3,xb9)])
theorem xiF:OrcOk Tryz.prog (ITryz.at 0) xcw:=xgE.fn
theorem xgy:LoOk Tryz.prog (ITryz.at xcw.pin) xcw (loopAt Tryz.f47 1):=xa0 (by kernel_rfl)
def xft (i:Int) (a:LA):=decide (0+i.toNat<a.length)
def xdU {T:Type} (b e:Nat) (d i:Int) (a c:LA) (δ:T) (κl:(Int×Int×LA×LA)→T) (κr:(Int×Int×LA×LA)→T):T:=br (decide (i<(↑b:Int))) (br (decide (0≤i)&&decide (i<(↑b:Int))) (br (xft i a&&hasSh1 (Sh.int .i64) ((a.getD (0+i.toNat) .top).cells.getD 0 .top)) (br (((a.getD (0+i.toNat) .top).cells.getD 0 .top).toInt==0) (br (decide (0≤i)&&decide (i<(↑b:Int))) (br (xft i a&&hasSh1 (Sh.int .i64) ((a.getD (0+i.toNat) .top).cells.getD 1 .top)) (κl (i64.wrap (d+((a.getD (0+i.toNat) .top).cells.getD 1 .top).toInt),i64.wrap (i+1),a,c)) δ) δ) (κr (d,i,a,c))) δ) δ) (κr (d,i,a,c))
def xa1 (b d:Nat):(Int×Int×LA×LA)→Option ((Int×Int×LA×LA)⊕(Int×Int×LA×LA)):=fun (e,i,a,c)=>xdU b d e i a c none (fun s=>some (.inl s)) (fun p=>some (.inr p))
def xbQ (b d:Nat):(Int×Int×LA×LA)→LA×List Box:=fun (e,i,a,c)=>([AV.osl 0 0 0 b,AV.osl 1 0 0 d,AV.int .i64 e,AV.int .i64 i],[⟨0,2,86,a,false,true⟩,⟨0,2,86,c,false,true⟩])
def xbz (a b:Nat):(Int×Int×LA×LA)→LR:=fun p=>(.leaf (.exit 2) [AV.osl 0 0 0 a,AV.osl 1 0 0 b,AV.int .i64 p.1,AV.int .i64 p.2.1] [⟨0,2,86,p.2.2.1,false,true⟩,⟨0,2,86,p.2.2.2,false,true⟩])
abbrev xjC (a:LA) (H:List Box):=XR Tryz.prog xcw [3,6,7,8] [3,6,7,8] [(3,2,86),(6,2,86)] (loopAt Tryz.f47 1) a H
theorem xjD (a b:Nat) (s:Int×Int×LA×LA):Enc (encR (xbQ a b) (xbz a b)) (xa1 a b s) (xjC (xbQ a b s).1 (xbQ a b s).2):=by
 obtain ⟨e,i,c,d⟩:=s
 refine eV (xdU a b e i c d none (fun s=>some (encR (xbQ a b) (xbz a b) (.inl s))) (fun p=>some (encR (xbQ a b) (xbz a b) (.inr p)))) (by kernel_rfl) ?_;unfold xa1 xdU;repeat' first|exact eN|exact eS rfl|apply eB
def xcS:Lp:=lpOf [3,6,7,8] [3,6,7,8] [(3,2,86),(6,2,86)] (pCons (pOsl 0 0 0) (pCons (pOsl 1 0 0) (pCons (pInt .i64) (pCons (pInt .i64) pNil)))) (pCons (pBox 0 2 86 false true pAny) (pCons (pBox 0 2 86 false true pAny) pNil)) fun (a,(c,(e,(i,_)))) (b,(d,_))=>((Iter (xa1 a c) (e,i,b,d)).isSome,xbz a c ((Iter (xa1 a c) (e,i,b,d)).getD (0,0,[],[])))
theorem xid:LoopOk Tryz.prog (ITryz.at xcw.pin) xcw.nt (loopAt Tryz.f47 1) xcS:=xei fun g h k j=>by
 obtain ⟨a,⟨b,⟨e,⟨i,_⟩⟩⟩⟩:=g
 obtain ⟨c,⟨d,_⟩⟩:=h
 obtain ⟨f,rfl⟩:=Prod.mk.inj j
 exact xbY mxTryz (inv0Ok Tryz.prog _) rfl xiF xgy (xbQ a b) (xbz a b) (fun p=>by simp only [xbz,LR.eval];first|(simp;done)|(repeat' split<;>simp)) (xjD a b) (s:=(e,i,c,d)) (xam f)
def xcy:Env:=E1.fn 106 0 (lsOf []) (lpsOf [(3,xb9),(11,xcS)])
theorem xiG:OrcOk Tryz.prog (ITryz.at 0) xcy:=xgE.fn
theorem xgz:LoOk Tryz.prog (ITryz.at xcy.pin) xcy (loopAt Tryz.f47 3):=xa0 (by kernel_rfl)
def xck (i:Int) (a:LA):=decide (0+i.toNat<a.length)
def xbU {T:Type} (b f:Nat) (e d i:Int) (a c:LA) (δ:T) (κl:(Int×Int×LA×LA)→T) (κr:(Int×Int×LA×LA)→T):T:=br (decide (i<(↑b:Int))) (br (decide (0≤i)&&decide (i<(↑b:Int))) (br (xck i a&&hasSh1 (Sh.int .i64) ((a.getD (0+i.toNat) .top).cells.getD 0 .top)) (br (((a.getD (0+i.toNat) .top).cells.getD 0 .top).toInt==e) (br (decide (0≤i)&&decide (i<(↑b:Int))) (br (xck i a&&hasSh1 (Sh.int .i64) ((a.getD (0+i.toNat) .top).cells.getD 1 .top)) (κl (i64.wrap (d+((a.getD (0+i.toNat) .top).cells.getD 1 .top).toInt),i64.wrap (i+1),a,c)) δ) δ) (κr (d,i,a,c))) δ) δ) (κr (d,i,a,c))
def xas (b d:Nat) (e:Int):(Int×Int×LA×LA)→Option ((Int×Int×LA×LA)⊕(Int×Int×LA×LA)):=fun (f,i,a,c)=>xbU b d e f i a c none (fun s=>some (.inl s)) (fun p=>some (.inr p))
def xbT (b d:Nat) (e:Int):(Int×Int×LA×LA)→LA×List Box:=fun (f,i,a,c)=>([AV.osl 0 0 0 b,AV.osl 1 0 0 d,AV.int .i64 f,AV.int .i64 i,AV.int .i64 e],[⟨0,2,86,a,false,true⟩,⟨0,2,86,c,false,true⟩])
def xbC (a b:Nat) (c:Int):(Int×Int×LA×LA)→LR:=fun p=>(.leaf (.exit 6) [AV.osl 0 0 0 a,AV.osl 1 0 0 b,AV.int .i64 p.1,AV.int .i64 p.2.1,AV.int .i64 c] [⟨0,2,86,p.2.2.1,false,true⟩,⟨0,2,86,p.2.2.2,false,true⟩])
abbrev xjG (a:LA) (H:List Box):=XR Tryz.prog xcy [3,6,7,8,9] [3,6,7,8,9] [(3,2,86),(6,2,86)] (loopAt Tryz.f47 3) a H
theorem xjH (a b:Nat) (c:Int) (s:Int×Int×LA×LA):Enc (encR (xbT a b c) (xbC a b c)) (xas a b c s) (xjG (xbT a b c s).1 (xbT a b c s).2):=by
 obtain ⟨f,i,d,e⟩:=s
 refine eV (xbU a b c f i d e none (fun s=>some (encR (xbT a b c) (xbC a b c) (.inl s))) (fun p=>some (encR (xbT a b c) (xbC a b c) (.inr p)))) (by kernel_rfl) ?_;unfold xas xbU;repeat' first|exact eN|exact eS rfl|apply eB
def xdt:Lp:=lpOf [3,6,7,8,9] [3,6,7,8,9] [(3,2,86),(6,2,86)] (pCons (pOsl 0 0 0) (pCons (pOsl 1 0 0) (pCons (pInt .i64) (pCons (pInt .i64) (pCons (pInt .i64) pNil))))) (pCons (pBox 0 2 86 false true pAny) (pCons (pBox 0 2 86 false true pAny) pNil)) fun (a,(c,(f,(i,(e,_))))) (b,(d,_))=>((Iter (xas a c e) (f,i,b,d)).isSome,xbC a c e ((Iter (xas a c e) (f,i,b,d)).getD (0,0,[],[])))
theorem xeT:LoopOk Tryz.prog (ITryz.at xcy.pin) xcy.nt (loopAt Tryz.f47 3) xdt:=xei fun h j l k=>by
 obtain ⟨a,⟨b,⟨f,⟨i,⟨d,_⟩⟩⟩⟩⟩:=h
 obtain ⟨c,⟨e,_⟩⟩:=j
 obtain ⟨g,rfl⟩:=Prod.mk.inj k
 exact xbY mxTryz (inv0Ok Tryz.prog _) rfl xiG xgz (xbT a b d) (xbC a b d) (fun p=>by simp only [xbC,LR.eval];first|(simp;done)|(repeat' split<;>simp)) (xjH a b d) (s:=(f,i,c,e)) (xam g)
def xcz:Env:=E1.fn 106 0 (lsOf []) (lpsOf [(3,xb9),(11,xcS),(17,xdt)])
theorem xiH:OrcOk Tryz.prog (ITryz.at 0) xcz:=xgE.fn
theorem xgA:LoOk Tryz.prog (ITryz.at xcz.pin) xcz (loopAt Tryz.f47 2):=xco (ls:=[loopAt Tryz.f47 3]) (by kernel_rfl) (lkC xeT lkN)
def xb0 (i:Int) (a:LA):=decide (0+i.toNat<a.length)&&hasSh1 (Sh.int .i64) ((a.getD (0+i.toNat) .top).cells.getD 0 .top)
def xbB (i:Int) (a:LA):=((a.getD (0+i.toNat) .top).cells.getD 0 .top).toInt
def xb1 (b d:Nat) (e i:Int) (a c:LA):=Iter (xas b d (xbB i a)) (e,i,a,c)
def xcj (b d:Nat) (e i:Int) (a c:LA):=(xb1 b d e i a c).getD (0,0,[],[])
def xch (b d:Nat) (e i:Int) (a c:LA):=(xcj b d e i a c).snd
def xci (b d:Nat) (e i:Int) (a c:LA):=(xcj b d e i a c).fst
def xcg (b d:Nat) (e i:Int) (a c:LA):=(xch b d e i a c).snd
def xcf (b c:Nat) (e i:Int) (a d:LA):=xaS c (xbB i a) (xci b c e i a d) (xcg b c e i a d).snd
def xce (b d:Nat) (e i:Int) (a c:LA):=(xcf b d e i a c).getD (false,(0,[]),0,[])
def xcc (b d:Nat) (e i:Int) (a c:LA):=(xce b d e i a c).fst
def xcd (b d:Nat) (e i:Int) (a c:LA):=(xce b d e i a c).snd
def xca (b d:Nat) (e i:Int) (a c:LA):=(xcd b d e i a c).snd
def xcb (b d:Nat) (e i:Int) (a c:LA):=(xcd b d e i a c).fst
def xbS {T:Type} (b d:Nat) (e i:Int) (a c:LA) (δ:T) (κl:(Nat×Int×Int×LA×LA)→T) (κr:(Nat×LA)→T):T:=br (decide (i<(↑b:Int))) (br (decide (0≤i)&&decide (i<(↑b:Int))) (br (xb0 i a) (br (decide (xbB i a<1099511627776)) (br (decide (0≤i)&&decide (i<(↑b:Int))) (br (xb0 i a) (br ((xb1 b d e i a c).isSome) (br ((xcf b d e i a c).isSome) (κl (br (xcc b d e i a c) (xcb b d e i a c).fst (xca b d e i a c).fst,xci b d e i a c,(xch b d e i a c).fst,(xcg b d e i a c).fst,br (xcc b d e i a c) (xcb b d e i a c).snd (xca b d e i a c).snd)) δ) δ) δ) δ) (κr (d,c))) δ) δ) (κr (d,c))
def xaA (b:Nat):(Nat×Int×Int×LA×LA)→Option ((Nat×Int×Int×LA×LA)⊕(Nat×LA)):=fun (d,e,i,a,c)=>xbS b d e i a c none (fun s=>some (.inl s)) (fun p=>some (.inr p))
def xbR (b:Nat):(Nat×Int×Int×LA×LA)→LA×List Box:=fun (d,e,i,a,c)=>([AV.osl 0 0 0 b,AV.osl 1 0 0 d,AV.int .i64 e,AV.int .i64 i],[⟨0,2,86,a,false,true⟩,⟨0,2,86,c,false,true⟩])
def xbA (a:Nat):(Nat×LA)→LR:=fun p=>(.leaf (.exit 4) [AV.osl 0 0 0 p.1] [⟨0,2,86,p.2,false,true⟩])
abbrev xjE (a:LA) (H:List Box):=XR Tryz.prog xcz [3,6,7,8] [6] [(3,2,86),(6,2,86)] (loopAt Tryz.f47 2) a H
theorem xjF (a:Nat) (s:Nat×Int×Int×LA×LA):Enc (encR (xbR a) (xbA a)) (xaA a s) (xjE (xbR a s).1 (xbR a s).2):=by
 obtain ⟨d,e,i,b,c⟩:=s
 refine eV (xbS a d e i b c none (fun s=>some (encR (xbR a) (xbA a) (.inl s))) (fun p=>some (encR (xbR a) (xbA a) (.inr p)))) (by kernel_rfl) ?_;unfold xaA xbS;repeat' first|exact eN|exact eS rfl|apply eB
def xfu:Lp:=lpOf [3,6,7,8] [6] [(3,2,86),(6,2,86)] (pCons (pOsl 0 0 0) (pCons (pOsl 1 0 0) (pCons (pInt .i64) (pCons (pInt .i64) pNil)))) (pCons (pBox 0 2 86 false true pAny) (pCons (pBox 0 2 86 false true pAny) pNil)) fun (a,(d,(e,(i,_)))) (b,(c,_))=>((Iter (xaA a) (d,e,i,b,c)).isSome,xbA a ((Iter (xaA a) (d,e,i,b,c)).getD (0,[])))
theorem xie:LoopOk Tryz.prog (ITryz.at xcz.pin) xcz.nt (loopAt Tryz.f47 2) xfu:=xei fun g h k j=>by
 obtain ⟨a,⟨d,⟨e,⟨i,_⟩⟩⟩⟩:=g
 obtain ⟨b,⟨c,_⟩⟩:=h
 obtain ⟨f,rfl⟩:=Prod.mk.inj j
 exact xbY mxTryz (inv0Ok Tryz.prog _) rfl xiH xgA (xbR a) (xbA a) (fun p=>by simp only [xbA,LR.eval];first|(simp;done)|(repeat' split<;>simp)) (xjF a) (s:=(d,e,i,b,c)) (xam f)
def xcx:Env:=E1.fn 106 0 (lsOf []) (lpsOf [(3,xb9),(11,xcS),(17,xdt),(15,xfu)])
theorem xiI:OrcOk Tryz.prog (ITryz.at 0) xcx:=xgE.fn
theorem xhz:LoOk Tryz.prog (ITryz.at xcx.pin) xcx (Tryz.f47.body.getD .skip):=xco (ls:=[loopAt Tryz.f47 0,loopAt Tryz.f47 1,loopAt Tryz.f47 2,loopAt Tryz.f47 3]) (by kernel_rfl) (lkC xic (lkC xid (lkC xie (lkC xeT lkN))))
def xey (l:LA):=(Iter (xaz l (↑l.length:Int)) (0,0,[])).getD (0,[])
def xcM (l:LA):=(xey l).fst
def xdi (l:LA):=(xey l).snd
def xew (l:LA):=Iter (xa1 (xcM l) 0) (0,0,srtS (xdi l),[])
def xev (l:LA):=(xew l).getD (0,0,[],[])
def xet (l:LA):=(xev l).fst
def xeu (l:LA):=(xev l).snd
def xes (l:LA):=(xeu l).snd
def xff (l:LA):=xaS 0 0 (xet l) (xes l).snd
def xfe (l:LA):=(xff l).getD (false,(0,[]),0,[])
def xfc (l:LA):=(xfe l).snd
def xfd (l:LA):=(xfe l).fst
def xfa (l:LA):=(xfc l).snd
def xfb (l:LA):=(xfc l).fst
def xe9 (l:LA):=Iter (xaA (xcM l)) (br (xfd l) (xfb l).fst (xfa l).fst,xet l,(xeu l).fst,(xes l).fst,br (xfd l) (xfb l).snd (xfa l).snd)
def xe8 (l:LA):=(xe9 l).getD (0,[])
def xe6 (l:LA):=(xe8 l).fst
def xe7 (l:LA):=(xe8 l).snd
def xd5 {T:Type} (l:LA) (δ:T) (κ:LA→T):T:=br ((Iter (xaz l (↑l.length:Int)) (0,0,[])).isSome) (br ((xcM l).beq (xdi l).length&&(decide (xcM l<4611686018427387904)&&(xdi l).all isS)) (br ((xew l).isSome) (br ((xff l).isSome) (br ((xe9 l).isSome) (br (decide (0+xe6 l≤(xe7 l).length)&&true) (κ (List.take (xe6 l) (List.drop 0 (xe7 l)))) δ) δ) δ) δ) δ) δ
def xcL (l:LA):Option (LA):=xd5 l none some
theorem xl0 (l:LA):Enc (fun (p:LA)=>((AV.list 2 p):AV)) (xcL l) (XF Tryz.prog xcx Tryz.f47 (Tryz.f47.body.getD .skip) [AV.list 3 l]):=by
 refine eV (xd5 l none (fun (p:LA)=>some ((AV.list 2 p):AV))) (by kernel_rfl) ?_;unfold xcL xd5;repeat' first|exact eN|exact eS rfl|apply eB
def xif:LA→Option (Bool×AV):=ocOf (sCons (sList 3 pAny) sNil) fun (l,_)=>((xcL l).isSome,(AV.list 2 ((xcL l).getD [])))
theorem xlx:OcOk Tryz.prog ITryz 47 (xif):=xcu fun c f e=>by
 obtain ⟨l,_⟩:=c
 obtain ⟨a,b⟩:=Prod.mk.inj e
 refine xay (p:=xcx.pin) (xaU mxTryz (inv0Ok Tryz.prog _) rfl xiI Tryz.func47 rfl (by kernel_rfl) xhz ((xl0 _ _ (xam (d:=[]) a)).trans ?_))
 exact congrArg some b
def xhC:Env:=E1.with 47 xif
theorem xf2:OrcOk Tryz.prog ITryz xhC:=xgE.with xlx
def xa2:Env:=xhC.fn 21 0 (lsOf []) (lpsOf [])
theorem xfi:OrcOk Tryz.prog (ITryz.at 0) xa2:=xf2.fn
theorem xdx:LoOk Tryz.prog (ITryz.at xa2.pin) xa2 (loopAt Tryz.f18 0):=xa0 (by kernel_rfl)
def xa7 {T:Type} (d:LA) (e:Int) (b:Nat) (a:Int) (c:LA) (δ:T) (κl:(Nat×Int×LA)→T) (κr:(Nat×LA)→T):T:=br (decide (a<e)) (br (decide (0≤a)&&decide (a<d.length)) (br (decide (a.toNat<d.length)&&((d.getD a.toNat .top).cells.length==3&&hasShs [Sh.list 3,Sh.int .i64,Sh.int .i64] (d.getD a.toNat .top).cells 0)) (br (b==c.length&&(decide ((b+1)*24≤140737488355328)&&decide (b+1≤4611686018427387904))) (κl (b+1,i64.wrap (a+1),c++[AV.agg [AV.int .i64 ((d.getD a.toNat .top).cells.getD 1 .top).toInt,AV.int .i64 ((d.getD a.toNat .top).cells.getD 2 .top).toInt,AV.int .i64 1]])) δ) δ) δ) (κr (b,c))
def xag (c:LA) (d:Int):(Nat×Int×LA)→Option ((Nat×Int×LA)⊕(Nat×LA)):=fun (b,e,a)=>xa7 c d b e a none (fun s=>some (.inl s)) (fun p=>some (.inr p))
def xaO (c:LA) (d:Int):(Nat×Int×LA)→LA×List Box:=fun (b,e,a)=>([AV.osl 0 0 0 b,AV.list 3 c,AV.int .i64 d,AV.int .i64 e],[⟨0,3,89,a,false,true⟩])
def xaC (a:LA) (b:Int):(Nat×LA)→LR:=fun p=>(.leaf (.exit 0) [AV.osl 0 0 0 p.1] [⟨0,3,89,p.2,false,true⟩])
abbrev xfy (a:LA) (H:List Box):=XR Tryz.prog xa2 [3,6,7,8] [3] [(3,3,89)] (loopAt Tryz.f18 0) a H
theorem xfz (a:LA) (b:Int) (s:Nat×Int×LA):Enc (encR (xaO a b) (xaC a b)) (xag a b s) (xfy (xaO a b s).1 (xaO a b s).2):=by
 obtain ⟨d,e,c⟩:=s
 refine eV (xa7 a b d e c none (fun s=>some (encR (xaO a b) (xaC a b) (.inl s))) (fun p=>some (encR (xaO a b) (xaC a b) (.inr p)))) (by kernel_rfl) ?_;unfold xag xa7;repeat' first|exact eN|exact eS rfl|apply eB
def xc4:Lp:=lpOf [3,6,7,8] [3] [(3,3,89)] (pCons (pOsl 0 0 0) (pCons (pList 3 pAny) (pCons (pInt .i64) (pCons (pInt .i64) pNil)))) (pCons (pBox 0 3 89 false true pAny) pNil) fun (b,(c,(d,(e,_)))) (a,_)=>((Iter (xag c d) (b,e,a)).isSome,xaC c d ((Iter (xag c d) (b,e,a)).getD (0,[])))
theorem xeU:LoopOk Tryz.prog (ITryz.at xa2.pin) xa2.nt (loopAt Tryz.f18 0) xc4:=xei fun f g j h=>by
 obtain ⟨d,⟨a,⟨b,⟨i,_⟩⟩⟩⟩:=f
 obtain ⟨c,_⟩:=g
 obtain ⟨e,rfl⟩:=Prod.mk.inj h
 exact xbY mxTryz (inv0Ok Tryz.prog _) rfl xfi xdx (xaO a b) (xaC a b) (fun p=>by simp only [xaC,LR.eval];first|(simp;done)|(repeat' split<;>simp)) (xfz a b) (s:=(d,i,c)) (xam e)
def xbr:Env:=xhC.fn 21 0 (lsOf []) (lpsOf [(3,xc4)])
theorem xfj:OrcOk Tryz.prog (ITryz.at 0) xbr:=xf2.fn
theorem xez:LoOk Tryz.prog (ITryz.at xbr.pin) xbr (Tryz.f18.body.getD .skip):=xco (ls:=[loopAt Tryz.f18 0]) (by kernel_rfl) (lkC xeU lkN)
def xcE (l:LA):=(Iter (xag l (↑l.length:Int)) (0,0,[])).getD (0,[])
def xcC (l:LA):=(xcE l).fst
def xcD (l:LA):=(xcE l).snd
def xcB (l:LA):=xcL (List.take (xcC l) (List.drop 0 (xcD l)))
def xb6 {T:Type} (l:LA) (δ:T) (κ:LA→T):T:=br ((Iter (xag l (↑l.length:Int)) (0,0,[])).isSome) (br (decide (0+xcC l≤(xcD l).length)&&true) (br ((xcB l).isSome) (κ ((xcB l).getD [])) δ) δ) δ
def xaR (l:LA):Option (LA):=xb6 l none some
theorem xgO (l:LA):Enc (fun (p:LA)=>((AV.list 2 p):AV)) (xaR l) (XF Tryz.prog xbr Tryz.f18 (Tryz.f18.body.getD .skip) [AV.list 3 l]):=by
 refine eV (xb6 l none (fun (p:LA)=>some ((AV.list 2 p):AV))) (by kernel_rfl) ?_;unfold xaR xb6;repeat' first|exact eN|exact eS rfl|apply eB
def xdV:LA→Option (Bool×AV):=ocOf (sCons (sList 3 pAny) sNil) fun (l,_)=>((xaR l).isSome,(AV.list 2 ((xaR l).getD [])))
theorem xgN:OcOk Tryz.prog ITryz 18 (xdV):=xcu fun c f e=>by
 obtain ⟨l,_⟩:=c
 obtain ⟨a,b⟩:=Prod.mk.inj e
 refine xay (p:=xbr.pin) (xaU mxTryz (inv0Ok Tryz.prog _) rfl xfj Tryz.func18 rfl (by kernel_rfl) xez ((xgO _ _ (xam (d:=[]) a)).trans ?_))
 exact congrArg some b
def xmB:Env:=xhC.with 18 xdV
theorem xmC:OrcOk Tryz.prog ITryz xmB:=xf2.with xgN
abbrev EKP1:Env:=xmB
theorem xnY:OrcOk Tryz.prog ITryz EKP1:=xmC
end Go.Sim.M
end
