/- Part 12 of the proof of the law. -/
import Derived.Test.YtoemghmemdnelaaGreatDoorGS11
import Derived.WalkKit
import Derived.Lib.Walk
import Derived.StillTailTactics
set_option linter.unusedVariables false
set_option linter.unusedSimpArgs false
noncomputable section
set_option maxRecDepth 100000
namespace Go.Sim.M
def cmpI (x y:Int):Int:=if x<y then -1 else if y<x then 1 else 0
def orI (x y:Int):Int:=if x=0 then y else x
end Go.Sim.M
namespace Go.Sim.M
abbrev TyS:Type:=Fin 1099511627777×Int
def intsS (x:TyS):List Int:=[(x.1.val:Int),x.2]
def cmpS (x y:TyS):Int:=(x.1.val:Int) - (y.1.val:Int)
end Go.Sim.M
namespace Go.Proofs
open Go.RowKit Go.Sim Go.Sim.M Go.Sort
set_option maxHeartbeats 1000000 in
theorem Tryz.walkS (a b a' b' r:Int) (hr:IntKind.i64.wrap (a - a')=r) (W:World):Calls Tryz.prog 81 #[.agg #[.int .i64 a,.int .i64 b],.agg #[.int .i64 a',.int .i64 b']] W fun e w'=>e=.returned (.int .i64 r)∧∃ q os',w'=Sort.grow (W.drewN q) os':=by
 go_enter Tryz.func81,Tryz.ntmps81
 go_wp2
 go_ret
 subst hr
 exact ⟨rfl,0,_,by rw [alloc_eq_grow,alloc_eq_grow,grow_grow];rfl⟩
end Go.Proofs
namespace Go.Sim.M
open Go.RowKit Go.Proofs Go.Sort
def isS:AV→Bool
 | .agg [.int .i64 a,.int .i64 _]=>decide (0≤a)&&decide (a≤1099511627776)
 | _=>false
def decS:AV→TyS
 | .agg [.int _ a,.int _ b]=>(Fin.ofNat 1099511627777 a.toNat,b)
 | _=>default
noncomputable def srtS (xs:List AV):List AV:=(pdqL cmpS (xs.map decS)).map (encI intsS)
theorem xsb {x:AV} (h:isS x=true):encI intsS (decS x)=x:=by
 unfold isS at h
 split at h
 · rename_i a b
   simp only [Bool.and_eq_true,decide_eq_true_eq] at h
   have:a.toNat % 1099511627777=a.toNat:=Nat.mod_eq_of_lt (by omega)
   simp only [decS,encI,intsS,List.map_cons,List.map_nil,Fin.ofNat,this,Int.toNat_of_nonneg h.1]
 · simp at h
theorem xry {xs:List AV} (h:xs.all isS=true):(xs.map decS).map (encI intsS)=xs:=by
 rw [List.map_map]
 conv=>rhs;rw [←List.map_id xs]
 refine List.map_congr_left fun x hx=>?_
 exact xsb (List.all_eq_true.1 h x hx)
theorem ltS (x y:TyS):ltOf cmpS x y=decide (x.1.val<y.1.val):=by
 unfold ltOf cmpS
 by_cases h:x.1.val<y.1.val
 · rw [decide_eq_true h,decide_eq_true (by omega)]
 · rw [decide_eq_false h,decide_eq_false (by omega)]
theorem swoS:SWO (ltOf cmpS) where
 irrefl x:=by rw [ltS];simp
 trans x y z h1 h2:=by rw [ltS] at *;simp at *;omega
 ntrans x y z h1 h2:=by rw [ltS] at *;simp at *;omega
noncomputable def xnh:List AV→List Box→Option (Bool×AV×List Box)
 | [.osl (.b 0) ver 0 n,.func g []],[⟨ver',2,ty,xs,false,true⟩]=>match Nat.beq g 81&&Nat.beq ty 86 with
  | true=>some (Nat.beq ver ver'&&(Nat.beq n xs.length&&(decide (n<4611686018427387904)&&xs.all isS)),.tuple [],[⟨ver',2,86,srtS xs,false,true⟩])
  | false=>none
 | _,_=>none
theorem xtd:OmOk Tryz.prog ITryz 80 xnh:=fun ass H r H' h=>by
 unfold xnh at h
 split at h
 · rename_i ver n g ver' ty xs
   split at h
   case h_2=>simp at h
   rename_i hg
   simp only [Bool.and_eq_true] at hg
   obtain rfl:=Nat.eq_of_beq_eq_true hg.1
   obtain rfl:=Nat.eq_of_beq_eq_true hg.2
   simp only [Option.some.injEq,Prod.mk.injEq,Bool.and_eq_true,decide_eq_true_eq] at h
   obtain ⟨⟨h1,h2,h3,h4⟩,rfl,rfl⟩:=h
   obtain rfl:=Nat.eq_of_beq_eq_true h1
   obtain rfl:=Nat.eq_of_beq_eq_true h2
   have hti:∃ ti,tinfo Tryz.prog 86=some ti∧ti.sz=2∧ti.agg=true:=by
    have h:(match tinfo Tryz.prog 86 with|some ti=>(ti.sz==2)&&ti.agg|none=>false)=true:=by kernel_rfl
    split at h
    · rename_i ti hti
      simp only [Bool.and_eq_true,beq_iff_eq] at h
      exact ⟨ti,hti,h.1,h.2⟩
    · simp at h
   obtain ⟨ti,hti,hz,ha⟩:=hti
   have hgd:=xor (P:=Tryz.prog) (Inv:=ITryz) Tryz.srl80 2 (by decide) (fun w=>by rw [←ha];exact xfM hti w) (fun w=>by rw [←hz];exact xbM hti w)
    intsS (fun _=>rfl) cmpS swoS 81 (xdn Tryz.func80 rfl (by kernel_rfl)) (xjD (xdn Tryz.func81 rfl (by kernel_rfl)))
    (fun x y W=>Tryz.walkS _ _ _ _ (cmpS x y) (by
     have:=x.1.isLt
     have:=y.1.isLt
     unfold cmpS
     exact xfh (by omega) (by omega)) W)
    ver 86 rfl (xs.map decS) (by simpa using h3)
   rw [List.length_map,xry h4] at hgd
   exact hgd
 · simp at h
end Go.Sim.M
namespace Go.Sim.M
abbrev TyP:Type:=Int×Int
def cmpP (x y:TyP):Int:=orI (cmpI x.1 y.1) (cmpI x.2 y.2)
end Go.Sim.M

end
noncomputable section
namespace Go.Sim.M
open Go.RowKit Go.Proofs
noncomputable def E1:Env:=EKA3.withM 80 xnh
theorem xkh:OrcOk Tryz.prog ITryz E1:=xsK.withM xtd
end Go.Sim.M
end
noncomputable section
set_option maxRecDepth 100000
namespace Go.Sim.M
open Go.IntKind (i64 u64 u8)
open Go.RowKit Go.Proofs
def xes:Env:=E1.fn 106 0 (lsOf []) (lpsOf [])
theorem xni:OrcOk Tryz.prog (ITryz.at 0) xes:=xkh.fn
theorem xj9:LoOk Tryz.prog (ITryz.at xes.pin) xes (loopAt Tryz.f47 0):=xah (by kernel_rfl)
def xej {T:Type} (d:LA) (e:Int) (a:Nat) (c:Int) (b:LA) (δ:T) (κl:(Nat×Int×LA)→T) (κr:(Nat×LA)→T):T:=br (decide (c<e)) (br (decide (0≤c)&&decide (c<d.length)) (br (decide (c.toNat<d.length)&&((d.getD c.toNat .top).cells.length==3&&hasShs [Sh.int .i64,Sh.int .i64,Sh.int .i64] (d.getD c.toNat .top).cells 0)) (br (xbs ((d.getD c.toNat .top).cells.getD 0 .top).toInt ((d.getD c.toNat .top).cells.getD 1 .top).toInt) (br (a==b.length&&(decide ((a+2)*16≤140737488355328)&&decide (a+2≤4611686018427387904))) (κl (a+2,i64.wrap (c+1),b++[AV.agg [AV.int .i64 ((d.getD c.toNat .top).cells.getD 0 .top).toInt,AV.int .i64 ((d.getD c.toNat .top).cells.getD 2 .top).toInt],AV.agg [AV.int .i64 ((d.getD c.toNat .top).cells.getD 1 .top).toInt,AV.int .i64 (i64.wrap (0 - ((d.getD c.toNat .top).cells.getD 2 .top).toInt))]])) δ) (κl (a,i64.wrap (c+1),b))) δ) δ) (κr (a,b))
def xaQ (c:LA) (d:Int):(Nat×Int×LA)→Option ((Nat×Int×LA)⊕(Nat×LA)):=fun (b,e,a)=>xej c d b e a none (fun s=>some (.inl s)) (fun p=>some (.inr p))
def xdf (c:LA) (d:Int):(Nat×Int×LA)→LA×List Box:=fun (b,e,a)=>([AV.osl 0 0 0 b,AV.list 3 c,AV.int .i64 d,AV.int .i64 e],[⟨0,2,86,a,false,true⟩])
def xcH (a:LA) (b:Int):(Nat×LA)→LR:=fun p=>(.leaf (.exit 0) [AV.osl 0 0 0 p.1] [⟨0,2,86,p.2,false,true⟩])
abbrev xot (a:LA) (H:List Box):=XR Tryz.prog xes [3,10,11,12] [3] [(3,2,86)] (loopAt Tryz.f47 0) a H
theorem xou (a:LA) (b:Int) (s:Nat×Int×LA):Enc (encR (xdf a b) (xcH a b)) (xaQ a b s) (xot (xdf a b s).1 (xdf a b s).2):=by
 obtain ⟨d,e,c⟩:=s
 refine eV (xej a b d e c none (fun s=>some (encR (xdf a b) (xcH a b) (.inl s))) (fun p=>some (encR (xdf a b) (xcH a b) (.inr p)))) (by kernel_rfl) ?_;unfold xaQ xej;repeat' first|exact eN|exact eS rfl|apply eB
def xdW:Lp:=lpOf [3,10,11,12] [3] [(3,2,86)] (pCons (pOsl 0 0 0) (pCons (pList 3 pAny) (pCons (pInt .i64) (pCons (pInt .i64) pNil)))) (pCons (pBox 0 2 86 false true pAny) pNil) fun (b,(c,(d,(e,_)))) (a,_)=>((Iter (xaQ c d) (b,e,a)).isSome,xcH c d ((Iter (xaQ c d) (b,e,a)).getD (0,[])))
theorem xmL:LoopOk Tryz.prog (ITryz.at xes.pin) xes.nt (loopAt Tryz.f47 0) xdW:=xb2 fun g h j i=>by
 obtain ⟨b,⟨c,⟨d,⟨e,_⟩⟩⟩⟩:=g
 obtain ⟨a,_⟩:=h
 obtain ⟨f,rfl⟩:=Prod.mk.inj i
 exact xau mxTryz (inv0Ok Tryz.prog _) rfl xni xj9 (xdf c d) (xcH c d) (fun p=>by simp only [xcH,LR.eval];first|(simp;done)|(repeat' split<;>simp)) (xou c d) (s:=(b,e,a)) (xaa f)
def xet:Env:=E1.fn 106 0 (lsOf []) (lpsOf [(3,xdW)])
theorem xnj:OrcOk Tryz.prog (ITryz.at 0) xet:=xkh.fn
theorem xka:LoOk Tryz.prog (ITryz.at xet.pin) xet (loopAt Tryz.f47 1):=xah (by kernel_rfl)
def xiq (i:Int) (a:LA):=decide (0+i.toNat<a.length)
def xgj {T:Type} (b e:Nat) (d i:Int) (a c:LA) (δ:T) (κl:(Int×Int×LA×LA)→T) (κr:(Int×Int×LA×LA)→T):T:=br (decide (i<(↑b:Int))) (br (decide (0≤i)&&decide (i<(↑b:Int))) (br (xiq i a&&hasSh1 (Sh.int .i64) ((a.getD (0+i.toNat) .top).cells.getD 0 .top)) (br (((a.getD (0+i.toNat) .top).cells.getD 0 .top).toInt==0) (br (decide (0≤i)&&decide (i<(↑b:Int))) (br (xiq i a&&hasSh1 (Sh.int .i64) ((a.getD (0+i.toNat) .top).cells.getD 1 .top)) (κl (i64.wrap (d+((a.getD (0+i.toNat) .top).cells.getD 1 .top).toInt),i64.wrap (i+1),a,c)) δ) δ) (κr (d,i,a,c))) δ) δ) (κr (d,i,a,c))
def xbv (b d:Nat):(Int×Int×LA×LA)→Option ((Int×Int×LA×LA)⊕(Int×Int×LA×LA)):=fun (e,i,a,c)=>xgj b d e i a c none (fun s=>some (.inl s)) (fun p=>some (.inr p))
def xdg (b d:Nat):(Int×Int×LA×LA)→LA×List Box:=fun (e,i,a,c)=>([AV.osl 0 0 0 b,AV.osl 1 0 0 d,AV.int .i64 e,AV.int .i64 i],[⟨0,2,86,a,false,true⟩,⟨0,2,86,c,false,true⟩])
def xcI (a b:Nat):(Int×Int×LA×LA)→LR:=fun p=>(.leaf (.exit 2) [AV.osl 0 0 0 a,AV.osl 1 0 0 b,AV.int .i64 p.1,AV.int .i64 p.2.1] [⟨0,2,86,p.2.2.1,false,true⟩,⟨0,2,86,p.2.2.2,false,true⟩])
abbrev xov (a:LA) (H:List Box):=XR Tryz.prog xet [3,6,7,8] [3,6,7,8] [(3,2,86),(6,2,86)] (loopAt Tryz.f47 1) a H
theorem xow (a b:Nat) (s:Int×Int×LA×LA):Enc (encR (xdg a b) (xcI a b)) (xbv a b s) (xov (xdg a b s).1 (xdg a b s).2):=by
 obtain ⟨e,i,c,d⟩:=s
 refine eV (xgj a b e i c d none (fun s=>some (encR (xdg a b) (xcI a b) (.inl s))) (fun p=>some (encR (xdg a b) (xcI a b) (.inr p)))) (by kernel_rfl) ?_;unfold xbv xgj;repeat' first|exact eN|exact eS rfl|apply eB
def xex:Lp:=lpOf [3,6,7,8] [3,6,7,8] [(3,2,86),(6,2,86)] (pCons (pOsl 0 0 0) (pCons (pOsl 1 0 0) (pCons (pInt .i64) (pCons (pInt .i64) pNil)))) (pCons (pBox 0 2 86 false true pAny) (pCons (pBox 0 2 86 false true pAny) pNil)) fun (a,(c,(e,(i,_)))) (b,(d,_))=>((Iter (xbv a c) (e,i,b,d)).isSome,xcI a c ((Iter (xbv a c) (e,i,b,d)).getD (0,0,[],[])))
theorem xmM:LoopOk Tryz.prog (ITryz.at xet.pin) xet.nt (loopAt Tryz.f47 1) xex:=xb2 fun g h k j=>by
 obtain ⟨a,⟨b,⟨e,⟨i,_⟩⟩⟩⟩:=g
 obtain ⟨c,⟨d,_⟩⟩:=h
 obtain ⟨f,rfl⟩:=Prod.mk.inj j
 exact xau mxTryz (inv0Ok Tryz.prog _) rfl xnj xka (xdg a b) (xcI a b) (fun p=>by simp only [xcI,LR.eval];first|(simp;done)|(repeat' split<;>simp)) (xow a b) (s:=(e,i,c,d)) (xaa f)
def xeu:Env:=E1.fn 106 0 (lsOf []) (lpsOf [(3,xdW),(11,xex)])
theorem xnk:OrcOk Tryz.prog (ITryz.at 0) xeu:=xkh.fn
theorem xkb:LoOk Tryz.prog (ITryz.at xeu.pin) xeu (loopAt Tryz.f47 3):=xah (by kernel_rfl)
def xd6 (i:Int) (a:LA):=decide (0+i.toNat<a.length)
def xdk {T:Type} (b f:Nat) (e d i:Int) (a c:LA) (δ:T) (κl:(Int×Int×LA×LA)→T) (κr:(Int×Int×LA×LA)→T):T:=br (decide (i<(↑b:Int))) (br (decide (0≤i)&&decide (i<(↑b:Int))) (br (xd6 i a&&hasSh1 (Sh.int .i64) ((a.getD (0+i.toNat) .top).cells.getD 0 .top)) (br (((a.getD (0+i.toNat) .top).cells.getD 0 .top).toInt==e) (br (decide (0≤i)&&decide (i<(↑b:Int))) (br (xd6 i a&&hasSh1 (Sh.int .i64) ((a.getD (0+i.toNat) .top).cells.getD 1 .top)) (κl (i64.wrap (d+((a.getD (0+i.toNat) .top).cells.getD 1 .top).toInt),i64.wrap (i+1),a,c)) δ) δ) (κr (d,i,a,c))) δ) δ) (κr (d,i,a,c))
def xaF (b d:Nat) (e:Int):(Int×Int×LA×LA)→Option ((Int×Int×LA×LA)⊕(Int×Int×LA×LA)):=fun (f,i,a,c)=>xdk b d e f i a c none (fun s=>some (.inl s)) (fun p=>some (.inr p))
def xdj (b d:Nat) (e:Int):(Int×Int×LA×LA)→LA×List Box:=fun (f,i,a,c)=>([AV.osl 0 0 0 b,AV.osl 1 0 0 d,AV.int .i64 f,AV.int .i64 i,AV.int .i64 e],[⟨0,2,86,a,false,true⟩,⟨0,2,86,c,false,true⟩])
def xcL (a b:Nat) (c:Int):(Int×Int×LA×LA)→LR:=fun p=>(.leaf (.exit 6) [AV.osl 0 0 0 a,AV.osl 1 0 0 b,AV.int .i64 p.1,AV.int .i64 p.2.1,AV.int .i64 c] [⟨0,2,86,p.2.2.1,false,true⟩,⟨0,2,86,p.2.2.2,false,true⟩])
abbrev xoA (a:LA) (H:List Box):=XR Tryz.prog xeu [3,6,7,8,9] [3,6,7,8,9] [(3,2,86),(6,2,86)] (loopAt Tryz.f47 3) a H
theorem xoB (a b:Nat) (c:Int) (s:Int×Int×LA×LA):Enc (encR (xdj a b c) (xcL a b c)) (xaF a b c s) (xoA (xdj a b c s).1 (xdj a b c s).2):=by
 obtain ⟨f,i,d,e⟩:=s
 refine eV (xdk a b c f i d e none (fun s=>some (encR (xdj a b c) (xcL a b c) (.inl s))) (fun p=>some (encR (xdj a b c) (xcL a b c) (.inr p)))) (by kernel_rfl) ?_;unfold xaF xdk;repeat' first|exact eN|exact eS rfl|apply eB
def xfO:Lp:=lpOf [3,6,7,8,9] [3,6,7,8,9] [(3,2,86),(6,2,86)] (pCons (pOsl 0 0 0) (pCons (pOsl 1 0 0) (pCons (pInt .i64) (pCons (pInt .i64) (pCons (pInt .i64) pNil))))) (pCons (pBox 0 2 86 false true pAny) (pCons (pBox 0 2 86 false true pAny) pNil)) fun (a,(c,(f,(i,(e,_))))) (b,(d,_))=>((Iter (xaF a c e) (f,i,b,d)).isSome,xcL a c e ((Iter (xaF a c e) (f,i,b,d)).getD (0,0,[],[])))
theorem xhs:LoopOk Tryz.prog (ITryz.at xeu.pin) xeu.nt (loopAt Tryz.f47 3) xfO:=xb2 fun h j l k=>by
 obtain ⟨a,⟨b,⟨f,⟨i,⟨d,_⟩⟩⟩⟩⟩:=h
 obtain ⟨c,⟨e,_⟩⟩:=j
 obtain ⟨g,rfl⟩:=Prod.mk.inj k
 exact xau mxTryz (inv0Ok Tryz.prog _) rfl xnk xkb (xdj a b d) (xcL a b d) (fun p=>by simp only [xcL,LR.eval];first|(simp;done)|(repeat' split<;>simp)) (xoB a b d) (s:=(f,i,c,e)) (xaa g)
def xev:Env:=E1.fn 106 0 (lsOf []) (lpsOf [(3,xdW),(11,xex),(17,xfO)])
theorem xnl:OrcOk Tryz.prog (ITryz.at 0) xev:=xkh.fn
theorem xkc:LoOk Tryz.prog (ITryz.at xev.pin) xev (loopAt Tryz.f47 2):=xaY (ls:=[loopAt Tryz.f47 3]) (by kernel_rfl) (lkC xhs lkN)
def xdD (i:Int) (a:LA):=decide (0+i.toNat<a.length)&&hasSh1 (Sh.int .i64) ((a.getD (0+i.toNat) .top).cells.getD 0 .top)
def xcK (i:Int) (a:LA):=((a.getD (0+i.toNat) .top).cells.getD 0 .top).toInt
def xdE (b d:Nat) (e i:Int) (a c:LA):=Iter (xaF b d (xcK i a)) (e,i,a,c)
def xd5 (b d:Nat) (e i:Int) (a c:LA):=(xdE b d e i a c).getD (0,0,[],[])
def xd3 (b d:Nat) (e i:Int) (a c:LA):=(xd5 b d e i a c).snd
def xd4 (b d:Nat) (e i:Int) (a c:LA):=(xd5 b d e i a c).fst
def xd2 (b d:Nat) (e i:Int) (a c:LA):=(xd3 b d e i a c).snd
def xd1 (b c:Nat) (e i:Int) (a d:LA):=xbj c (xcK i a) (xd4 b c e i a d) (xd2 b c e i a d).snd
def xd0 (b d:Nat) (e i:Int) (a c:LA):=(xd1 b d e i a c).getD (false,(0,[]),0,[])
def xdZ (b d:Nat) (e i:Int) (a c:LA):=(xd0 b d e i a c).fst
def xdx (b d:Nat) (e i:Int) (a c:LA):=(xd0 b d e i a c).snd
def xdX (b d:Nat) (e i:Int) (a c:LA):=(xdx b d e i a c).snd
def xdY (b d:Nat) (e i:Int) (a c:LA):=(xdx b d e i a c).fst
def xdi {T:Type} (b d:Nat) (e i:Int) (a c:LA) (δ:T) (κl:(Nat×Int×Int×LA×LA)→T) (κr:(Nat×LA)→T):T:=br (decide (i<(↑b:Int))) (br (decide (0≤i)&&decide (i<(↑b:Int))) (br (xdD i a) (br (decide (xcK i a<1099511627776)) (br (decide (0≤i)&&decide (i<(↑b:Int))) (br (xdD i a) (br ((xdE b d e i a c).isSome) (br ((xd1 b d e i a c).isSome) (κl (br (xdZ b d e i a c) (xdY b d e i a c).fst (xdX b d e i a c).fst,xd4 b d e i a c,(xd3 b d e i a c).fst,(xd2 b d e i a c).fst,br (xdZ b d e i a c) (xdY b d e i a c).snd (xdX b d e i a c).snd)) δ) δ) δ) δ) (κr (d,c))) δ) δ) (κr (d,c))
def xaR (b:Nat):(Nat×Int×Int×LA×LA)→Option ((Nat×Int×Int×LA×LA)⊕(Nat×LA)):=fun (d,e,i,a,c)=>xdi b d e i a c none (fun s=>some (.inl s)) (fun p=>some (.inr p))
def xdh (b:Nat):(Nat×Int×Int×LA×LA)→LA×List Box:=fun (d,e,i,a,c)=>([AV.osl 0 0 0 b,AV.osl 1 0 0 d,AV.int .i64 e,AV.int .i64 i],[⟨0,2,86,a,false,true⟩,⟨0,2,86,c,false,true⟩])
def xcJ (a:Nat):(Nat×LA)→LR:=fun p=>(.leaf (.exit 4) [AV.osl 0 0 0 p.1] [⟨0,2,86,p.2,false,true⟩])
abbrev xoy (a:LA) (H:List Box):=XR Tryz.prog xev [3,6,7,8] [6] [(3,2,86),(6,2,86)] (loopAt Tryz.f47 2) a H
theorem xoz (a:Nat) (s:Nat×Int×Int×LA×LA):Enc (encR (xdh a) (xcJ a)) (xaR a s) (xoy (xdh a s).1 (xdh a s).2):=by
 obtain ⟨d,e,i,b,c⟩:=s
 refine eV (xdi a d e i b c none (fun s=>some (encR (xdh a) (xcJ a) (.inl s))) (fun p=>some (encR (xdh a) (xcJ a) (.inr p)))) (by kernel_rfl) ?_;unfold xaR xdi;repeat' first|exact eN|exact eS rfl|apply eB
def xir:Lp:=lpOf [3,6,7,8] [6] [(3,2,86),(6,2,86)] (pCons (pOsl 0 0 0) (pCons (pOsl 1 0 0) (pCons (pInt .i64) (pCons (pInt .i64) pNil)))) (pCons (pBox 0 2 86 false true pAny) (pCons (pBox 0 2 86 false true pAny) pNil)) fun (a,(d,(e,(i,_)))) (b,(c,_))=>((Iter (xaR a) (d,e,i,b,c)).isSome,xcJ a ((Iter (xaR a) (d,e,i,b,c)).getD (0,[])))
theorem xmN:LoopOk Tryz.prog (ITryz.at xev.pin) xev.nt (loopAt Tryz.f47 2) xir:=xb2 fun g h k j=>by
 obtain ⟨a,⟨d,⟨e,⟨i,_⟩⟩⟩⟩:=g
 obtain ⟨b,⟨c,_⟩⟩:=h
 obtain ⟨f,rfl⟩:=Prod.mk.inj j
 exact xau mxTryz (inv0Ok Tryz.prog _) rfl xnl xkc (xdh a) (xcJ a) (fun p=>by simp only [xcJ,LR.eval];first|(simp;done)|(repeat' split<;>simp)) (xoz a) (s:=(d,e,i,b,c)) (xaa f)
def xfa:Env:=E1.fn 106 0 (lsOf []) (lpsOf [(3,xdW),(11,xex),(17,xfO),(15,xir)])
theorem xnm:OrcOk Tryz.prog (ITryz.at 0) xfa:=xkh.fn
theorem xlP:LoOk Tryz.prog (ITryz.at xfa.pin) xfa (Tryz.f47.body.getD .skip):=xaY (ls:=[loopAt Tryz.f47 0,loopAt Tryz.f47 1,loopAt Tryz.f47 2,loopAt Tryz.f47 3]) (by kernel_rfl) (lkC xmL (lkC xmM (lkC xmN (lkC xhs lkN))))
def xg9 (l:LA):=(Iter (xaQ l (↑l.length:Int)) (0,0,[])).getD (0,[])
def xeS (l:LA):=(xg9 l).fst
def xfA (l:LA):=(xg9 l).snd
def xg8 (l:LA):=Iter (xbv (xeS l) 0) (0,0,srtS (xfA l),[])
def xg7 (l:LA):=(xg8 l).getD (0,0,[],[])
def xg5 (l:LA):=(xg7 l).fst
def xg6 (l:LA):=(xg7 l).snd
def xg4 (l:LA):=(xg6 l).snd
def xh3 (l:LA):=xbj 0 0 (xg5 l) (xg4 l).snd
def xh2 (l:LA):=(xh3 l).getD (false,(0,[]),0,[])
def xh0 (l:LA):=(xh2 l).snd
def xh1 (l:LA):=(xh2 l).fst
def xhZ (l:LA):=(xh0 l).snd
def xhx (l:LA):=(xh0 l).fst
def xhY (l:LA):=Iter (xaR (xeS l)) (br (xh1 l) (xhx l).fst (xhZ l).fst,xg5 l,(xg6 l).fst,(xg4 l).fst,br (xh1 l) (xhx l).snd (xhZ l).snd)
def xhX (l:LA):=(xhY l).getD (0,[])
def xhV (l:LA):=(xhX l).fst
def xhW (l:LA):=(xhX l).snd
def xgA {T:Type} (l:LA) (δ:T) (κ:LA→T):T:=br ((Iter (xaQ l (↑l.length:Int)) (0,0,[])).isSome) (br ((xeS l).beq (xfA l).length&&(decide (xeS l<4611686018427387904)&&(xfA l).all isS)) (br ((xg8 l).isSome) (br ((xh3 l).isSome) (br ((xhY l).isSome) (br (decide (0+xhV l≤(xhW l).length)&&true) (κ (List.take (xhV l) (List.drop 0 (xhW l)))) δ) δ) δ) δ) δ) δ
def xeR (l:LA):Option (LA):=xgA l none some
theorem xrb (l:LA):Enc (fun (p:LA)=>((AV.list 2 p):AV)) (xeR l) (XF Tryz.prog xfa Tryz.f47 (Tryz.f47.body.getD .skip) [AV.list 3 l]):=by
 refine eV (xgA l none (fun (p:LA)=>some ((AV.list 2 p):AV))) (by kernel_rfl) ?_;unfold xeR xgA;repeat' first|exact eN|exact eS rfl|apply eB
def xmO:LA→Option (Bool×AV):=ocOf (sCons (sList 3 pAny) sNil) fun (l,_)=>((xeR l).isSome,(AV.list 2 ((xeR l).getD [])))
theorem xra:OcOk Tryz.prog ITryz 47 (xmO):=xa3 fun c f e=>by
 obtain ⟨l,_⟩:=c
 obtain ⟨a,b⟩:=Prod.mk.inj e
 refine xal (p:=xfa.pin) (xat mxTryz (inv0Ok Tryz.prog _) rfl xnm Tryz.func47 rfl (by kernel_rfl) xlP ((xrb _ _ (xaa (d:=[]) a)).trans ?_))
 exact congrArg some b
def xlZ:Env:=E1.with 47 xmO
theorem xjp:OrcOk Tryz.prog ITryz xlZ:=xkh.with xra
def xbw:Env:=xlZ.fn 21 0 (lsOf []) (lpsOf [])
theorem xh7:OrcOk Tryz.prog (ITryz.at 0) xbw:=xjp.fn
theorem xgr:LoOk Tryz.prog (ITryz.at xbw.pin) xbw (loopAt Tryz.f18 0):=xah (by kernel_rfl)
def xbF {T:Type} (d:LA) (e:Int) (b:Nat) (a:Int) (c:LA) (δ:T) (κl:(Nat×Int×LA)→T) (κr:(Nat×LA)→T):T:=br (decide (a<e)) (br (decide (0≤a)&&decide (a<d.length)) (br (decide (a.toNat<d.length)&&((d.getD a.toNat .top).cells.length==3&&hasShs [Sh.list 3,Sh.int .i64,Sh.int .i64] (d.getD a.toNat .top).cells 0)) (br (b==c.length&&(decide ((b+1)*24≤140737488355328)&&decide (b+1≤4611686018427387904))) (κl (b+1,i64.wrap (a+1),c++[AV.agg [AV.int .i64 ((d.getD a.toNat .top).cells.getD 1 .top).toInt,AV.int .i64 ((d.getD a.toNat .top).cells.getD 2 .top).toInt,AV.int .i64 1]])) δ) δ) δ) (κr (b,c))
def xan (c:LA) (d:Int):(Nat×Int×LA)→Option ((Nat×Int×LA)⊕(Nat×LA)):=fun (b,e,a)=>xbF c d b e a none (fun s=>some (.inl s)) (fun p=>some (.inr p))
def xbe (c:LA) (d:Int):(Nat×Int×LA)→LA×List Box:=fun (b,e,a)=>([AV.osl 0 0 0 b,AV.list 3 c,AV.int .i64 d,AV.int .i64 e],[⟨0,3,89,a,false,true⟩])
def xaS (a:LA) (b:Int):(Nat×LA)→LR:=fun p=>(.leaf (.exit 0) [AV.osl 0 0 0 p.1] [⟨0,3,89,p.2,false,true⟩])
abbrev xiu (a:LA) (H:List Box):=XR Tryz.prog xbw [3,6,7,8] [3] [(3,3,89)] (loopAt Tryz.f18 0) a H
theorem xiv (a:LA) (b:Int) (s:Nat×Int×LA):Enc (encR (xbe a b) (xaS a b)) (xan a b s) (xiu (xbe a b s).1 (xbe a b s).2):=by
 obtain ⟨d,e,c⟩:=s
 refine eV (xbF a b d e c none (fun s=>some (encR (xbe a b) (xaS a b) (.inl s))) (fun p=>some (encR (xbe a b) (xaS a b) (.inr p)))) (by kernel_rfl) ?_;unfold xan xbF;repeat' first|exact eN|exact eS rfl|apply eB
def xfi:Lp:=lpOf [3,6,7,8] [3] [(3,3,89)] (pCons (pOsl 0 0 0) (pCons (pList 3 pAny) (pCons (pInt .i64) (pCons (pInt .i64) pNil)))) (pCons (pBox 0 3 89 false true pAny) pNil) fun (b,(c,(d,(e,_)))) (a,_)=>((Iter (xan c d) (b,e,a)).isSome,xaS c d ((Iter (xan c d) (b,e,a)).getD (0,[])))
theorem xht:LoopOk Tryz.prog (ITryz.at xbw.pin) xbw.nt (loopAt Tryz.f18 0) xfi:=xb2 fun f g j h=>by
 obtain ⟨d,⟨a,⟨b,⟨i,_⟩⟩⟩⟩:=f
 obtain ⟨c,_⟩:=g
 obtain ⟨e,rfl⟩:=Prod.mk.inj h
 exact xau mxTryz (inv0Ok Tryz.prog _) rfl xh7 xgr (xbe a b) (xaS a b) (fun p=>by simp only [xaS,LR.eval];first|(simp;done)|(repeat' split<;>simp)) (xiv a b) (s:=(d,i,c)) (xaa e)
def xcq:Env:=xlZ.fn 21 0 (lsOf []) (lpsOf [(3,xfi)])
theorem xh8:OrcOk Tryz.prog (ITryz.at 0) xcq:=xjp.fn
theorem xha:LoOk Tryz.prog (ITryz.at xcq.pin) xcq (Tryz.f18.body.getD .skip):=xaY (ls:=[loopAt Tryz.f18 0]) (by kernel_rfl) (lkC xht lkN)
def xeE (l:LA):=(Iter (xan l (↑l.length:Int)) (0,0,[])).getD (0,[])
def xeC (l:LA):=(xeE l).fst
def xeD (l:LA):=(xeE l).snd
def xeB (l:LA):=xeR (List.take (xeC l) (List.drop 0 (xeD l)))
def xdI {T:Type} (l:LA) (δ:T) (κ:LA→T):T:=br ((Iter (xan l (↑l.length:Int)) (0,0,[])).isSome) (br (decide (0+xeC l≤(xeD l).length)&&true) (br ((xeB l).isSome) (κ ((xeB l).getD [])) δ) δ) δ
def xaZ (l:LA):Option (LA):=xdI l none some
theorem xkv (l:LA):Enc (fun (p:LA)=>((AV.list 2 p):AV)) (xaZ l) (XF Tryz.prog xcq Tryz.f18 (Tryz.f18.body.getD .skip) [AV.list 3 l]):=by
 refine eV (xdI l none (fun (p:LA)=>some ((AV.list 2 p):AV))) (by kernel_rfl) ?_;unfold xaZ xdI;repeat' first|exact eN|exact eS rfl|apply eB
def xgk:LA→Option (Bool×AV):=ocOf (sCons (sList 3 pAny) sNil) fun (l,_)=>((xaZ l).isSome,(AV.list 2 ((xaZ l).getD [])))
theorem xku:OcOk Tryz.prog ITryz 18 (xgk):=xa3 fun c f e=>by
 obtain ⟨l,_⟩:=c
 obtain ⟨a,b⟩:=Prod.mk.inj e
 refine xal (p:=xcq.pin) (xat mxTryz (inv0Ok Tryz.prog _) rfl xh8 Tryz.func18 rfl (by kernel_rfl) xha ((xkv _ _ (xaa (d:=[]) a)).trans ?_))
 exact congrArg some b
def xro:Env:=xlZ.with 18 xgk
theorem xrp:OrcOk Tryz.prog ITryz xro:=xjp.with xku
abbrev EKP1:Env:=xro
theorem xsM:OrcOk Tryz.prog ITryz EKP1:=xrp
end Go.Sim.M
end
