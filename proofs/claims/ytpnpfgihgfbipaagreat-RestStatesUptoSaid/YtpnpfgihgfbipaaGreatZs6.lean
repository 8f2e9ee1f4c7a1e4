/-
  Parts: Ty Hd Wk Hf Hg Hh.
-/
import Derived.Test.YtpnpfgihgfbipaaGreatRows
import Derived.WalkKit
import Derived.ProofKit
import Derived.Lib.Walk
import Derived.Lib.SliceRun
import Derived.Lib.JoinLaws
import Derived.Lib.AppendZeros
import Derived.Lib.AppendZerosOnto
import Derived.Lib.Overlaps
import Derived.Laws.Externs
import Derived.Laws.IdiomCopy
import Derived.Laws.AppendOwn
import Derived.Shelf.Spec.SlicesInsertGrow
import Derived.RangeFuncNested
import Derived.RangeFuncBound
import Derived.RangeFuncCalls
import Derived.RangeFuncLeaves
import Derived.RangeFuncBox
import Derived.Shelf.Abstract
import Derived.Shelf.RegionOpen
import Derived.OwnWalkIn
import Derived.TacticsInMore
import Derived.LoopNIn
import Derived.LoopIn
import Derived.Maps.Own
import Derived.StringKeys
import Derived.Maps.OwnOps
import Derived.Maps.Views
import Derived.Shelf.SlicesQ.Load
import Derived.Laws.IdiomStrings
import Derived.Test.YtpnpfgihgfbipaaGreatZs5
set_option linter.unusedVariables false
set_option linter.unusedSimpArgs false
open List renaming getElem?_eq_getElem → zc0,getD_eq_getElem?_getD → zc3,mem_of_getElem? → zc5,getElem?_append_left → zc6,getElem?_take → zc14,all_eq_true → zc17,length_take → zc20,length_cons → zc21,getElem?_eq_none → zc22,length_append → zc24,take_succ_eq_append_getElem → zc26,getElem?_append → zc29,length_nil → zc32,getElem?_drop → zc38,length_drop → zc39,nil_append → zc41,append_assoc → zc45
open Bool renaming and_eq_true → zc4
open Option renaming map_eq_some_iff → zc7,bind_eq_some_iff → zc8
open Prod.mk renaming injEq → zc11
open Array renaming getElem?_toList → zc25,getElem?_eq_some_iff → zc27,getElem?_eq_getElem → zc43
open Nat renaming le_refl → zc46
noncomputable section
namespace Go.Proofs.YtpnpfgihgfbipaaGreat
open Go Go.Ma
def noTi : TI:={ known:=false,kind:=.other,agg:=false,size:=0,zero:=[],fields:=[],elem:=0 }
def ti_1 : TI:=⟨true,.other,false,1,[.nilFunc],[],0,8,false,none,none,[],none,none⟩
def ti_2 : TI:=⟨true,(.int .i64),false,1,[.int .i64 0],[],0,8,false,some .int,none,[],none,none⟩
def ti_3 : TI:=ti_2
def ti_4 : TI:=⟨true,.bool,false,1,[.bool false],[],0,1,false,some .bool,none,[],none,none⟩
def ti_5 : TI:=⟨true,(.int .u8),false,1,[.int .u8 0],[],0,1,false,some .u8,none,[],none,none⟩
def ti_6 : TI:=ti_5
def ti_7 : TI:=⟨true,.struct,true,4,[.int .i64 0,.int .i64 0,.bool false,.int .u8 0],[(0,2),(1,3),(2,4),(3,6)],0,24,false,none,none,[],none,none⟩
def ti_8 : TI:=ti_7
def ti_9 : TI:=⟨true,.str,false,1,[.string .empty],[],0,16,false,some .str,none,[],none,none⟩
def ti_10 : TI:=ti_9
def ti_11 : TI:=ti_9
def ti_12 : TI:=⟨true,(.int .u64),false,1,[.int .u64 0],[],0,8,false,some .u64,none,[],none,none⟩
def ti_13 : TI:=⟨true,.struct,true,2,[.string .empty,.int .u64 0],[(0,9),(1,12)],0,24,false,none,none,[],none,none⟩
def ti_14 : TI:=ti_13
def ti_15 : TI:=⟨true,.other,false,1,[.pointer none],[],0,8,false,none,none,[],none,none⟩
def ti_16 : TI:=ti_15
def ti_17 : TI:=ti_15
def ti_18 : TI:=⟨true,.struct,true,1,[.pointer none],[(0,17)],0,8,false,none,none,[],none,none⟩
def ti_19 : TI:=ti_18
def ti_20 : TI:=⟨true,.other,false,1,[.nilIface],[],0,16,false,none,none,[],none,none⟩
def ti_21 : TI:=⟨true,(.int .i32),false,1,[.int .i32 0],[],0,4,false,none,none,[],none,none⟩
def ti_22 : TI:=⟨true,.slice,false,1,[.slice none 0 0],[],35,24,false,none,none,[(0,.inr (.pfx,.addr,28),35)],none,none⟩
def ti_23 : TI:=⟨true,.slice,false,1,[.slice none 0 0],[],52,24,false,none,none,[(0,.inl .lease,52)],none,none⟩
def ti_24 : TI:=⟨true,.struct,true,3,[.slice none 0 0,.slice none 0 0,.int .i64 0],[(0,22),(1,23),(2,3)],0,56,false,none,none,[(0,.inr (.pfx,.addr,28),35),(1,.inl .lease,52)],none,none⟩
def ti_25 : TI:=ti_24
def ti_26 : TI:=ti_12
def ti_27 : TI:=⟨true,.struct,true,3,[.bool false,.int .u64 0,.int .u64 0],[(0,4),(1,26),(2,26)],0,24,false,none,none,[],none,none⟩
def ti_28 : TI:=⟨true,.struct,true,3,[.bool false,.int .u64 0,.int .u64 0],[(0,4),(1,26),(2,26)],0,24,true,some .addr,none,[],none,none⟩
def ti_29 : TI:=⟨true,.struct,true,4,[.bool false,.int .u64 0,.int .u64 0,.int .i64 0],[(0,28),(3,3)],0,32,false,none,none,[],none,none⟩
def ti_30 : TI:=⟨true,.struct,true,4,[.bool false,.int .u64 0,.int .u64 0,.int .i64 0],[(0,28),(3,3)],0,32,true,some .pfx,none,[],none,none⟩
def ti_31 : TI:=⟨true,.struct,true,11,[.int .i64 0,.bool false,.int .u64 0,.int .u64 0,.int .i64 0,.bool false,.int .u64 0,.int .u64 0,.string .empty,.int .i64 0,.int .i64 0],[(0,3),(1,30),(5,28),(8,9),(9,3),(10,3)],0,96,false,none,none,[],none,none⟩
def ti_32 : TI:=⟨true,.struct,true,11,[.int .i64 0,.bool false,.int .u64 0,.int .u64 0,.int .i64 0,.bool false,.int .u64 0,.int .u64 0,.string .empty,.int .i64 0,.int .i64 0],[(0,3),(1,30),(5,28),(8,9),(9,3),(10,3)],0,96,true,some .op,none,[],none,none⟩
def ti_33 : TI:=⟨true,.slice,false,1,[.slice none 0 0],[],28,24,false,none,none,[(0,.inl .addr,28)],none,none⟩
def ti_34 : TI:=⟨true,.struct,true,5,[.bool false,.int .u64 0,.int .u64 0,.int .i64 0,.slice none 0 0],[(0,30),(4,33)],0,56,false,none,some (.pfx,.addr,28),[(4,.inl .addr,28)],none,none⟩
def ti_35 : TI:=ti_34
def ti_36 : TI:=ti_1
def ti_37 : TI:=ti_1
def ti_38 : TI:=ti_2
def ti_39 : TI:=ti_1
def ti_41 : TI:=ti_1
def ti_42 : TI:=ti_1
def ti_44 : TI:=ti_1
def ti_46 : TI:=ti_1
def ti_47 : TI:=ti_1
def ti_48 : TI:=ti_1
def ti_49 : TI:=ti_1
def ti_50 : TI:=ti_1
def ti_51 : TI:=⟨true,.struct,true,5,[.bool false,.int .u64 0,.int .u64 0,.string .empty,.int .i64 0],[(0,28),(3,9),(4,3)],0,48,false,none,none,[],none,none⟩
def ti_52 : TI:=⟨true,.struct,true,5,[.bool false,.int .u64 0,.int .u64 0,.string .empty,.int .i64 0],[(0,28),(3,9),(4,3)],0,48,true,some .lease,none,[],none,none⟩
def ti_53 : TI:=ti_1
def ti_54 : TI:=ti_1
def ti_55 : TI:=⟨true,.slice,false,1,[.slice none 0 0],[],32,24,false,none,none,[(0,.inl .op,32)],none,none⟩
def ti_56 : TI:=ti_1
def ti_64 : TI:=ti_1
def ti_66 : TI:=ti_1
def ti_69 : TI:=ti_1
def ti_74 : TI:=ti_1
def ti_77 : TI:=ti_1
def ti_81 : TI:=ti_1
def ti_85 : TI:=ti_15
def ti_87 : TI:=⟨true,.struct,true,3,[.slice none 0 0,.slice none 0 0,.int .i64 0],[(0,25)],0,56,false,none,none,[(0,.inr (.pfx,.addr,28),35),(1,.inl .lease,52)],none,none⟩
def ti_90 : TI:=ti_15
def ti_92 : TI:=⟨true,.struct,true,6,[.bool false,.int .u64 0,.int .u64 0,.int .i64 0,.slice none 0 0,.slice none 0 0],[(0,35),(5,23)],0,80,false,none,none,[(4,.inl .addr,28),(5,.inl .lease,52)],none,none⟩
def ti_94 : TI:=ti_1
def ti_98 : TI:=ti_1
def ti_104 : TI:=ti_1
def ti_105 : TI:=⟨true,.other,false,1,[.map none],[],0,8,false,none,none,[],none,none⟩
def ti_110 : TI:=⟨true,.slice,false,1,[.slice none 0 0],[],5,24,false,none,none,[(0,.inl .u8,5)],none,none⟩
def ti_116 : TI:=ti_1
def ti_117 : TI:=ti_1
def ti_118 : TI:=ti_12
def ti_122 : TI:=ti_1
def ti_139 : TI:=ti_2
def ti_146 : TI:=⟨true,(.int .u32),false,1,[.int .u32 0],[],0,4,false,none,none,[],none,none⟩
def ti_150 : TI:=ti_12
def ti_154 : TI:=ti_15
def ti_156 : TI:=ti_15
def ty (t : Nat) : TI:=bif Nat.blt t 176 then (bif Nat.blt t 88 then (bif Nat.blt t 44 then (bif Nat.blt t 22 then (bif Nat.blt t 11 then (bif Nat.blt t 5 then (bif Nat.blt t 2 then (bif Nat.blt t 1 then noTi else ti_1) else (bif Nat.blt t 3 then ti_2 else (bif Nat.blt t 4 then ti_3 else ti_4))) else (bif Nat.blt t 8 then (bif Nat.blt t 6 then ti_5 else (bif Nat.blt t 7 then ti_6 else ti_7)) else (bif Nat.blt t 9 then ti_8 else (bif Nat.blt t 10 then ti_9 else ti_10)))) else (bif Nat.blt t 16 then (bif Nat.blt t 13 then (bif Nat.blt t 12 then ti_11 else ti_12) else (bif Nat.blt t 14 then ti_13 else (bif Nat.blt t 15 then ti_14 else ti_15))) else (bif Nat.blt t 19 then (bif Nat.blt t 17 then ti_16 else (bif Nat.blt t 18 then ti_17 else ti_18)) else (bif Nat.blt t 20 then ti_19 else (bif Nat.blt t 21 then ti_20 else ti_21))))) else (bif Nat.blt t 33 then (bif Nat.blt t 27 then (bif Nat.blt t 24 then (bif Nat.blt t 23 then ti_22 else ti_23) else (bif Nat.blt t 25 then ti_24 else (bif Nat.blt t 26 then ti_25 else ti_26))) else (bif Nat.blt t 30 then (bif Nat.blt t 28 then ti_27 else (bif Nat.blt t 29 then ti_28 else ti_29)) else (bif Nat.blt t 31 then ti_30 else (bif Nat.blt t 32 then ti_31 else ti_32)))) else (bif Nat.blt t 38 then (bif Nat.blt t 35 then (bif Nat.blt t 34 then ti_33 else ti_34) else (bif Nat.blt t 36 then ti_35 else (bif Nat.blt t 37 then ti_36 else ti_37))) else (bif Nat.blt t 41 then (bif Nat.blt t 39 then ti_38 else (bif Nat.blt t 40 then ti_39 else noTi)) else (bif Nat.blt t 42 then ti_41 else (bif Nat.blt t 43 then ti_42 else noTi)))))) else (bif Nat.blt t 66 then (bif Nat.blt t 55 then (bif Nat.blt t 49 then (bif Nat.blt t 46 then (bif Nat.blt t 45 then ti_44 else noTi) else (bif Nat.blt t 47 then ti_46 else (bif Nat.blt t 48 then ti_47 else ti_48))) else (bif Nat.blt t 52 then (bif Nat.blt t 50 then ti_49 else (bif Nat.blt t 51 then ti_50 else ti_51)) else (bif Nat.blt t 53 then ti_52 else (bif Nat.blt t 54 then ti_53 else ti_54)))) else (bif Nat.blt t 60 then (bif Nat.blt t 57 then (bif Nat.blt t 56 then ti_55 else ti_56) else noTi) else (bif Nat.blt t 63 then noTi else (bif Nat.blt t 64 then noTi else (bif Nat.blt t 65 then ti_64 else noTi))))) else (bif Nat.blt t 77 then (bif Nat.blt t 71 then (bif Nat.blt t 68 then (bif Nat.blt t 67 then ti_66 else noTi) else (bif Nat.blt t 69 then noTi else (bif Nat.blt t 70 then ti_69 else noTi))) else (bif Nat.blt t 74 then noTi else (bif Nat.blt t 75 then ti_74 else noTi))) else (bif Nat.blt t 82 then (bif Nat.blt t 79 then (bif Nat.blt t 78 then ti_77 else noTi) else (bif Nat.blt t 80 then noTi else (bif Nat.blt t 81 then noTi else ti_81))) else (bif Nat.blt t 85 then noTi else (bif Nat.blt t 86 then ti_85 else (bif Nat.blt t 87 then noTi else ti_87))))))) else (bif Nat.blt t 132 then (bif Nat.blt t 110 then (bif Nat.blt t 99 then (bif Nat.blt t 93 then (bif Nat.blt t 90 then noTi else (bif Nat.blt t 91 then ti_90 else (bif Nat.blt t 92 then noTi else ti_92))) else (bif Nat.blt t 96 then (bif Nat.blt t 94 then noTi else (bif Nat.blt t 95 then ti_94 else noTi)) else (bif Nat.blt t 97 then noTi else (bif Nat.blt t 98 then noTi else ti_98)))) else (bif Nat.blt t 104 then noTi else (bif Nat.blt t 107 then (bif Nat.blt t 105 then ti_104 else (bif Nat.blt t 106 then ti_105 else noTi)) else noTi))) else (bif Nat.blt t 121 then (bif Nat.blt t 115 then (bif Nat.blt t 112 then (bif Nat.blt t 111 then ti_110 else noTi) else noTi) else (bif Nat.blt t 118 then (bif Nat.blt t 116 then noTi else (bif Nat.blt t 117 then ti_116 else ti_117)) else (bif Nat.blt t 119 then ti_118 else noTi))) else (bif Nat.blt t 126 then (bif Nat.blt t 123 then (bif Nat.blt t 122 then noTi else ti_122) else noTi) else noTi))) else (bif Nat.blt t 154 then (bif Nat.blt t 143 then (bif Nat.blt t 137 then noTi else (bif Nat.blt t 140 then (bif Nat.blt t 138 then noTi else (bif Nat.blt t 139 then noTi else ti_139)) else noTi)) else (bif Nat.blt t 148 then (bif Nat.blt t 145 then noTi else (bif Nat.blt t 146 then noTi else (bif Nat.blt t 147 then ti_146 else noTi))) else (bif Nat.blt t 151 then (bif Nat.blt t 149 then noTi else (bif Nat.blt t 150 then noTi else ti_150)) else noTi))) else (bif Nat.blt t 165 then (bif Nat.blt t 159 then (bif Nat.blt t 156 then (bif Nat.blt t 155 then ti_154 else noTi) else (bif Nat.blt t 157 then ti_156 else noTi)) else noTi) else noTi)))) else noTi
theorem zq1708 (t : Nat) (h : 176 ≤ t) : ty t = noTi:=by
 have e : Nat.blt t 176 = false:=by
  cases hb : Nat.blt t 176
  ·rfl
  ·have:=Nat.le_of_ble_eq_true hb
   omega
 unfold ty
 rw [e]
 rfl
def zq1707 : List Nat:=[1,2,3,4,5,6,7,8,9,10,11,12,13,14,15,16,17,18,19,20,21,22,23,24,25,26,27,28,29,30,31,32,33,34,35,36,37,38,39,41,42,44,46,47,48,49,50,51,52,53,54,55,56,64,66,69,74,77,81,85,87,90,92,94,98,104,105,110,116,117,118,122,139,146,150,154,156]
theorem zq1710 : zq1707.map (fun t => ({ ty t with eq:=false,k:=none,nk:=none,sl:=[],gl:=none,arr:=none } : TI)) = zq1707.map (tiOf Tryz.prog):=by kernel_rfl
theorem ty_in : (List.range 176).all (fun t => !(ty t).known || zq1707.contains t) = true:=by kernel_rfl
theorem zq1709 (t : Nat) (h : (ty t).known = true) : zq261 Tryz.prog t (ty t):=by
 refine zq1706 h ?_
 have hlt : t < 176:=by
  rcases Nat.lt_or_ge t 176 with h' | h'
  ·exact h'
  ·have : (ty t) = noTi:=zq1708 t h'
   rw [this] at h
   cases h
 have h1:=zc17.1 ty_in t (List.mem_range.2 hlt)
 rw [h] at h1
 have hmem : t ∈ zq1707:=by simpa using h1
 have:=List.map_inj_left.1 zq1710 t hmem
 exact this
theorem eq_28 : zq260 Tryz.prog 28 (ty 28).zero:=zq1675 zq1709 28 (ty 28).zero (by kernel_rfl) (by kernel_rfl) (by kernel_rfl)
theorem eq_30 : zq260 Tryz.prog 30 (ty 30).zero:=zq1675 zq1709 30 (ty 30).zero (by kernel_rfl) (by kernel_rfl) (by kernel_rfl)
theorem eq_32 : zq260 Tryz.prog 32 (ty 32).zero:=zq1675 zq1709 32 (ty 32).zero (by kernel_rfl) (by kernel_rfl) (by kernel_rfl)
theorem eq_52 : zq260 Tryz.prog 52 (ty 52).zero:=zq1675 zq1709 52 (ty 52).zero (by kernel_rfl) (by kernel_rfl) (by kernel_rfl)
def tyEqs : List Nat:=[28,30,32,52]
theorem eq_in : (List.range 176).all (fun t => !(ty t).eq || tyEqs.contains t) = true:=by kernel_rfl
theorem ty_eq (t : Nat) (h : (ty t).eq = true) : zq260 Tryz.prog t (ty t).zero:=by
 have hlt : t < 176:=by
  rcases Nat.lt_or_ge t 176 with h' | h'
  ·exact h'
  ·rw [zq1708 t h'] at h
   cases h
 have h1:=zc17.1 eq_in t (List.mem_range.2 hlt)
 rw [h] at h1
 have hmem : t ∈ tyEqs:=by simpa using h1
 simp only [tyEqs,List.mem_cons,List.not_mem_nil,or_false] at hmem
 rcases hmem with rfl | rfl | rfl | rfl
 ·exact eq_28
 ·exact eq_30
 ·exact eq_32
 ·exact eq_52
def tyGls : List Nat:=[]
theorem gl_in : (List.range 176).all (fun t => !(ty t).gl.isSome || tyGls.contains t) = true:=by kernel_rfl
theorem ty_gl (t g : Nat) (h : (ty t).gl = some g) : Tryz.prog.globalNamed "yardarm/text.words" = some g ∧ ((ty t).agg = true → Tryz.prog.underlying t = some (.array 6 (ty t).elem)) := by
 have hlt : t < 176:=by
  rcases Nat.lt_or_ge t 176 with h' | h'
  ·exact h'
  ·rw [zq1708 t h'] at h
   cases h
 have h1:=zc17.1 gl_in t (List.mem_range.2 hlt)
 rw [h] at h1
 have hmem : t ∈ tyGls:=by simpa using h1
 simp [tyGls] at hmem
def zq1705 : List Nat:=[]
theorem arr_in : (List.range 176).all (fun t => !(ty t).arr.isSome || zq1705.contains t) = true:=by kernel_rfl
theorem ty_arr (t k : Nat) (h : (ty t).arr = some k) : Tryz.prog.underlying t = some (.array k (ty t).elem):=by
 have hlt : t < 176:=by
  rcases Nat.lt_or_ge t 176 with h' | h'
  ·exact h'
  ·rw [zq1708 t h'] at h
   cases h
 have h1:=zc17.1 arr_in t (List.mem_range.2 hlt)
 rw [h] at h1
 have hmem : t ∈ zq1705:=by simpa using h1
 simp [zq1705] at hmem
theorem tyOk : TOk Tryz.prog ty:=⟨zq1709,ty_eq,by kernel_rfl,ty_gl,ty_arr⟩
def fnExt : List Nat:=[0,1,92,112,114,141,142,143,144,145,146,147,148,149,150,151,152,153,154,155,156]
def fnB (f : Nat) : Bool:=decide (f < 157) && !fnExt.contains f
theorem fn_all : (List.range 157).all (fun f => !fnB f || (match Tryz.prog.funcs[f]? with | some fn => fn.body.isSome && !(fn.name == "runtime.NumGoroutine") | none => false)) = true := by kernel_rfl
theorem fn_ok (f : Nat) (h : fnB f = true) : zq5 Tryz.prog f:=by
 have hlt : f < 157:=by
  unfold fnB at h
  simp only [zc4,decide_eq_true_eq] at h
  exact h.1
 have h1:=zc17.1 fn_all f (List.mem_range.2 hlt)
 rw [h] at h1
 simp only [Bool.not_true,Bool.false_or] at h1
 unfold zq5
 cases hf : Tryz.prog.funcs[f]? with
 | none => rw [hf] at h1;cases h1
 | some fn =>
  rw [hf] at h1
  simp only [zc4,Bool.not_eq_true'] at h1
  exact ⟨fn,rfl,h1.1,h1.2⟩
end Go.Proofs.YtpnpfgihgfbipaaGreat
namespace Go.Proofs.YtpnpfgihgfbipaaGreat
open Go Go.Ma Go.RowKit Go.Lib Go.Proofs
theorem zq1443 {P : Program} (w : World) (dT sT ty elem : TypeId) (s : Nat) (b o dLen dCap : Nat) (a : Addr) (sLen sCap q : Nat) (cs : List Value)
  (hu : P.underlying dT = some (.slice elem)) (hs : (P.info? elem).map (·.size) = some s) (hq : q = Nat.min sLen dLen) (hn : cs.length = q * s)
  (hsrc : ∀ j v,cs[j]? = some v → w.cell? (a.add j) = some v) (hc : ∀ j,j < cs.length → (w.cell? ⟨b,o + j,none⟩).isSome = true) (hf : ∀ j,j < cs.length → w.frozen? ⟨b,o + j,none⟩ = false) (h1 : ∀ v ∈ cs,v.oneCell' = true) :
  (Builtin.copy_ #[dT,sT] ty #[.slice (some ⟨b,o,none⟩) dLen dCap,.slice (some a) sLen sCap]).run P w = .ok (goInt q) (w.setCells b o cs):=by
 have hl:=run_loadCells_list (P:=P) w a cs hsrc
 have hst:=run_storeCells_cells (P:=P) b o cs 0 w (by simpa using hc) (by simpa using hf) h1
 cases hq' : P.info? elem with
 | none => simp [hq'] at hs
 | some i =>
  have hi : i.size = s:=by simpa [hq'] using hs
  rw [hn] at hl
  subst hi
  simp [Builtin.copy_,run_underlying hu,Builtin.lenOf,Builtin.firstCells,sizeOf,typeInfo,hq',← hq,hl,hst]
theorem zq706 : (Tryz.prog.info? 52).map (fun i => (i.zero.map (·.cells.size),i.size,i.bytes)) = some (some 5,5,48):=by kernel_rfl
theorem zq1478 (w : World) : (Go.sizeOf 52).run Tryz.prog w = .ok 5 w:=by kernel_rfl
theorem zq1060 : Tryz.prog.follows .mixedOrders = true:=by kernel_rfl
set_option maxHeartbeats 4000000 in
set_option maxRecDepth 100000 in
theorem zq744 (b off n c i vb voff m vc : Nat) (cs vs : List Value) (w : World) (hi : i < n) (hm : 0 < m) (hroom : n + m ≤ c) (hc63 : c ≤ 9223372036854775807) (hvb : vb ≠ b)
  (hcl : cs.length = n * 5) (hvl : vs.length = m * 5)
  (hcs : ∀ j v,cs[j]? = some v → w.cell? ⟨b,off + j,none⟩ = some v) (hsp : ∀ j,j < (n + m) * 5 → (w.cell? ⟨b,off + j,none⟩).isSome = true) (hfz : ∀ j,j < (n + m) * 5 → w.frozen? ⟨b,off + j,none⟩ = false)
  (hvs : ∀ j v,vs[j]? = some v → w.cell? ⟨vb,voff + j,none⟩ = some v) (h1c : ∀ v ∈ cs,v.oneCell' = true) (h1v : ∀ v ∈ vs,v.oneCell' = true)
  (tA tB : TypeId) (kA kB : Nat) (hsa : w.shape? vb = some (tA,kA)) (hsb : w.shape? b = some (tB,kB)) (hkB : kB ≠ 0) (hfa : w.frozen? ⟨vb,voff,none⟩ = false) (hfe : w.frozen? ⟨vb,kA,none⟩ = false) :
  Calls Tryz.prog 70 #[.slice (some ⟨b,off,none⟩) n c,.int .i64 i,.slice (some ⟨vb,voff,none⟩) m vc] w fun e w' =>
   e = .returned (.slice (some ⟨b,off,none⟩) (n + m) c) ∧ w' = (w.drew.setCells b (off + (i + m) * 5) (cs.drop (i * 5))).setCells b (off + i * 5) vs:=by
 have u30:=run_underlying Tryz.underlying23
 have z49:=zq1478
 have hz1 : ¬ ((m : Int) = 0):=by omega
 have hz2 : ¬ ((i : Int) = (n : Int)):=by omega
 have hsz : (Tryz.prog.info? 52).map (·.size) = some 5:=by
  obtain ⟨i0,hi0,hz⟩:=zc7.1 zq706
  simp only [zc11] at hz
  rw [hi0];simp [hz.2.1]
 have hov : ∀ lb cb,(callFunc 92 #[.slice (some ⟨vb,voff,none⟩) m vc,.slice (some ⟨b,off + (i + m) * 5,none⟩) lb cb]).run Tryz.prog w = .ok (.value (.bool false)) w:=fun lb cb => by
  rw [run_callFunc_extern Tryz.func92 (by kernel_rfl) (by kernel_rfl) (by kernel_rfl) (e:=Extern.SlicesOverlaps.overlaps #[23,23] #[4]) (by kernel_rfl),
   Lib.run_overlaps_apart w 23 4 52 Tryz.underlying23 5 zq1478 ⟨vb,voff,none⟩ ⟨b,off + (i + m) * 5,none⟩ m vc lb cb hvb tA tB kA kB hsa hsb hkB hfa hfe]
  rfl
 have hdl : (cs.drop (i * 5)).length = (n - i) * 5:=by rw [zc39,hcl];omega
 have mixed:=zq1060
 have hw1 : IntKind.i64.wrap ((i : Int) + (m : Int)) = (i : Int) + (m : Int):=by rw [IntKind.wrap_i64];omega
 have hb1 : (0 : Int) ≤ (i : Int) + (m : Int):=by omega
 have hin : i ≤ n:=by omega
 have htn : ((i : Int) + (m : Int)).toNat = i + m:=by omega
 have hb2 : ¬ (c = i + m):=by omega
 have hb3 : (i : Int) ≤ (n : Int) + (m : Int):=by omega
 have hb4 : ¬ (c = i):=by omega
 have hcp1 : ∀ ty dc sc,(Builtin.copy_ #[23,23] ty #[.slice (some ⟨b,off + (i + m) * 5,none⟩) (n + m - (i + m)) dc,.slice (some ⟨b,off + i * 5,none⟩) (n + m - i) sc]).run Tryz.prog w.drew = .ok (goInt ((n - i : Nat) : Int)) (w.drew.setCells b (off + (i + m) * 5) (cs.drop (i * 5))):=fun ty dc sc =>
  zq1443 w.drew _ _ ty 52 5 b (off + (i + m) * 5) (n + m - (i + m)) dc ⟨b,off + i * 5,none⟩ (n + m - i) sc (n - i) (cs.drop (i * 5)) Tryz.underlying23 hsz (by simp only [Nat.min_def];split <;> omega) hdl
   (fun j v hj => by rw [Addr.add_lit,Nat.add_assoc];exact hcs (i * 5 + j) v (by rwa [zc38] at hj))
   (fun j hj => by rw [Nat.add_assoc];exact hsp _ (by omega)) (fun j hj => by rw [Nat.add_assoc];exact hfz _ (by omega)) (fun v hv => h1c v (List.mem_of_mem_drop hv))
 obtain ⟨W1,hW1⟩ : ∃ W1,W1 = w.drew.setCells b (off + (i + m) * 5) (cs.drop (i * 5)):=⟨_,rfl⟩
 have hsp1 : ∀ k,k < (n + m) * 5 → (W1.cell? ⟨b,off + k,none⟩).isSome = true:=fun k hk => by
  rw [hW1]
  exact isSome_setCells b _ _ _ (fun j hj => by rw [Nat.add_assoc];exact hsp _ (by omega)) _ (hsp k hk)
 have hcp2 : ∀ (W : World),(∀ x,W.cell? x = W1.cell? x) → (∀ x,W.frozen? x = W1.frozen? x) → ∀ ty dc,(Builtin.copy_ #[23,23] ty #[.slice (some ⟨b,off + i * 5,none⟩) (n + m - i) dc,.slice (some ⟨vb,voff,none⟩) m vc]).run Tryz.prog W = .ok (goInt m) (W.setCells b (off + i * 5) vs):=fun W hWc hWf ty dc =>
  zq1443 W _ _ ty 52 5 b (off + i * 5) (n + m - i) dc ⟨vb,voff,none⟩ m vc m vs Tryz.underlying23 hsz (by simp only [Nat.min_def];split <;> omega) hvl
   (fun j v hj => by
    rw [Addr.add_lit,hWc,hW1,World.cell?_setCells_out b _ _ _ _ (fun h _ => absurd h hvb)]
    exact hvs j v hj)
   (fun j hj => by rw [hWc,Nat.add_assoc];exact hsp1 _ (by omega)) (fun j hj => by rw [hWf,hW1,World.frozen?_setCells,Nat.add_assoc];exact hfz _ (by omega)) h1v
 rw [← hW1] at hcp1
 go_enter Tryz.func70,Tryz.ntmps70
 go_wp2_with (simp only [hov])
 go_region_law_o (refine step_copy_runI rfl _ _ 23 23 rfl _ _ (by simp [Act.eval,Act.put]) (by simp [Act.eval,Act.put]) (hcp1 _ _ _) ?_)
 go_wp2_with (at_builtin;refine wpList_copy_runI _ rfl _ _ 23 23 rfl _ _ rfl rfl (hcp2 _ (fun _ => rfl) (fun _ => rfl) _ _) ?_)
 go_ret
 first | exact ⟨rfl,rfl⟩ | exact ⟨rfl,by rw [hW1]⟩
set_option maxHeartbeats 4000000 in
set_option maxRecDepth 100000 in
theorem zq740 (b off n c i vb voff m vc : Nat) (cs vs : List Value) (z : Value) (hz0 : (Tryz.prog.info? 52).map (·.zero) = some (some z)) (w : World) (hi : i < n) (hm : 0 < m) (hnc : n ≤ c) (hroom : c < n + m) (hbig : (n + m) * 48 ≤ 140737488355328)
  (hcl : cs.length = n * 5) (hvl : vs.length = m * 5)
  (hcs : ∀ j v,cs[j]? = some v → w.cell? ⟨b,off + j,none⟩ = some v)
  (hvs : ∀ j v,vs[j]? = some v → w.cell? ⟨vb,voff + j,none⟩ = some v) (h1c : ∀ v ∈ cs,v.oneCell' = true) (h1v : ∀ v ∈ vs,v.oneCell' = true) :
  Calls Tryz.prog 70 #[.slice (some ⟨b,off,none⟩) n c,.int .i64 i,.slice (some ⟨vb,voff,none⟩) m vc] w fun e w' =>
   e = .returned (.slice (some ⟨w.heap.size,0,none⟩) (n + m) (grownCap w (n + m) c 52)) ∧
   w' = (((w.alloc (.cells ((cs.take (i * 5)).toArray ++ Builtin.zeroCells z.cells (n + m - i) ++ Builtin.zeroCells z.cells (grownCap w (n + m) c 52 - (n + m))) 52)).drew.setCells w.heap.size (i * 5) vs).drew).setCells w.heap.size ((i + m) * 5) (cs.drop (i * 5)):=by
 have u30:=run_underlying Tryz.underlying23
 have z49:=zq1478
 have mixed:=zq1060
 obtain ⟨i0,hi0,hz⟩:=zc7.1 zq706
 simp only [zc11] at hz
 obtain ⟨hzc,hzs,hzb⟩:=hz
 have hz0 : i0.zero = some z:=by rw [hi0] at hz0;simpa using hz0
 have hzc : z.cells.size = 5:=by rw [hz0] at hzc;simpa using hzc
 have hz1 : ¬ ((m : Int) = 0):=by omega
 have hz2 : ¬ ((i : Int) = (n : Int)):=by omega
 have hz3 : (c : Int) < (n : Int) + (m : Int):=by omega
 have hsz : (Tryz.prog.info? 52).map (·.size) = some 5:=by rw [hi0];simp [hzs]
 have hbw : b < w.heap.size:=block_lt_of_cell (hcs 0 _ (zc0 (by omega)))
 have hvw : vb < w.heap.size:=block_lt_of_cell (hvs 0 _ (zc0 (by omega)))
 have hkk : (n : Int) + (m : Int) - (i : Int) = ((n + m - i : Nat) : Int):=by omega
 have hik : i + (n + m - i) = n + m:=by omega
 have hold : (Builtin.firstCells i0.size i (.slice (some ⟨b,off,none⟩) i c)).run Tryz.prog w.drew = .ok (cs.take (i * 5)).toArray w.drew:=by
  rw [hzs]
  exact run_firstCells_some w.drew 5 i ⟨b,off,none⟩ i c (cs.take (i * 5)) (by rw [zc20];omega) (fun j v hj => by
   rw [Addr.add_lit]
   rw [zc14] at hj
   split at hj
   ·exact hcs j v hj
   ·cases hj)
 have hrz : ∀ ty,(Builtin.append_ #[23,3] ty #[.slice (some ⟨b,off,none⟩) i c,.int .i64 ((n : Int) + (m : Int) - (i : Int))]).run Tryz.prog w =
   .ok (.slice (some ⟨w.heap.size,0,none⟩) (n + m) (grownCap w (n + m) c 52)) (w.drew.alloc (.cells ((cs.take (i * 5)).toArray ++ Builtin.zeroCells z.cells (n + m - i) ++ Builtin.zeroCells z.cells (grownCap w (n + m) c 52 - (n + m))) 52)):=fun ty => by
  have h:=Lib.run_append_grow_zeros w 23 3 ty 52 i0 z .i64 .i64 Tryz.underlying23 Tryz.underlying3 hi0 hz0 (some ⟨b,off,none⟩) i c (cs.take (i * 5)) hold (n + m - i) (by omega) (by omega) (by omega) (by omega) (by rw [hzb];omega) (by rw [hzb,hik];exact growslice_fits hroom hbig)
  rw [hik] at h
  rw [hkk]
  exact h
 obtain ⟨G,hG⟩ : ∃ G,G = grownCap w (n + m) c 52:=⟨_,rfl⟩
 obtain ⟨ROW,hROW⟩ : ∃ ROW : Array Value,ROW = (cs.take (i * 5)).toArray ++ Builtin.zeroCells z.cells (n + m - i) ++ Builtin.zeroCells z.cells (G - (n + m)):=⟨_,rfl⟩
 rw [← hG] at hrz ⊢
 rw [← hROW] at hrz ⊢
 have hRl : (n + m) * 5 ≤ ROW.size:=by
  rw [hROW]
  simp [Builtin.zeroCells,hzc]
  omega
 obtain ⟨W1,hW1⟩ : ∃ W1,W1 = w.drew.alloc (.cells ROW 52):=⟨_,rfl⟩
 rw [← hW1] at hrz
 have hN : ∀ j,j < (n + m) * 5 → (W1.cell? ⟨w.heap.size,j,none⟩).isSome = true:=fun j hj => by
  rw [hW1,World.cell?_alloc_at (w:=w.drew) ROW _ w.heap.size j rfl,zc43 (by omega)];rfl
 have hNf : ∀ j,W1.frozen? ⟨w.heap.size,j,none⟩ = false:=fun j => by rw [hW1];exact World.frozen?_alloc_at (w:=w.drew) ROW _ w.heap.size j rfl
 have hOb : ∀ j v,w.cell? ⟨b,j,none⟩ = some v → W1.cell? ⟨b,j,none⟩ = some v:=fun j v h => by rw [hW1,World.cell?_alloc_past (w:=w.drew) _ b j hbw];exact h
 have hOv : ∀ j v,w.cell? ⟨vb,j,none⟩ = some v → W1.cell? ⟨vb,j,none⟩ = some v:=fun j v h => by rw [hW1,World.cell?_alloc_past (w:=w.drew) _ vb j hvw];exact h
 have hcpA : ∀ (W : World),(∀ x,W.cell? x = W1.cell? x) → (∀ x,W.frozen? x = W1.frozen? x) → ∀ ty dc,(Builtin.copy_ #[23,23] ty #[.slice (some ⟨w.heap.size,i * 5,none⟩) (n + m - i) dc,.slice (some ⟨vb,voff,none⟩) m vc]).run Tryz.prog W = .ok (goInt (m : Int)) (W.setCells w.heap.size (i * 5) vs):=fun W hWc hWf ty dc =>
  zq1443 W _ _ ty 52 5 w.heap.size (i * 5) (n + m - i) dc ⟨vb,voff,none⟩ m vc m vs Tryz.underlying23 hsz (by simp only [Nat.min_def];split <;> omega) hvl
   (fun j v hj => by rw [Addr.add_lit,hWc];exact hOv _ v (hvs j v hj))
   (fun j hj => by rw [hWc];exact hN _ (by omega)) (fun j hj => by rw [hWf];exact hNf _) h1v
 have hGn : n + m ≤ G:=by rw [hG];exact grownCap_ge w _ _ _
 have hG63 : G ≤ 9223372036854775807:=by
  have:=grownCap_le_maxLen w (n + m) c 52 (by unfold maxLen;omega)
  rw [← hG] at this
  unfold maxLen at this
  omega
 have hGi : ¬ (G = i):=by omega
 have hGim : ¬ (G = i + m):=by omega
 have hci : ¬ (c = i):=by omega
 have hbN : b ≠ w.heap.size:=by omega
 have hdl : (cs.drop (i * 5)).length = (n - i) * 5:=by rw [zc39,hcl];omega
 have hcpB : ∀ (W : World),(∀ x,W.cell? x = (W1.setCells w.heap.size (i * 5) vs).cell? x) → (∀ x,W.frozen? x = (W1.setCells w.heap.size (i * 5) vs).frozen? x) → ∀ ty dc sc,(Builtin.copy_ #[23,23] ty #[.slice (some ⟨w.heap.size,(i + m) * 5,none⟩) (n + m - (i + m)) dc,.slice (some ⟨b,off + i * 5,none⟩) (n - i) sc]).run Tryz.prog W = .ok (goInt ((n - i : Nat) : Int)) (W.setCells w.heap.size ((i + m) * 5) (cs.drop (i * 5))):=fun W hWc hWf ty dc sc =>
  zq1443 W _ _ ty 52 5 w.heap.size ((i + m) * 5) (n + m - (i + m)) dc ⟨b,off + i * 5,none⟩ (n - i) sc (n - i) (cs.drop (i * 5)) Tryz.underlying23 hsz (by simp only [Nat.min_def];split <;> omega) hdl
   (fun j v hj => by
    rw [Addr.add_lit,hWc,World.cell?_setCells_out _ _ _ _ _ (fun h _ => absurd h hbN),Nat.add_assoc]
    exact hOb _ v (hcs (i * 5 + j) v (by rwa [zc38] at hj)))
   (fun j hj => by rw [hWc];exact isSome_setCells _ _ _ _ (fun t ht => hN _ (by omega)) _ (hN _ (by omega)))
   (fun j hj => by rw [hWf,World.frozen?_setCells];exact hNf _) (fun v hv => h1c v (List.mem_of_mem_drop hv))
 subst hW1
 have hE1 : ∀ x,((w.alloc (.cells ROW 52)).drew).cell? x = (w.drew.alloc (.cells ROW 52)).cell? x:=fun x => rfl
 have hE2 : ∀ x,((w.alloc (.cells ROW 52)).drew).frozen? x = (w.drew.alloc (.cells ROW 52)).frozen? x:=fun x => rfl
 have hF1 : ∀ x,(((w.alloc (.cells ROW 52)).drew.setCells w.heap.size (i * 5) vs).drew).cell? x = ((w.drew.alloc (.cells ROW 52)).setCells w.heap.size (i * 5) vs).cell? x:=fun x => rfl
 have hF2 : ∀ x,(((w.alloc (.cells ROW 52)).drew.setCells w.heap.size (i * 5) vs).drew).frozen? x = ((w.drew.alloc (.cells ROW 52)).setCells w.heap.size (i * 5) vs).frozen? x:=fun x => rfl
 have hw1 : IntKind.i64.wrap ((i : Int) + (m : Int)) = (i : Int) + (m : Int):=by rw [IntKind.wrap_i64];omega
 have hb1 : (0 : Int) ≤ (i : Int) + (m : Int):=by omega
 have hin : i ≤ n:=by omega
 have htn : ((i : Int) + (m : Int)).toNat = i + m:=by omega
 have hb3 : (i : Int) ≤ (n : Int):=by omega
 clear hkk hik hold hROW hG hRl
 go_enter Tryz.func70,Tryz.ntmps70
 go_wp2_with (first
  | (at_builtin;refine Lib.wpList_append_run _ rfl _ _ _ _ rfl _ _ rfl rfl _ _ (hrz _) ?_)
  | (at_builtin;refine wpList_copy_runI _ rfl _ _ 23 23 rfl _ _ rfl rfl (hcpA _ hE1 hE2 _ _) ?_)
  | (at_builtin;refine wpList_copy_runI _ rfl _ _ 23 23 rfl _ _ rfl rfl (hcpB _ (fun _ => rfl) (fun _ => rfl) _ _ _) ?_))
 go_region_law_o (refine step_copy_runI rfl _ _ 23 23 rfl (.slice (some ⟨w.heap.size,(i + m) * 5,none⟩) (n + m - (i + m)) (G - (i + m))) (.slice (some ⟨b,off + i * 5,none⟩) (n - i) (c - i)) (by simp [Act.eval,Act.put]) (by simp [Act.eval,Act.put]) (hcpB _ hF1 hF2 3 (G - (i + m)) (c - i)) ?_)
 go_wp2
 go_ret
 exact ⟨rfl,rfl⟩
set_option maxHeartbeats 4000000 in
set_option maxRecDepth 100000 in
theorem zq738 (v : Value) (base : Option Addr) (n c : Nat) (vb vc m : Nat) (v' : Value) (w w' : World) (hm : 0 < m) (hnc : n ≤ c)
  (hrun : ∀ ty,(Builtin.append_ #[23,23] ty #[.slice base n c,.slice (some ⟨vb,0,none⟩) m vc]).run Tryz.prog w = .ok v' w') (hsl : ∃ A N C,v' = .slice A N C) (hnil : base = none → n = 0) :
  Calls Tryz.prog 70 #[.slice base n c,.int .i64 n,.slice (some ⟨vb,0,none⟩) m vc] w fun e w2 => e = .returned v' ∧ w2 = w':=by
 have u30:=run_underlying Tryz.underlying23
 have z49:=zq1478
 have mixed:=zq1060
 have hz1 : ¬ ((m : Int) = 0):=by omega
 obtain ⟨A,N,C,rfl⟩:=hsl
 go_enter Tryz.func70,Tryz.ntmps70
 cases base with
 | none =>
  have h0:=hnil rfl
  subst h0
  go_wp2_with (at_builtin;refine Lib.wpList_append_run _ rfl _ _ _ _ rfl _ _ rfl rfl _ _ (hrun _) ?_)
  all_goals (go_ret;exact ⟨rfl,rfl⟩)
 | some a =>
  obtain ⟨ab,ao,asp⟩:=a
  go_wp2_with (at_builtin;refine Lib.wpList_append_run _ rfl _ _ _ _ rfl _ _ rfl rfl _ _ (hrun _) ?_)
  all_goals (go_ret;exact ⟨rfl,rfl⟩)
theorem zq736 {arr : Array Value} {n i : Nat} {cs xs : List Value} (hi : i < n) (hcl : cs.length = n * 5) (hxl : xs.length = 5) (hsz : (n + 1) * 5 ≤ arr.size) (h0 : ∀ q,q < i * 5 → arr[q]? = cs[q]?) :
  (zq1454 (zq1454 arr ((i + 1) * 5) (cs.drop (i * 5))) (i * 5) xs).toList.take ((n + 1) * 5) = cs.take (i * 5) ++ xs ++ cs.drop (i * 5) ∧
  (zq1454 (zq1454 arr (i * 5) xs) ((i + 1) * 5) (cs.drop (i * 5))).toList.take ((n + 1) * 5) = cs.take (i * 5) ++ xs ++ cs.drop (i * 5):=by
 have hdl : (cs.drop (i * 5)).length = (n - i) * 5:=by rw [zc39,hcl];omega
 have hrhs : ∀ q : Nat,(cs.take (i * 5) ++ xs ++ cs.drop (i * 5))[q]? = if q < i * 5 then cs[q]? else if q < (i + 1) * 5 then xs[q - i * 5]? else (cs.drop (i * 5))[q - (i + 1) * 5]?:=by
  intro q
  rw [zc45,zc29,zc20,Nat.min_eq_left (by omega)]
  split
  ·rw [zc14,if_pos (by assumption)]
  ·rw [zc29,hxl]
   by_cases hq : q < (i + 1) * 5
   ·rw [if_pos (by omega),if_pos hq]
   ·rw [if_neg (by omega),if_neg hq]
    congr 1
    omega
 constructor
 ·apply List.ext_getElem?
  intro q
  rw [hrhs,zc14]
  by_cases hq : q < (n + 1) * 5
  ·rw [if_pos hq,zc25,zq1455 _ _ _ _ (by rw [zq1456];omega)]
   by_cases h1 : q < i * 5
   ·rw [if_neg (by omega),if_pos h1,zq1455 _ _ _ _ (by omega),if_neg (by omega),h0 q h1]
   ·rw [if_neg h1]
    by_cases h2 : q < (i + 1) * 5
    ·rw [if_pos (by omega),if_pos h2]
    ·rw [if_neg (by omega),if_neg h2,zq1455 _ _ _ _ (by omega),if_pos (by omega)]
  ·rw [if_neg hq,if_neg (by omega),if_neg (by omega),zc22 (by omega)]
 ·apply List.ext_getElem?
  intro q
  rw [hrhs,zc14]
  by_cases hq : q < (n + 1) * 5
  ·rw [if_pos hq,zc25,zq1455 _ _ _ _ (by rw [zq1456];omega)]
   by_cases h1 : q < i * 5
   ·rw [if_neg (by omega),if_pos h1,zq1455 _ _ _ _ (by omega),if_neg (by omega),h0 q h1]
   ·rw [if_neg h1]
    by_cases h2 : q < (i + 1) * 5
    ·rw [if_neg (by omega),if_pos h2,zq1455 _ _ _ _ (by omega),if_pos (by omega)]
    ·rw [if_pos (by omega),if_neg h2]
  ·rw [if_neg hq,if_neg (by omega),if_neg (by omega),zc22 (by omega)]
theorem zq742 (base : Nat) (w : World) (v u : Value) (n i : Nat) (cs xs : List Value) (h1 : w.ownsRow base 52 5 v n cs) (h2 : w.ownsRow base 52 5 u 1 xs) (hap : ∀ b,v.ownBlock = some b → u.ownBlock ≠ some b) (hc1 : ∀ x ∈ cs,oneC x = true) (hc2 : ∀ x ∈ xs,oneC x = true)
  (hbase : base ≤ w.heap.size) (hin : i ≤ n) (hbig : n + 1 ≤ 274877906944) :
  Calls Tryz.prog 70 #[v,.int .i64 (i : Int),u] w fun r w' => ∃ v',r = .returned v' ∧ w'.ownsRow base 52 5 v' (n + 1) (cs.take (i * 5) ++ xs ++ cs.drop (i * 5)) ∧ w.grownBy w' v.ownBlock ∧ (∀ b,v'.ownBlock = some b → v.ownBlock = some b ∨ w.heap.size ≤ b):=by
 obtain ⟨i0,hi0,hz⟩:=zc7.1 zq706
 simp only [zc11] at hz
 obtain ⟨hzc,hzs,hzb⟩:=hz
 obtain ⟨z,hz0,hzc⟩:=zc7.1 hzc
 have hcl:=h1.1
 have hxl : xs.length = 5:=by have:=h2.1;omega
 rcases h2.2 with ⟨_,h0⟩ | ⟨vb,vc,curv,rfl,hvbase,hvheap,hvc,hvcm,hvsz,hvtake⟩
 ·cases h0
 have hvs : ∀ j x,xs[j]? = some x → w.cell? ⟨vb,0 + j,none⟩ = some x:=by
  intro j x hj
  rw [Nat.zero_add,zq475 hvheap,← zc25]
  rw [← hvtake,zc14] at hj
  split at hj
  ·exact hj
  ·cases hj
 have h1v : ∀ x ∈ xs,x.oneCell' = true:=fun x hx => zq1111 (hc2 x hx)
 have h1c : ∀ x ∈ cs,x.oneCell' = true:=fun x hx => zq1111 (hc1 x hx)
 by_cases hine : i = n
 ·subst hine
  have htd : cs.take (i * 5) ++ xs ++ cs.drop (i * 5) = cs ++ xs:=by rw [List.take_of_length_le (by omega),List.drop_of_length_le (by omega),List.append_nil]
  rw [htd]
  have hown5 : w.ownsRow base 52 i0.size v i cs:=by rw [hzs];exact h1
  obtain ⟨v',w',hrun,hown',hgb,hblk⟩:=zq397 (P:=Tryz.prog) w base 23 0 52 i0 z Tryz.underlying23 hi0 hz0 (by rw [hzs];exact hzc) (by omega) v i cs hown5 (some ⟨vb,0,none⟩) 1 vc xs (by rw [hzs];omega) (by simp)
   (fun ad had j x hj => by
    cases had
    rw [zq324]
    exact hvs j x hj) h1v (by unfold maxLen;omega) (by rw [hzb];omega) hbase
  have hrun' : ∀ ty,(Builtin.append_ #[23,23] ty #[v,.slice (some ⟨vb,0,none⟩) 1 vc]).run Tryz.prog w = .ok v' w':=fun ty => by
   rw [← hrun]
   rfl
  rw [hzs] at hown'
  have hsl : ∃ A N C,v' = .slice A N C:=by
   rcases hown'.2 with ⟨h,_⟩ | ⟨g,cp,cur,h,_⟩
   ·exact ⟨_,_,_,h⟩
   ·exact ⟨_,_,_,h⟩
  have hv : ∃ A c,v = .slice A i c ∧ i ≤ c ∧ (A = none → i = 0):=by
   rcases h1.2 with ⟨h,h0⟩ | ⟨g,cp,cur,h,_,_,hc,_⟩
   ·exact ⟨none,0,by rw [h,h0],by omega,fun _ => h0⟩
   ·exact ⟨_,cp,h,hc,fun h => by cases h⟩
  obtain ⟨A,c,rfl,hc,hnil⟩:=hv
  refine (zq738 (.slice A i c) A i c vb vc 1 v' w w' (by omega) hc hrun' hsl hnil).mono ?_
  rintro e w2 ⟨rfl,rfl⟩
  exact ⟨v',rfl,hown',hgb,hblk⟩
 ·have hi : i < n:=by omega
  rcases h1.2 with ⟨_,h0⟩ | ⟨g,cap,cur,rfl,hgbase,hgheap,hnc,hcm,hgsz,hgtake⟩
  ·omega
  have hvbg : vb ≠ g:=fun e => hap g rfl (by rw [e];rfl)
  have hcs : ∀ j x,cs[j]? = some x → w.cell? ⟨g,0 + j,none⟩ = some x:=by
   intro j x hj
   rw [Nat.zero_add,zq475 hgheap,← zc25]
   rw [← hgtake,zc14] at hj
   split at hj
   ·exact hj
   ·cases hj
  by_cases hroom : n + 1 ≤ cap
  ·refine (zq744 g 0 n cap i vb 0 1 vc cs xs w hi (by omega) hroom (by unfold maxLen at hcm;omega) hvbg hcl (by omega) hcs
    (fun j hj => by rw [Nat.zero_add,zq475 hgheap,zc43 (by omega)];rfl) (fun j hj => by simp [World.frozen?,hgheap]) hvs h1c h1v 52 52 curv.size cur.size
    (by simp [World.shape?,hvheap]) (by simp [World.shape?,hgheap]) (by omega) (by simp [World.frozen?,hvheap]) (by simp [World.frozen?,hvheap])).mono ?_
   rintro e w' ⟨rfl,rfl⟩
   have hg0 : w.drew.heap[g]? = some (.cells cur 52 (0,0)):=hgheap
   obtain ⟨a1,a2,a3,a4,a5,a6⟩:=zq1458 w.drew g (0 + (i + 1) * 5) (cs.drop (i * 5)) cur 52 (0,0) hg0
   obtain ⟨b1,b2,b3,b4,b5,b6⟩:=zq1458 _ g (0 + i * 5) xs _ 52 (0,0) a1
   have hdl : (cs.drop (i * 5)).length = (n - i) * 5:=by rw [zc39,hcl];omega
   refine ⟨_,rfl,⟨?_,.inr ⟨g,cap,_,rfl,hgbase,b1,hroom,hcm,by rw [zq1456,zq1456];exact hgsz,?_⟩⟩,⟨b4.trans a4,b5.trans a5,b6.trans a6,by rw [b3,a3];exact zc46 _,fun k hk hne => ?_⟩,fun b hb => .inl hb⟩
   ·simp only [zc24,zc20,hdl,hxl];omega
   ·rw [Nat.zero_add,Nat.zero_add]
    refine (zq736 hi hcl hxl (by omega) fun q hq => ?_).1
    rw [← hgtake,zc14,if_pos (by omega),zc25]
   ·have hkg : k ≠ g:=fun e => hne (by rw [e];rfl)
    exact (b2 k hkg).trans (a2 k hkg)
  ·refine (zq740 g 0 n cap i vb 0 1 vc cs xs z (by rw [hi0];simp [hz0]) w hi (by omega) hnc (by omega) (by omega) hcl (by omega) hcs hvs h1c h1v).mono ?_
   rintro e w' ⟨rfl,rfl⟩
   obtain ⟨G,hG⟩ : ∃ G,G = grownCap w (n + 1) cap 52:=⟨_,rfl⟩
   have hGn : n + 1 ≤ G:=by rw [hG];exact grownCap_ge w _ _ _
   have hG63 : G ≤ maxLen:=by rw [hG];exact grownCap_le_maxLen w (n + 1) cap 52 (by unfold maxLen;omega)
   rw [← hG]
   obtain ⟨ROW,hROW⟩ : ∃ ROW : Array Value,ROW = (cs.take (i * 5)).toArray ++ Builtin.zeroCells z.cells (n + 1 - i) ++ Builtin.zeroCells z.cells (G - (n + 1)):=⟨_,rfl⟩
   rw [← hROW]
   have hRs : ROW.size = G * 5:=by
    rw [hROW]
    simp [Builtin.zeroCells,hzc]
    omega
   have hR0 : ∀ q,q < i * 5 → ROW[q]? = cs[q]?:=fun q hq => by
    rw [hROW,Array.append_assoc,Array.getElem?_append_left (by simp;omega)]
    simp only [List.getElem?_toArray,zc14,if_pos hq]
   have hh : ((w.alloc (.cells ROW 52)).drew).heap[w.heap.size]? = some (.cells ROW 52 (0,0)):=by
    show (w.heap.push _)[w.heap.size]? = _
    exact Array.getElem?_push_size
   obtain ⟨a1,a2,a3,a4,a5,a6⟩:=zq1458 _ w.heap.size (i * 5) xs ROW 52 (0,0) hh
   have a1' : (((w.alloc (.cells ROW 52)).drew.setCells w.heap.size (i * 5) xs).drew).heap[w.heap.size]? = _:=a1
   obtain ⟨b1,b2,b3,b4,b5,b6⟩:=zq1458 _ w.heap.size ((i + 1) * 5) (cs.drop (i * 5)) _ 52 (0,0) a1'
   have hdl : (cs.drop (i * 5)).length = (n - i) * 5:=by rw [zc39,hcl];omega
   have hold : ∀ k,k < w.heap.size → ((w.alloc (.cells ROW 52)).drew).heap[k]? = w.heap[k]?:=fun k hk => by
    show (w.heap.push _)[k]? = _
    rw [Array.getElem?_push,if_neg (by omega)]
   refine ⟨_,rfl,⟨?_,.inr ⟨w.heap.size,G,_,rfl,hbase,b1,hGn,hG63,by rw [zq1456,zq1456];exact hRs,?_⟩⟩,⟨b4.trans a4,b5.trans a5,b6.trans a6,?_,fun k hk hne => ?_⟩,fun b hb => .inr ?_⟩
   ·simp only [zc24,zc20,hdl,hxl];omega
   ·exact (zq736 hi hcl hxl (by omega) hR0).2
   ·rw [b3]
    show w.heap.size ≤ ((w.alloc (.cells ROW 52)).drew.setCells w.heap.size (i * 5) xs).heap.size
    rw [a3]
    show w.heap.size ≤ (w.heap.push _).size
    simp
   ·exact ((b2 k (by omega)).trans (a2 k (by omega))).trans (hold k hk)
   ·cases hb
    exact zc46 _
def zq1511 : Con:=zq720 .lease 52
theorem zq1512 : TrOk Tryz.prog 70 zq1511:=zq743 .lease 52 zq742
end Go.Proofs.YtpnpfgihgfbipaaGreat
namespace Go.Proofs.YtpnpfgihgfbipaaGreat
open Go Go.Ma
def zq858 : Env:=mkEnv ty fnB [] []
theorem zq859 : EnvOk Tryz.prog zq858:=envOk tyOk fn_ok zq467 _
def zq857 : Con:=con [.one (.fl .u64)] [.one (.fl .addr)] (fun x => zq861 x.1)
theorem zq860 : TrOk Tryz.prog 21 zq857:=by
 have h : zq1017 (zq504 Tryz.f21) = []:=by kernel_rfl
 refine zq506 zq859 Tryz.func21 (zq439 h lsNil) _ _ _ (fun x => ?_)
 kernel_rfl
def zq831 : Env:=mkEnv ty fnB [(21,zq857)] []
theorem zq832 : EnvOk Tryz.prog zq831:=envOk tyOk fn_ok (zq466 zq860 zq467) _
def zq830 : Con:=con [.one (.fl .u64),.one (.fl .int)] [.one (.fl .pfx)] (fun x => zq834 x.1 x.2.1)
theorem zq833 : TrOk Tryz.prog 44 zq830:=by
 have h : zq1017 (zq504 Tryz.f44) = []:=by kernel_rfl
 refine zq506 zq832 Tryz.func44 (zq439 h lsNil) _ _ _ (fun x => ?_)
 kernel_rfl
def zq841 : Env:=mkEnv ty fnB [(44,zq830),(21,zq857)] []
theorem zq842 : EnvOk Tryz.prog zq841:=envOk tyOk fn_ok (zq466 zq833 (zq466 zq860 zq467)) _
def zq840 : Con:=con [] [.one (.row .op 32)] (fun x => zq845)
theorem zq844 : TrOk Tryz.prog 18 zq840:=by
 have h : zq1017 (zq504 Tryz.f18) = []:=by kernel_rfl
 refine zq506 zq842 Tryz.func18 (zq439 h lsNil) _ _ _ (fun x => ?_)
 kernel_rfl
def zq334 : Env:=mkEnv ty fnB [] []
theorem zq335 : EnvOk Tryz.prog zq334:=envOk tyOk fn_ok zq467 _
def zq333 : Con:=con [.one (.fl .addr)] [.one (.fl .int)] (fun x => zq338 x.1)
theorem zq337 : TrOk Tryz.prog 53 zq333:=by
 have h : zq1017 (zq504 Tryz.f53) = []:=by kernel_rfl
 refine zq506 zq335 Tryz.func53 (zq439 h lsNil) _ _ _ (fun x => ?_)
 kernel_rfl
def zq1288 : Env:=mkEnv ty fnB [] []
theorem zq1289 : EnvOk Tryz.prog zq1288:=envOk tyOk fn_ok zq467 _
def zq1287 : Con:=con [.one (.fl .addr)] [.one (.fl .int)] (fun x => zq1292 x.1)
theorem zq1291 : TrOk Tryz.prog 80 zq1287:=by
 have h : zq1017 (zq504 Tryz.f80) = []:=by kernel_rfl
 refine zq506 zq1289 Tryz.func80 (zq439 h lsNil) _ _ _ (fun x => ?_)
 kernel_rfl
def zq1294 : Env:=mkEnv ty fnB [(80,zq1287)] []
theorem zq1295 : EnvOk Tryz.prog zq1294:=envOk tyOk fn_ok (zq466 zq1291 zq467) _
def zq1293 : Con:=con [.one (.fl .addr),.one (.fl .int)] [.one (.fl .addr)] (fun x => zq1298 x.1 x.2.1)
theorem zq1297 : TrOk Tryz.prog 94 zq1293:=by
 have h : zq1017 (zq504 Tryz.f94) = []:=by kernel_rfl
 refine zq506 zq1295 Tryz.func94 (zq439 h lsNil) _ _ _ (fun x => ?_)
 kernel_rfl
def zq1252 : Env:=mkEnv ty fnB [(94,zq1293)] []
theorem zq1253 : EnvOk Tryz.prog zq1252:=envOk tyOk fn_ok (zq466 zq1297 zq467) _
def zq1251 : Con:=con [.one (.fl .addr),.one (.fl .int)] [.one (.fl .addr)] (fun x => zq1256 x.1 x.2.1)
theorem zq1255 : TrOk Tryz.prog 81 zq1251:=by
 have h : zq1017 (zq504 Tryz.f81) = []:=by kernel_rfl
 refine zq506 zq1253 Tryz.func81 (zq439 h lsNil) _ _ _ (fun x => ?_)
 kernel_rfl
def zq1246 : Env:=mkEnv ty fnB [(53,zq333),(80,zq1287),(81,zq1251)] []
theorem zq1247 : EnvOk Tryz.prog zq1246:=envOk tyOk fn_ok (zq466 zq337 (zq466 zq1291 (zq466 zq1255 zq467))) _
def zq1245 : Con:=con [.one (.fl .pfx)] [.one (.fl .int)] (fun x => zq1250 x.1)
theorem zq1249 : TrOk Tryz.prog 51 zq1245:=by
 have h : zq1017 (zq504 Tryz.f51) = []:=by kernel_rfl
 refine zq506 zq1247 Tryz.func51 (zq439 h lsNil) _ _ _ (fun x => ?_)
 kernel_rfl
def zq925 : Env:=mkEnv ty fnB [(80,zq1287)] []
theorem zq926 : EnvOk Tryz.prog zq925:=envOk tyOk fn_ok (zq466 zq1291 zq467) _
def zq924 : Con:=con [.one (.fl .pfx)] [.one (.fl .bool)] (fun x => zq929 x.1)
theorem zq928 : TrOk Tryz.prog 52 zq924:=by
 have h : zq1017 (zq504 Tryz.f52) = []:=by kernel_rfl
 refine zq506 zq926 Tryz.func52 (zq439 h lsNil) _ _ _ (fun x => ?_)
 kernel_rfl
def zq1258 : Env:=mkEnv ty fnB [(81,zq1251)] []
theorem zq1259 : EnvOk Tryz.prog zq1258:=envOk tyOk fn_ok (zq466 zq1255 zq467) _
def zq1257 : Con:=con [.one (.fl .pfx),.one (.fl .addr)] [.one (.fl .bool)] (fun x => zq1262 x.1 x.2.1)
theorem zq1261 : TrOk Tryz.prog 54 zq1257:=by
 have h : zq1017 (zq504 Tryz.f54) = []:=by kernel_rfl
 refine zq506 zq1259 Tryz.func54 (zq439 h lsNil) _ _ _ (fun x => ?_)
 kernel_rfl
def zq340 : Env:=mkEnv ty fnB [] []
theorem zq341 : EnvOk Tryz.prog zq340:=envOk tyOk fn_ok zq467 _
def zq339 : Con:=con [.one (.fl .u64),.one (.fl .u64)] [.one (.fl .int)] (fun x => zq343 x.1 x.2.1)
theorem zq342 : TrOk Tryz.prog 82 zq339:=by
 have h : zq1017 (zq504 Tryz.f82) = []:=by kernel_rfl
 refine zq506 zq341 Tryz.func82 (zq439 h lsNil) _ _ _ (fun x => ?_)
 kernel_rfl
def zq345 : Env:=mkEnv ty fnB [(82,zq339)] []
theorem zq346 : EnvOk Tryz.prog zq345:=envOk tyOk fn_ok (zq466 zq342 zq467) _
def zq344 : Con:=con [.one (.fl .addr),.one (.fl .addr)] [.one (.fl .int)] (fun x => zq349 x.1 x.2.1)
theorem zq348 : TrOk Tryz.prog 55 zq344:=by
 have h : zq1017 (zq504 Tryz.f55) = []:=by kernel_rfl
 refine zq506 zq346 Tryz.func55 (zq439 h lsNil) _ _ _ (fun x => ?_)
 kernel_rfl
def zq931 : LoopS:={ n:=57,base:=1,head:={ keep:=[1,24,25,26],vals:=[.one (.cst (.ptr 1 0)),.one (.cst (.row 0)),.one (.fl .int),.one (.fl .int)],objs:=[.row .addr 28 false,.blk [.fl .bool,.fl .u64,.fl .u64,.fl .int,.cst (.row 0)] 35 true] },exits:=[⟨none,{ keep:=[2],vals:=[.one (.fl .int)],objs:=[.row .addr 28 false] }⟩,⟨some 0,{ keep:=[],vals:=[],objs:=[.row .addr 28 false] }⟩] }
def zq934 : Env:=mkEnv ty fnB [(51,zq1245),(52,zq924),(53,zq333),(54,zq1257),(55,zq344)] [(7,(zq1011 zq931 (loopN zq930 FUEL)))]
theorem zq935 : EnvOk Tryz.prog zq934:=envOk tyOk fn_ok (zq466 zq1249 (zq466 zq928 (zq466 zq337 (zq466 zq1261 (zq466 zq348 zq467))))) _
theorem zq932 : LOk Tryz.prog (zq1091 (zq504 Tryz.f23) 0) (zq1011 zq931 (loopN zq930 FUEL)):=by
 have h : zq1017 (zq1091 (zq504 Tryz.f23) 0) = []:=by kernel_rfl
 refine zq1012 zq935 (zq1018 h lsNil) zq931 zq930 FUEL (fun rec x => ?_)
 kernel_rfl
def zq933 : Con:=con [.agg [.fl .pfx,.row .addr 28]] [.one (.fl .int)] (fun x => zq938 x.1.1 x.1.2.1)
theorem zq937 : TrOk Tryz.prog 23 zq933:=by
 have h : zq1017 (zq504 Tryz.f23) = [(zq1091 (zq504 Tryz.f23) 0)]:=by kernel_rfl
 refine zq506 zq935 Tryz.func23 (zq439 h (zq1023 (zq1115 (t:=(zq1011 zq931 (loopN zq930 FUEL))) (by kernel_rfl) zq932) lsNil)) _ _ _ (fun x => ?_)
 kernel_rfl
def zq1276 : Env:=mkEnv ty fnB [(55,zq344)] []
theorem zq1277 : EnvOk Tryz.prog zq1276:=envOk tyOk fn_ok (zq466 zq348 zq467) _
def zq1275 : Con:=con [.one (.fl .pfx),.one (.fl .pfx)] [.one (.fl .int)] (fun x => zq1280 x.1 x.2.1)
theorem zq1279 : TrOk Tryz.prog 45 zq1275:=by
 have h : zq1017 (zq504 Tryz.f45) = []:=by kernel_rfl
 refine zq506 zq1277 Tryz.func45 (zq439 h lsNil) _ _ _ (fun x => ?_)
 kernel_rfl
def zq1282 : Env:=mkEnv ty fnB [(54,zq1257)] []
theorem zq1283 : EnvOk Tryz.prog zq1282:=envOk tyOk fn_ok (zq466 zq1261 zq467) _
def zq1281 : Con:=con [.one (.fl .pfx),.one (.fl .pfx)] [.one (.fl .bool)] (fun x => zq1286 x.1 x.2.1)
theorem zq1285 : TrOk Tryz.prog 75 zq1281:=by
 have h : zq1017 (zq504 Tryz.f75) = []:=by kernel_rfl
 refine zq506 zq1283 Tryz.func75 (zq439 h lsNil) _ _ _ (fun x => ?_)
 kernel_rfl
def zq1270 : Env:=mkEnv ty fnB [(75,zq1281)] []
theorem zq1271 : EnvOk Tryz.prog zq1270:=envOk tyOk fn_ok (zq466 zq1285 zq467) _
def zq1269 : Con:=con [.one (.fl .pfx),.one (.fl .pfx)] [.one (.fl .bool)] (fun x => zq1274 x.1 x.2.1)
theorem zq1273 : TrOk Tryz.prog 46 zq1269:=by
 have h : zq1017 (zq504 Tryz.f46) = []:=by kernel_rfl
 refine zq506 zq1271 Tryz.func46 (zq439 h lsNil) _ _ _ (fun x => ?_)
 kernel_rfl
def zq1658 : Env:=mkEnv ty fnB [] []
theorem zq1659 : EnvOk Tryz.prog zq1658:=envOk tyOk fn_ok zq467 _
def zq1657 : Con:=con [.one (.fl .int),.one (.fl .int),.one (.fl .int)] [.one (.fl .bool)] (fun x => zq1662 x.1 x.2.1 x.2.2.1)
theorem zq1661 : TrOk Tryz.prog 47 zq1657:=by
 have h : zq1017 (zq504 Tryz.f47) = []:=by kernel_rfl
 refine zq506 zq1659 Tryz.func47 (zq439 h lsNil) _ _ _ (fun x => ?_)
 kernel_rfl
def zq987 : Env:=mkEnv ty fnB [] []
theorem zq988 : EnvOk Tryz.prog zq987:=envOk tyOk fn_ok zq467 _
def zq986 : Con:=con [.one (.fl .int),.one (.fl .int),.one (.fl .int)] [.one (.fl .bool)] (fun x => zq991 x.1 x.2.1 x.2.2.1)
theorem zq990 : TrOk Tryz.prog 40 zq986:=by
 have h : zq1017 (zq504 Tryz.f40) = []:=by kernel_rfl
 refine zq506 zq988 Tryz.func40 (zq439 h lsNil) _ _ _ (fun x => ?_)
 kernel_rfl
def zq972 : LoopS:={ n:=33,base:=0,head:={ keep:=[0,6,7],vals:=[.one (.fl .str),.one (.fl .int),.one (.fl .int)],objs:=[] },exits:=[⟨none,{ keep:=[2],vals:=[.one (.fl .bool)],objs:=[] }⟩,⟨some 0,{ keep:=[0],vals:=[.one (.fl .str)],objs:=[] }⟩] }
def zq975 : Env:=mkEnv ty fnB [(40,zq986)] [(2,(zq1011 zq972 (loopN zq971 FUEL)))]
theorem zq976 : EnvOk Tryz.prog zq975:=envOk tyOk fn_ok (zq466 zq990 zq467) _
theorem zq973 : LOk Tryz.prog (zq1091 (zq504 Tryz.f39) 0) (zq1011 zq972 (loopN zq971 FUEL)):=by
 have h : zq1017 (zq1091 (zq504 Tryz.f39) 0) = []:=by kernel_rfl
 refine zq1012 zq976 (zq1018 h lsNil) zq972 zq971 FUEL (fun rec x => ?_)
 kernel_rfl
def zq974 : Con:=con [.one (.fl .str)] [.one (.fl .bool)] (fun x => zq979 x.1)
theorem zq978 : TrOk Tryz.prog 39 zq974:=by
 have h : zq1017 (zq504 Tryz.f39) = [(zq1091 (zq504 Tryz.f39) 0)]:=by kernel_rfl
 refine zq506 zq976 Tryz.func39 (zq439 h (zq1023 (zq1115 (t:=(zq1011 zq972 (loopN zq971 FUEL))) (by kernel_rfl) zq973) lsNil)) _ _ _ (fun x => ?_)
 kernel_rfl
def zq981 : Env:=mkEnv ty fnB [(53,zq333),(39,zq974),(40,zq986)] []
theorem zq982 : EnvOk Tryz.prog zq981:=envOk tyOk fn_ok (zq466 zq337 (zq466 zq978 (zq466 zq990 zq467))) _
def zq980 : Con:=con [.one (.fl .lease)] [.one (.fl .int)] (fun x => zq985 x.1)
theorem zq984 : TrOk Tryz.prog 71 zq980:=by
 have h : zq1017 (zq504 Tryz.f71) = []:=by kernel_rfl
 refine zq506 zq982 Tryz.func71 (zq439 h lsNil) _ _ _ (fun x => ?_)
 kernel_rfl
def zq872 : LoopS:={ n:=46,base:=1,head:={ keep:=[0,1,12,13,14],vals:=[.one (.cst (.row 0)),.one (.fl .int),.one (.cst (.row 0)),.one (.fl .int),.one (.fl .int)],objs:=[.row .lease 52 false] },exits:=[⟨none,{ keep:=[4],vals:=[.one (.fl .int)],objs:=[.row .lease 52 false] }⟩,⟨some 0,{ keep:=[0,1],vals:=[.one (.cst (.row 0)),.one (.fl .int)],objs:=[.row .lease 52 false] }⟩] }
def zq869 : LoopS:={ n:=46,base:=1,head:={ keep:=[0,1,8],vals:=[.one (.cst (.row 0)),.one (.fl .int),.one (.fl .int)],objs:=[.row .lease 52 false] },exits:=[⟨none,{ keep:=[4],vals:=[.one (.fl .int)],objs:=[.row .lease 52 false] }⟩,⟨some 2,{ keep:=[1],vals:=[.one (.fl .int)],objs:=[.row .lease 52 false] }⟩] }
def zq875 : Env:=mkEnv ty fnB [(71,zq980),(55,zq344),(40,zq986)] [(4,(zq1011 zq872 (loopN zq871 FUEL))),(11,(zq1011 zq869 (loopN zq868 FUEL)))]
theorem zq876 : EnvOk Tryz.prog zq875:=envOk tyOk fn_ok (zq466 zq984 (zq466 zq348 (zq466 zq990 zq467))) _
theorem zq870 : LOk Tryz.prog (zq1091 (zq504 Tryz.f42) 1) (zq1011 zq869 (loopN zq868 FUEL)):=by
 have h : zq1017 (zq1091 (zq504 Tryz.f42) 1) = []:=by kernel_rfl
 refine zq1012 zq876 (zq1018 h lsNil) zq869 zq868 FUEL (fun rec x => ?_)
 kernel_rfl
theorem zq873 : LOk Tryz.prog (zq1091 (zq504 Tryz.f42) 0) (zq1011 zq872 (loopN zq871 FUEL)):=by
 have h : zq1017 (zq1091 (zq504 Tryz.f42) 0) = []:=by kernel_rfl
 refine zq1012 zq876 (zq1018 h lsNil) zq872 zq871 FUEL (fun rec x => ?_)
 kernel_rfl
def zq874 : Con:=con [.one (.row .lease 52),.one (.fl .int)] [.one (.fl .int)] (fun x => zq879 x.1 x.2.1)
theorem zq878 : TrOk Tryz.prog 42 zq874:=by
 have h : zq1017 (zq504 Tryz.f42) = [(zq1091 (zq504 Tryz.f42) 0),(zq1091 (zq504 Tryz.f42) 1)]:=by kernel_rfl
 refine zq506 zq876 Tryz.func42 (zq439 h (zq1023 (zq1115 (t:=(zq1011 zq872 (loopN zq871 FUEL))) (by kernel_rfl) zq873) (zq1023 (zq1115 (t:=(zq1011 zq869 (loopN zq868 FUEL))) (by kernel_rfl) zq870) lsNil))) _ _ _ (fun x => ?_)
 kernel_rfl
def zq1641 : Env:=mkEnv ty fnB [(54,zq1257)] []
theorem zq1642 : EnvOk Tryz.prog zq1641:=envOk tyOk fn_ok (zq466 zq1261 zq467) _
def zq1640 : Con:=con [.agg [.fl .pfx,.row .addr 28],.ref [.fl .addr] 28] [.one (.fl .bool)] (fun x => zq1644 x.1.1 x.1.2.1 x.2.1.1)
theorem zq1643 : TrOk Tryz.prog 77 zq1640:=by
 have h : zq1017 (zq504 Tryz.f77) = []:=by kernel_rfl
 refine zq506 zq1642 Tryz.func77 (zq439 h lsNil) _ _ _ (fun x => ?_)
 kernel_rfl
def zq1651 : LoopS:={ n:=19,base:=5,head:={ keep:=[0,1,7,8],vals:=[.one (.cst (.row 1)),.one (.cst (.fn 77 [.ptr 4 0])),.one (.fl .int),.one (.fl .int)],objs:=[.bag .addr 28 false false,.nest .pfx 0 35 false,.row .lease 52 false,.blk [.cst (.row 1),.cst (.row 2),.fl .int] 25 true,.blk [.fl .addr] 28 true] },exits:=[⟨none,{ keep:=[4],vals:=[.one (.fl .int)],objs:=[.bag .addr 28 false false,.nest .pfx 0 35 false,.row .lease 52 false,.blk [.cst (.row 1),.cst (.row 2),.fl .int] 25 true,.blk [.fl .addr] 28 true] }⟩,⟨some 0,{ keep:=[],vals:=[],objs:=[.bag .addr 28 false false,.nest .pfx 0 35 false,.row .lease 52 false,.blk [.cst (.row 1),.cst (.row 2),.fl .int] 25 true,.blk [.fl .addr] 28 true] }⟩] }
def zq1653 : Env:=mkEnv ty fnB [(77,zq1640)] [(2,(zq1011 zq1651 (loopN zq1650 FUEL)))]
theorem zq1654 : EnvOk Tryz.prog zq1653:=envOk tyOk fn_ok (zq466 zq1643 zq467) _
theorem zq1652 : LOk Tryz.prog (zq1091 (zq504 Tryz.f76) 0) (zq1011 zq1651 (loopN zq1650 FUEL)):=by
 have h : zq1017 (zq1091 (zq504 Tryz.f76) 0) = []:=by kernel_rfl
 refine zq1012 zq1654 (zq1018 h lsNil) zq1651 zq1650 FUEL (fun rec x => ?_)
 kernel_rfl
theorem zq1655 : TrOk Tryz.prog 76 (zq708 zq1653 Tryz.f76):=by
 have h : zq1017 (zq504 Tryz.f76) = [(zq1091 (zq504 Tryz.f76) 0)]:=by kernel_rfl
 exact zq709 zq1654 Tryz.func76 (zq439 h (zq1023 (zq1115 (t:=(zq1011 zq1651 (loopN zq1650 FUEL))) (by kernel_rfl) zq1652) lsNil))
def zq1646 : Env:=mkEnv ty fnB [(76,(zq708 zq1653 Tryz.f76))] []
theorem zq1647 : EnvOk Tryz.prog zq1646:=envOk tyOk fn_ok (zq466 zq1655 zq467) _
def zq1645 : Con:=con [.agg [.nest .pfx .addr 35 28 true,.row .lease 52,.fl .int],.one (.fl .addr)] [.one (.fl .int)] (fun x => zq1656 x.1.1 x.1.2.1 x.1.2.2.1 x.2.1)
theorem zq1649 : TrOk Tryz.prog 48 zq1645:=by
 have h : zq1017 (zq504 Tryz.f48) = []:=by kernel_rfl
 refine zq506 zq1647 Tryz.func48 (zq439 h lsNil) _ _ _ (fun x => ?_)
 kernel_rfl
def zq1634 : Env:=mkEnv ty fnB [] []
theorem zq1635 : EnvOk Tryz.prog zq1634:=envOk tyOk fn_ok zq467 _
def zq1633 : Con:=con [.one (.fl .op)] [.one (.fl .bool)] (fun x => zq1638 x.1)
theorem zq1637 : TrOk Tryz.prog 50 zq1633:=by
 have h : zq1017 (zq504 Tryz.f50) = []:=by kernel_rfl
 refine zq506 zq1635 Tryz.func50 (zq439 h lsNil) _ _ _ (fun x => ?_)
 kernel_rfl
def zq1573 : Env:=mkEnv ty fnB [(47,zq1657),(50,zq1633),(51,zq1245),(52,zq924),(53,zq333),(39,zq974)] []
theorem zq1574 : EnvOk Tryz.prog zq1573:=envOk tyOk fn_ok (zq466 zq1661 (zq466 zq1637 (zq466 zq1249 (zq466 zq928 (zq466 zq337 (zq466 zq978 zq467)))))) _
def zq1572 : Con:=con [.one (.fl .op)] [.one (.fl .int)] (fun x => zq1577 x.1)
theorem zq1576 : TrOk Tryz.prog 20 zq1572:=by
 have h : zq1017 (zq504 Tryz.f20) = []:=by kernel_rfl
 refine zq506 zq1574 Tryz.func20 (zq439 h lsNil) _ _ _ (fun x => ?_)
 kernel_rfl
def zq1489 : Env:=mkEnv ty fnB [] []
theorem zq1490 : EnvOk Tryz.prog zq1489:=envOk tyOk fn_ok zq467 _
def zq1488 : Con:=con [.one (.row .lease 52)] [.one (.row .lease 52)] (fun x => zq1492 x.1)
theorem zq1491 : TrOk Tryz.prog 73 zq1488:=by
 have h : zq1017 (zq504 Tryz.f73) = []:=by kernel_rfl
 refine zq506 zq1490 Tryz.func73 (zq439 h lsNil) _ _ _ (fun x => ?_)
 kernel_rfl
def zq1484 : Env:=mkEnv ty fnB [] []
theorem zq1485 : EnvOk Tryz.prog zq1484:=envOk tyOk fn_ok zq467 _
def zq1483 : Con:=con [.one (.row .addr 28)] [.one (.row .addr 28)] (fun x => zq1487 x.1)
theorem zq1486 : TrOk Tryz.prog 85 zq1483:=by
 have h : zq1017 (zq504 Tryz.f85) = []:=by kernel_rfl
 refine zq506 zq1485 Tryz.func85 (zq439 h lsNil) _ _ _ (fun x => ?_)
 kernel_rfl
def zq1579 : LoopS:={ n:=32,base:=3,head:={ keep:=[2,3,13,14,15],vals:=[.one (.cst (.ptr 3 0)),.one (.cst (.ptr 4 0)),.one (.cst (.row 1)),.one (.fl .int),.one (.fl .int)],objs:=[.bag .addr 28 false false,.nest .pfx 0 35 false,.row .lease 52 false,.blk [.cst (.row 5),.cst (.row 6),.fl .int] 25 true,.blk [.cst (.row 7),.cst (.row 8),.fl .int] 25 true,.nest .pfx 9 35 true,.row .lease 52 true,.nest .pfx 10 35 true,.row .lease 52 true,.bag .addr 28 true true,.bag .addr 28 true true] },exits:=[⟨some 0,{ keep:=[2,3],vals:=[.one (.cst (.ptr 3 0)),.one (.cst (.ptr 4 0))],objs:=[.bag .addr 28 false false,.nest .pfx 0 35 false,.row .lease 52 false,.blk [.cst (.row 5),.cst (.row 6),.fl .int] 25 true,.blk [.cst (.row 7),.cst (.row 8),.fl .int] 25 true,.nest .pfx 9 35 true,.row .lease 52 true,.nest .pfx 10 35 true,.row .lease 52 true,.bag .addr 28 true true,.bag .addr 28 true true] }⟩] }
def zq1582 : Env:=mkEnv ty fnB [(73,zq1488),(85,zq1483)] [(3,(zq1011 zq1579 (loopN zq1578 FUEL)))]
theorem zq1583 : EnvOk Tryz.prog zq1582:=envOk tyOk fn_ok (zq466 zq1491 (zq466 zq1486 zq467)) _
theorem zq1580 : LOk Tryz.prog (zq1091 (zq504 Tryz.f63) 0) (zq1011 zq1579 (loopN zq1578 FUEL)):=by
 have h : zq1017 (zq1091 (zq504 Tryz.f63) 0) = []:=by kernel_rfl
 refine zq1012 zq1583 (zq1018 h lsNil) zq1579 zq1578 FUEL (fun rec x => ?_)
 kernel_rfl
def zq1581 : Con:=con [.agg [.nest .pfx .addr 35 28 true,.row .lease 52,.fl .int]] [.agg [.nest .pfx .addr 35 28 true,.row .lease 52,.fl .int]] (fun x => zq1586 x.1.1 x.1.2.1 x.1.2.2.1)
theorem zq1585 : TrOk Tryz.prog 63 zq1581:=by
 have h : zq1017 (zq504 Tryz.f63) = [(zq1091 (zq504 Tryz.f63) 0)]:=by kernel_rfl
 refine zq506 zq1583 Tryz.func63 (zq439 h (zq1023 (zq1115 (t:=(zq1011 zq1579 (loopN zq1578 FUEL))) (by kernel_rfl) zq1580) lsNil)) _ _ _ (fun x => ?_)
 kernel_rfl
def zq301 : Env:=mkEnv ty fnB [(46,zq1269)] []
theorem zq302 : EnvOk Tryz.prog zq301:=envOk tyOk fn_ok (zq466 zq1273 zq467) _
def zq300 : Con:=con [.agg [.fl .pfx,.row .addr 28],.ref [.fl .pfx] 30] [.one (.fl .bool)] (fun x => zq304 x.1.1 x.1.2.1 x.2.1.1)
theorem zq303 : TrOk Tryz.prog 96 zq300:=by
 have h : zq1017 (zq504 Tryz.f96) = []:=by kernel_rfl
 refine zq506 zq302 Tryz.func96 (zq439 h lsNil) _ _ _ (fun x => ?_)
 kernel_rfl
def zq306 : Env:=mkEnv ty fnB [(45,zq1275)] []
theorem zq307 : EnvOk Tryz.prog zq306:=envOk tyOk fn_ok (zq466 zq1279 zq467) _
def zq305 : Con:=con [.agg [.fl .pfx,.row .addr 28],.one (.fl .pfx)] [.one (.fl .int)] (fun x => zq309 x.1.1 x.1.2.1 x.2.1)
theorem zq308 : TrOk Tryz.prog 98 zq305:=by
 have h : zq1017 (zq504 Tryz.f98) = []:=by kernel_rfl
 refine zq506 zq307 Tryz.func98 (zq439 h lsNil) _ _ _ (fun x => ?_)
 kernel_rfl
def zq285 : Env:=mkEnv ty fnB [] []
theorem zq286 : EnvOk Tryz.prog zq285:=envOk tyOk fn_ok zq467 _
def zq284 : Con:=con [.one (.fl .lease),.ref [.fl .str] 9] [.one (.fl .bool)] (fun x => zq288 x.1 x.2.1.1)
theorem zq287 : TrOk Tryz.prog 116 zq284:=by
 have h : zq1017 (zq504 Tryz.f116) = []:=by kernel_rfl
 refine zq506 zq286 Tryz.func116 (zq439 h lsNil) _ _ _ (fun x => ?_)
 kernel_rfl
def zq294 : LoopS:={ n:=19,base:=5,head:={ keep:=[0,1,7,8],vals:=[.one (.cst (.row 3)),.one (.cst (.fn 116 [.ptr 4 0])),.one (.fl .int),.one (.fl .int)],objs:=[.blk [.cst (.row 2),.cst (.row 3),.fl .int] 87 false,.bag .addr 28 false false,.nest .pfx 1 35 false,.row .lease 52 false,.blk [.fl .str] 9 true] },exits:=[⟨none,{ keep:=[4],vals:=[.one (.fl .int)],objs:=[.blk [.cst (.row 2),.cst (.row 3),.fl .int] 87 false,.bag .addr 28 false false,.nest .pfx 1 35 false,.row .lease 52 false,.blk [.fl .str] 9 true] }⟩,⟨some 0,{ keep:=[],vals:=[],objs:=[.blk [.cst (.row 2),.cst (.row 3),.fl .int] 87 false,.bag .addr 28 false false,.nest .pfx 1 35 false,.row .lease 52 false,.blk [.fl .str] 9 true] }⟩] }
def zq296 : Env:=mkEnv ty fnB [(116,zq284)] [(2,(zq1011 zq294 (loopN zq293 FUEL)))]
theorem zq297 : EnvOk Tryz.prog zq296:=envOk tyOk fn_ok (zq466 zq287 zq467) _
theorem zq295 : LOk Tryz.prog (zq1091 (zq504 Tryz.f65) 0) (zq1011 zq294 (loopN zq293 FUEL)):=by
 have h : zq1017 (zq1091 (zq504 Tryz.f65) 0) = []:=by kernel_rfl
 refine zq1012 zq297 (zq1018 h lsNil) zq294 zq293 FUEL (fun rec x => ?_)
 kernel_rfl
theorem zq298 : TrOk Tryz.prog 65 (zq708 zq296 Tryz.f65):=by
 have h : zq1017 (zq504 Tryz.f65) = [(zq1091 (zq504 Tryz.f65) 0)]:=by kernel_rfl
 exact zq709 zq297 Tryz.func65 (zq439 h (zq1023 (zq1115 (t:=(zq1011 zq294 (loopN zq293 FUEL))) (by kernel_rfl) zq295) lsNil))
def zq290 : Env:=mkEnv ty fnB [(65,(zq708 zq296 Tryz.f65))] []
theorem zq291 : EnvOk Tryz.prog zq290:=envOk tyOk fn_ok (zq466 zq298 zq467) _
def zq289 : Con:=con [.ref [.nest .pfx .addr 35 28 true,.row .lease 52,.fl .int] 87,.one (.fl .str)] [.one (.fl .int)] (fun x => zq299 x.1.1 x.1.2.1 x.1.2.2.1 x.2.1)
theorem zq292 : TrOk Tryz.prog 102 zq289:=by
 have h : zq1017 (zq504 Tryz.f102) = []:=by kernel_rfl
 refine zq506 zq291 Tryz.func102 (zq439 h lsNil) _ _ _ (fun x => ?_)
 kernel_rfl
def zq902 : Env:=mkEnv ty fnB [] []
theorem zq903 : EnvOk Tryz.prog zq902:=envOk tyOk fn_ok zq467 _
def zq901 : Con:=con [.one (.fl .lease),.ref [.fl .int] 3] [.one (.fl .bool)] (fun x => zq905 x.1 x.2.1.1)
theorem zq904 : TrOk Tryz.prog 74 zq901:=by
 have h : zq1017 (zq504 Tryz.f74) = []:=by kernel_rfl
 refine zq506 zq903 Tryz.func74 (zq439 h lsNil) _ _ _ (fun x => ?_)
 kernel_rfl
def zq918 : LoopS:={ n:=19,base:=5,head:={ keep:=[0,1,7,8],vals:=[.one (.cst (.row 3)),.one (.cst (.fn 74 [.ptr 1 0])),.one (.fl .int),.one (.fl .int)],objs:=[.row .lease 52 false,.blk [.fl .int] 3 true,.row .lease 52 true,.row .lease 52 true,.row .lease 52 true] },exits:=[⟨none,{ keep:=[4],vals:=[.one (.fl .int)],objs:=[.row .lease 52 false,.blk [.fl .int] 3 true,.row .lease 52 true,.row .lease 52 true,.row .lease 52 true] }⟩,⟨some 0,{ keep:=[],vals:=[],objs:=[.row .lease 52 false,.blk [.fl .int] 3 true,.row .lease 52 true,.row .lease 52 true,.row .lease 52 true] }⟩] }
def zq920 : Env:=mkEnv ty fnB [(74,zq901)] [(2,(zq1011 zq918 (loopN zq917 FUEL)))]
theorem zq921 : EnvOk Tryz.prog zq920:=envOk tyOk fn_ok (zq466 zq904 zq467) _
theorem zq919 : LOk Tryz.prog (zq1091 (zq504 Tryz.f65) 0) (zq1011 zq918 (loopN zq917 FUEL)):=by
 have h : zq1017 (zq1091 (zq504 Tryz.f65) 0) = []:=by kernel_rfl
 refine zq1012 zq921 (zq1018 h lsNil) zq918 zq917 FUEL (fun rec x => ?_)
 kernel_rfl
theorem zq922 : TrOk Tryz.prog 65 (zq708 zq920 Tryz.f65):=by
 have h : zq1017 (zq504 Tryz.f65) = [(zq1091 (zq504 Tryz.f65) 0)]:=by kernel_rfl
 exact zq709 zq921 Tryz.func65 (zq439 h (zq1023 (zq1115 (t:=(zq1011 zq918 (loopN zq917 FUEL))) (by kernel_rfl) zq919) lsNil))
def zq912 : LoopS:={ n:=42,base:=4,head:={ keep:=[0,1,5,6],vals:=[.one (.cst (.row 3)),.one (.cst (.fn 74 [.ptr 1 0])),.one (.fl .int),.one (.fl .int)],objs:=[.row .lease 52 false,.blk [.fl .int] 3 true,.row .lease 52 true,.row .lease 52 true] },exits:=[⟨some 0,{ keep:=[0,5],vals:=[.one (.cst (.row 3)),.one (.fl .int)],objs:=[.row .lease 52 false,.blk [.fl .int] 3 true,.row .lease 52 true,.row .lease 52 true] }⟩] }
def zq914 : Env:=mkEnv ty fnB [(74,zq901),(65,(zq708 zq920 Tryz.f65))] [(5,(zq1011 zq912 (loopN zq911 FUEL)))]
theorem zq915 : EnvOk Tryz.prog zq914:=envOk tyOk fn_ok (zq466 zq904 (zq466 zq922 zq467)) _
theorem zq913 : LOk Tryz.prog (zq1091 (zq504 Tryz.f72) 0) (zq1011 zq912 (loopN zq911 FUEL)):=by
 have h : zq1017 (zq1091 (zq504 Tryz.f72) 0) = []:=by kernel_rfl
 refine zq1012 zq915 (zq1018 h lsNil) zq912 zq911 FUEL (fun rec x => ?_)
 kernel_rfl
theorem zq916 : TrOk Tryz.prog 72 (zq708 zq914 Tryz.f72):=by
 have h : zq1017 (zq504 Tryz.f72) = [(zq1091 (zq504 Tryz.f72) 0)]:=by kernel_rfl
 exact zq709 zq915 Tryz.func72 (zq439 h (zq1023 (zq1115 (t:=(zq1011 zq912 (loopN zq911 FUEL))) (by kernel_rfl) zq913) lsNil))
def zq907 : Env:=mkEnv ty fnB [(73,zq1488),(72,(zq708 zq914 Tryz.f72))] []
theorem zq908 : EnvOk Tryz.prog zq907:=envOk tyOk fn_ok (zq466 zq1491 (zq466 zq916 zq467)) _
def zq906 : Con:=con [.one (.row .lease 52),.one (.fl .int)] [.one (.row .lease 52)] (fun x => zq923 x.1 x.2.1)
theorem zq910 : TrOk Tryz.prog 43 zq906:=by
 have h : zq1017 (zq504 Tryz.f43) = []:=by kernel_rfl
 refine zq506 zq908 Tryz.func43 (zq439 h lsNil) _ _ _ (fun x => ?_)
 kernel_rfl
def zq940 : Env:=mkEnv ty fnB [] []
theorem zq941 : EnvOk Tryz.prog zq940:=envOk tyOk fn_ok zq467 _
def zq939 : Con:=con [.one (.fl .lease),.ref [.fl .str] 9] [.one (.fl .bool)] (fun x => zq943 x.1 x.2.1.1)
theorem zq942 : TrOk Tryz.prog 66 zq939:=by
 have h : zq1017 (zq504 Tryz.f66) = []:=by kernel_rfl
 refine zq506 zq941 Tryz.func66 (zq439 h lsNil) _ _ _ (fun x => ?_)
 kernel_rfl
def zq1264 : Env:=mkEnv ty fnB [(94,zq1293)] []
theorem zq1265 : EnvOk Tryz.prog zq1264:=envOk tyOk fn_ok (zq466 zq1297 zq467) _
def zq1263 : Con:=con [.one (.fl .pfx)] [.one (.fl .addr)] (fun x => zq1268 x.1)
theorem zq1267 : TrOk Tryz.prog 107 zq1263:=by
 have h : zq1017 (zq504 Tryz.f107) = []:=by kernel_rfl
 refine zq506 zq1265 Tryz.func107 (zq439 h lsNil) _ _ _ (fun x => ?_)
 kernel_rfl
def zq328 : Env:=mkEnv ty fnB [] []
theorem zq329 : EnvOk Tryz.prog zq328:=envOk tyOk fn_ok zq467 _
def zq327 : Con:=con [.one (.fl .addr)] [.one (.fl .addr),.one (.fl .bool)] (fun x => zq332 x.1)
theorem zq331 : TrOk Tryz.prog 108 zq327:=by
 have h : zq1017 (zq504 Tryz.f108) = []:=by kernel_rfl
 refine zq506 zq329 Tryz.func108 (zq439 h lsNil) _ _ _ (fun x => ?_)
 kernel_rfl
def zq1502 : LoopS:={ n:=19,base:=1,head:={ keep:=[0,3,7,8],vals:=[.one (.cst (.row 0)),.one (.cst (.ptr 1 0)),.one (.fl .int),.one (.fl .int)],objs:=[.row .addr 28 false,.blk [.fl .addr] 28 true] },exits:=[⟨none,{ keep:=[4],vals:=[.one (.fl .int)],objs:=[.row .addr 28 false] }⟩,⟨some 0,{ keep:=[],vals:=[],objs:=[.row .addr 28 false] }⟩] }
def zq1505 : Env:=mkEnv ty fnB [] [(2,(zq1011 zq1502 (loopN zq1501 FUEL)))]
theorem zq1506 : EnvOk Tryz.prog zq1505:=envOk tyOk fn_ok zq467 _
theorem zq1503 : LOk Tryz.prog (zq1091 (zq504 Tryz.f119) 0) (zq1011 zq1502 (loopN zq1501 FUEL)):=by
 have h : zq1017 (zq1091 (zq504 Tryz.f119) 0) = []:=by kernel_rfl
 refine zq1012 zq1506 (zq1018 h lsNil) zq1502 zq1501 FUEL (fun rec x => ?_)
 kernel_rfl
def zq1504 : Con:=con [.one (.row .addr 28),.one (.fl .addr)] [.one (.fl .int)] (fun x => zq1508 x.1 x.2.1)
theorem zq1507 : TrOk Tryz.prog 119 zq1504:=by
 have h : zq1017 (zq504 Tryz.f119) = [(zq1091 (zq504 Tryz.f119) 0)]:=by kernel_rfl
 refine zq506 zq1506 Tryz.func119 (zq439 h (zq1023 (zq1115 (t:=(zq1011 zq1502 (loopN zq1501 FUEL))) (by kernel_rfl) zq1503) lsNil)) _ _ _ (fun x => ?_)
 kernel_rfl
def zq1494 : Env:=mkEnv ty fnB [(119,zq1504)] []
theorem zq1495 : EnvOk Tryz.prog zq1494:=envOk tyOk fn_ok (zq466 zq1507 zq467) _
def zq1493 : Con:=con [.one (.row .addr 28),.one (.fl .addr)] [.one (.fl .bool)] (fun x => zq1497 x.1 x.2.1)
theorem zq1496 : TrOk Tryz.prog 109 zq1493:=by
 have h : zq1017 (zq504 Tryz.f109) = []:=by kernel_rfl
 refine zq506 zq1495 Tryz.func109 (zq439 h lsNil) _ _ _ (fun x => ?_)
 kernel_rfl
def zq266 : Env:=mkEnv ty fnB [] []
theorem zq267 : EnvOk Tryz.prog zq266:=envOk tyOk fn_ok zq467 _
def zq265 : Con:=con [.one (.fl .lease),.ref [.fl .addr] 28] [.one (.fl .bool)] (fun x => zq269 x.1 x.2.1.1)
theorem zq268 : TrOk Tryz.prog 110 zq265:=by
 have h : zq1017 (zq504 Tryz.f110) = []:=by kernel_rfl
 refine zq506 zq267 Tryz.func110 (zq439 h lsNil) _ _ _ (fun x => ?_)
 kernel_rfl
def zq278 : LoopS:={ n:=19,base:=4,head:={ keep:=[0,1,7,8],vals:=[.one (.cst (.row 2)),.one (.cst (.fn 110 [.ptr 3 0])),.one (.fl .int),.one (.fl .int)],objs:=[.blk [.fl .bool,.fl .u64,.fl .u64,.fl .int,.cst (.row 1),.cst (.row 2)] 92 false,.row .addr 28 false,.row .lease 52 false,.blk [.fl .addr] 28 false] },exits:=[⟨none,{ keep:=[4],vals:=[.one (.fl .int)],objs:=[.blk [.fl .bool,.fl .u64,.fl .u64,.fl .int,.cst (.row 1),.cst (.row 2)] 92 false,.row .addr 28 false,.row .lease 52 false,.blk [.fl .addr] 28 false] }⟩,⟨some 0,{ keep:=[],vals:=[],objs:=[.blk [.fl .bool,.fl .u64,.fl .u64,.fl .int,.cst (.row 1),.cst (.row 2)] 92 false,.row .addr 28 false,.row .lease 52 false,.blk [.fl .addr] 28 false] }⟩] }
def zq280 : Env:=mkEnv ty fnB [(110,zq265)] [(2,(zq1011 zq278 (loopN zq277 FUEL)))]
theorem zq281 : EnvOk Tryz.prog zq280:=envOk tyOk fn_ok (zq466 zq268 zq467) _
theorem zq279 : LOk Tryz.prog (zq1091 (zq504 Tryz.f65) 0) (zq1011 zq278 (loopN zq277 FUEL)):=by
 have h : zq1017 (zq1091 (zq504 Tryz.f65) 0) = []:=by kernel_rfl
 refine zq1012 zq281 (zq1018 h lsNil) zq278 zq277 FUEL (fun rec x => ?_)
 kernel_rfl
theorem zq282 : TrOk Tryz.prog 65 (zq708 zq280 Tryz.f65):=by
 have h : zq1017 (zq504 Tryz.f65) = [(zq1091 (zq504 Tryz.f65) 0)]:=by kernel_rfl
 exact zq709 zq281 Tryz.func65 (zq439 h (zq1023 (zq1115 (t:=(zq1011 zq278 (loopN zq277 FUEL))) (by kernel_rfl) zq279) lsNil))
def zq274 : Env:=mkEnv ty fnB [(65,(zq708 zq280 Tryz.f65))] []
theorem zq275 : EnvOk Tryz.prog zq274:=envOk tyOk fn_ok (zq466 zq282 zq467) _
theorem zq276 : TrOk Tryz.prog 78 (flCon zq274 Tryz.f78 [.one (.fl .bool)]):=by
 have h : zq1017 (zq504 Tryz.f78) = []:=by kernel_rfl
 exact zq616 zq275 Tryz.func78 (zq439 h lsNil) [.one (.fl .bool)] rfl
def zq271 : Env:=mkEnv ty fnB [(109,zq1493),(78,(flCon zq274 Tryz.f78 [.one (.fl .bool)]))] []
theorem zq272 : EnvOk Tryz.prog zq271:=envOk tyOk fn_ok (zq466 zq1496 (zq466 zq276 zq467)) _
def zq270 : Con:=con [.ref [.fl .pfx,.row .addr 28,.row .lease 52] 92,.one (.fl .addr)] [.one (.fl .bool)] (fun x => zq283 x.1.1 x.1.2.1 x.1.2.2.1 x.2.1)
theorem zq273 : TrOk Tryz.prog 91 zq270:=by
 have h : zq1017 (zq504 Tryz.f91) = []:=by kernel_rfl
 refine zq506 zq272 Tryz.func91 (zq439 h lsNil) _ _ _ (fun x => ?_)
 kernel_rfl
def zq945 : Env:=mkEnv ty fnB [(55,zq344)] []
theorem zq946 : EnvOk Tryz.prog zq945:=envOk tyOk fn_ok (zq466 zq348 zq467) _
def zq944 : Con:=con [.one (.fl .lease),.one (.fl .lease)] [.one (.fl .int)] (fun x => zq948 x.1 x.2.1)
theorem zq947 : TrOk Tryz.prog 69 zq944:=by
 have h : zq1017 (zq504 Tryz.f69) = []:=by kernel_rfl
 refine zq506 zq946 Tryz.func69 (zq439 h lsNil) _ _ _ (fun x => ?_)
 kernel_rfl
def zq836 : Env:=mkEnv ty fnB [(44,zq830),(21,zq857)] []
theorem zq837 : EnvOk Tryz.prog zq836:=envOk tyOk fn_ok (zq466 zq833 (zq466 zq860 zq467)) _
def zq835 : Con:=con [] [.agg [.fl .pfx,.row .addr 28]] (fun x => zq839)
theorem zq838 : TrOk Tryz.prog 22 zq835:=by
 have h : zq1017 (zq504 Tryz.f22) = []:=by kernel_rfl
 refine zq506 zq837 Tryz.func22 (zq439 h lsNil) _ _ _ (fun x => ?_)
 kernel_rfl
def zq890 : Env:=mkEnv ty fnB [(42,zq874),(43,zq906)] []
theorem zq891 : EnvOk Tryz.prog zq890:=envOk tyOk fn_ok (zq466 zq878 (zq466 zq910 zq467)) _
def zq889 : Con:=con [.one (.row .lease 52),.one (.fl .int)] [.one (.row .lease 52),.one (.fl .int),.one (.fl .int)] (fun x => zq894 x.1 x.2.1)
theorem zq893 : TrOk Tryz.prog 12 zq889:=by
 have h : zq1017 (zq504 Tryz.f12) = []:=by kernel_rfl
 refine zq506 zq891 Tryz.func12 (zq439 h lsNil) _ _ _ (fun x => ?_)
 kernel_rfl
def zq808 : LoopS:={ n:=40,base:=3,head:={ keep:=[1,2,3,4],vals:=[.one (.cst (.ptr 3 0)),.one (.cst (.ptr 4 0)),.one (.cst (.ptr 5 0)),.one (.fl .int)],objs:=[.bag .addr 28 false false,.nest .pfx 0 35 false,.row .lease 52 false,.blk [.cst (.row 1),.cst (.row 2),.fl .int] 25 true,.blk [.cst (.row 6),.cst (.row 7),.fl .int] 25 true,.blk [.cst (.row 8),.cst (.row 9),.fl .int] 25 true,.nest .pfx 10 35 true,.row .lease 52 true,.nest .pfx 11 35 true,.row .lease 52 true,.bag .addr 28 true true,.bag .addr 28 true true] },exits:=[⟨some 0,{ keep:=[2,3],vals:=[.one (.cst (.ptr 3 0)),.one (.cst (.ptr 4 0))],objs:=[.bag .addr 28 false false,.nest .pfx 0 35 false,.row .lease 52 false,.blk [.cst (.row 5),.cst (.row 6),.fl .int] 25 true,.blk [.cst (.row 7),.cst (.row 8),.fl .int] 25 true,.nest .pfx 9 35 true,.row .lease 52 true,.nest .pfx 10 35 true,.row .lease 52 true,.bag .addr 28 true true,.bag .addr 28 true true] }⟩] }
def zq811 : Env:=mkEnv ty fnB [] [(3,(zq1011 zq808 (loopN zq807 FUEL)))]
theorem zq812 : EnvOk Tryz.prog zq811:=envOk tyOk fn_ok zq467 _
theorem zq809 : LOk Tryz.prog (zq1091 (zq504 Tryz.f6) 0) (zq1011 zq808 (loopN zq807 FUEL)):=by
 have h : zq1017 (zq1091 (zq504 Tryz.f6) 0) = []:=by kernel_rfl
 refine zq1012 zq812 (zq1018 h lsNil) zq808 zq807 FUEL (fun rec x => ?_)
 kernel_rfl
def zq810 : Con:=con [.agg [.nest .pfx .addr 35 28 true,.row .lease 52,.fl .int]] [.agg [.nest .pfx .addr 35 28 true,.row .lease 52,.fl .int]] (fun x => zq815 x.1.1 x.1.2.1 x.1.2.2.1)
theorem zq814 : TrOk Tryz.prog 6 zq810:=by
 have h : zq1017 (zq504 Tryz.f6) = [(zq1091 (zq504 Tryz.f6) 0)]:=by kernel_rfl
 refine zq506 zq812 Tryz.func6 (zq439 h (zq1023 (zq1115 (t:=(zq1011 zq808 (loopN zq807 FUEL))) (by kernel_rfl) zq809) lsNil)) _ _ _ (fun x => ?_)
 kernel_rfl
def zq31 : Env:=mkEnv ty fnB [] []
theorem zq32 : EnvOk Tryz.prog zq31:=envOk tyOk fn_ok zq467 _
def zq30 : Con:=con [.one (.fl .addr)] [.one (.fl .int)] (fun x => zq35 x.1)
theorem zq34 : TrOk Tryz.prog 58 zq30:=by
 have h : zq1017 (zq504 Tryz.f58) = []:=by kernel_rfl
 refine zq506 zq32 Tryz.func58 (zq439 h lsNil) _ _ _ (fun x => ?_)
 kernel_rfl
def zq251 : Env:=mkEnv ty fnB [] []
theorem zq252 : EnvOk Tryz.prog zq251:=envOk tyOk fn_ok zq467 _
def zq250 : Con:=con [.one (.fl .addr)] [.one (.fl .int)] (fun x => zq255 x.1)
theorem zq254 : TrOk Tryz.prog 83 zq250:=by
 have h : zq1017 (zq504 Tryz.f83) = []:=by kernel_rfl
 refine zq506 zq252 Tryz.func83 (zq439 h lsNil) _ _ _ (fun x => ?_)
 kernel_rfl
def zq236 : Env:=mkEnv ty fnB [] []
theorem zq237 : EnvOk Tryz.prog zq236:=envOk tyOk fn_ok zq467 _
def zq235 : Con:=con [.one (.fl .int),.one (.fl .int),.one (.fl .int)] [.one (.fl .bool)] (fun x => zq240 x.1 x.2.1 x.2.2.1)
theorem zq239 : TrOk Tryz.prog 28 zq235:=by
 have h : zq1017 (zq504 Tryz.f28) = []:=by kernel_rfl
 refine zq506 zq237 Tryz.func28 (zq439 h lsNil) _ _ _ (fun x => ?_)
 kernel_rfl
def zq19 : LoopS:={ n:=42,base:=0,head:={ keep:=[1,3,4],vals:=[.one (.cst (.ptr 0 0)),.one (.cst (.row 1)),.one (.fl .int)],objs:=[.blk [.fl .addr] 28 true,.row .u8 5 true] },exits:=[⟨some 0,{ keep:=[1,3],vals:=[.one (.cst (.ptr 0 0)),.one (.cst (.row 1))],objs:=[.blk [.fl .addr] 28 true,.row .u8 5 true] }⟩] }
def zq22 : LoopS:={ n:=42,base:=0,head:={ keep:=[1,3,5],vals:=[.one (.cst (.ptr 0 0)),.one (.cst (.row 1)),.one (.fl .int)],objs:=[.blk [.fl .addr] 28 true,.row .u8 5 true] },exits:=[⟨some 2,{ keep:=[1,3],vals:=[.one (.cst (.ptr 0 0)),.one (.cst (.row 1))],objs:=[.blk [.fl .addr] 28 true,.row .u8 5 true] }⟩] }
def zq25 : Env:=mkEnv ty fnB [] [(3,(zq1011 zq19 (loopN zq18 FUEL))),(7,(zq1011 zq22 (loopN zq21 FUEL)))]
theorem zq26 : EnvOk Tryz.prog zq25:=envOk tyOk fn_ok zq467 _
theorem zq23 : LOk Tryz.prog (zq1091 (zq504 Tryz.f61) 1) (zq1011 zq22 (loopN zq21 FUEL)):=by
 have h : zq1017 (zq1091 (zq504 Tryz.f61) 1) = []:=by kernel_rfl
 refine zq1012 zq26 (zq1018 h lsNil) zq22 zq21 FUEL (fun rec x => ?_)
 kernel_rfl
theorem zq20 : LOk Tryz.prog (zq1091 (zq504 Tryz.f61) 0) (zq1011 zq19 (loopN zq18 FUEL)):=by
 have h : zq1017 (zq1091 (zq504 Tryz.f61) 0) = []:=by kernel_rfl
 refine zq1012 zq26 (zq1018 h lsNil) zq19 zq18 FUEL (fun rec x => ?_)
 kernel_rfl
def zq24 : Con:=con [.one (.fl .addr)] [.one (.fl .str)] (fun x => zq29 x.1)
theorem zq28 : TrOk Tryz.prog 61 zq24:=by
 have h : zq1017 (zq504 Tryz.f61) = [(zq1091 (zq504 Tryz.f61) 0),(zq1091 (zq504 Tryz.f61) 1)]:=by kernel_rfl
 refine zq506 zq26 Tryz.func61 (zq439 h (zq1023 (zq1115 (t:=(zq1011 zq19 (loopN zq18 FUEL))) (by kernel_rfl) zq20) (zq1023 (zq1115 (t:=(zq1011 zq22 (loopN zq21 FUEL))) (by kernel_rfl) zq23) lsNil))) _ _ _ (fun x => ?_)
 kernel_rfl
def zq64 : LoopS:={ n:=34,base:=0,head:={ keep:=[4,5],vals:=[.one (.fl .str),.one (.fl .int)],objs:=[] },exits:=[⟨none,{ keep:=[2],vals:=[.one (.fl .int)],objs:=[] }⟩,⟨some 0,{ keep:=[],vals:=[],objs:=[] }⟩] }
def zq67 : Env:=mkEnv ty fnB [(58,zq30),(83,zq250),(28,zq235),(61,zq24)] [(8,(zq1011 zq64 (loopN zq63 FUEL)))]
theorem zq68 : EnvOk Tryz.prog zq67:=envOk tyOk fn_ok (zq466 zq34 (zq466 zq254 (zq466 zq239 (zq466 zq28 zq467)))) _
theorem zq65 : LOk Tryz.prog (zq1091 (zq504 Tryz.f56) 0) (zq1011 zq64 (loopN zq63 FUEL)):=by
 have h : zq1017 (zq1091 (zq504 Tryz.f56) 0) = []:=by kernel_rfl
 refine zq1012 zq68 (zq1018 h lsNil) zq64 zq63 FUEL (fun rec x => ?_)
 kernel_rfl
def zq66 : Con:=con [.one (.fl .pfx)] [.one (.fl .int)] (fun x => zq71 x.1)
theorem zq70 : TrOk Tryz.prog 56 zq66:=by
 have h : zq1017 (zq504 Tryz.f56) = [(zq1091 (zq504 Tryz.f56) 0)]:=by kernel_rfl
 refine zq506 zq68 Tryz.func56 (zq439 h (zq1023 (zq1115 (t:=(zq1011 zq64 (loopN zq63 FUEL))) (by kernel_rfl) zq65) lsNil)) _ _ _ (fun x => ?_)
 kernel_rfl
def zq157 : Env:=mkEnv ty fnB [(83,zq250)] []
theorem zq158 : EnvOk Tryz.prog zq157:=envOk tyOk fn_ok (zq466 zq254 zq467) _
def zq156 : Con:=con [.one (.fl .pfx)] [.one (.fl .bool)] (fun x => zq161 x.1)
theorem zq160 : TrOk Tryz.prog 57 zq156:=by
 have h : zq1017 (zq504 Tryz.f57) = []:=by kernel_rfl
 refine zq506 zq158 Tryz.func57 (zq439 h lsNil) _ _ _ (fun x => ?_)
 kernel_rfl
def zq136 : Env:=mkEnv ty fnB [(61,zq24)] []
theorem zq137 : EnvOk Tryz.prog zq136:=envOk tyOk fn_ok (zq466 zq28 zq467) _
def zq135 : Con:=con [.one (.fl .pfx),.one (.fl .addr)] [.one (.fl .bool)] (fun x => zq140 x.1 x.2.1)
theorem zq139 : TrOk Tryz.prog 35 zq135:=by
 have h : zq1017 (zq504 Tryz.f35) = []:=by kernel_rfl
 refine zq506 zq137 Tryz.func35 (zq439 h lsNil) _ _ _ (fun x => ?_)
 kernel_rfl
def zq148 : LoopS:={ n:=39,base:=0,head:={ keep:=[5,6,7],vals:=[.one (.fl .str),.one (.fl .str),.one (.fl .int)],objs:=[] },exits:=[⟨none,{ keep:=[4],vals:=[.one (.fl .bool)],objs:=[] }⟩,⟨some 0,{ keep:=[],vals:=[],objs:=[] }⟩] }
def zq151 : Env:=mkEnv ty fnB [(61,zq24)] [(5,(zq1011 zq148 (loopN zq147 FUEL)))]
theorem zq152 : EnvOk Tryz.prog zq151:=envOk tyOk fn_ok (zq466 zq28 zq467) _
theorem zq149 : LOk Tryz.prog (zq1091 (zq504 Tryz.f34) 0) (zq1011 zq148 (loopN zq147 FUEL)):=by
 have h : zq1017 (zq1091 (zq504 Tryz.f34) 0) = []:=by kernel_rfl
 refine zq1012 zq152 (zq1018 h lsNil) zq148 zq147 FUEL (fun rec x => ?_)
 kernel_rfl
def zq150 : Con:=con [.one (.fl .addr),.one (.fl .addr)] [.one (.fl .bool)] (fun x => zq155 x.1 x.2.1)
theorem zq154 : TrOk Tryz.prog 34 zq150:=by
 have h : zq1017 (zq504 Tryz.f34) = [(zq1091 (zq504 Tryz.f34) 0)]:=by kernel_rfl
 refine zq506 zq152 Tryz.func34 (zq439 h (zq1023 (zq1115 (t:=(zq1011 zq148 (loopN zq147 FUEL))) (by kernel_rfl) zq149) lsNil)) _ _ _ (fun x => ?_)
 kernel_rfl
def zq55 : LoopS:={ n:=64,base:=1,head:={ keep:=[1,4],vals:=[.one (.cst (.ptr 1 0)),.one (.fl .int)],objs:=[.row .addr 28 false,.blk [.fl .bool,.fl .u64,.fl .u64,.fl .int,.cst (.row 0)] 35 true] },exits:=[⟨none,{ keep:=[2],vals:=[.one (.fl .int)],objs:=[.row .addr 28 false] }⟩,⟨some 0,{ keep:=[],vals:=[],objs:=[.row .addr 28 false] }⟩] }
def zq58 : Env:=mkEnv ty fnB [(56,zq66),(57,zq156),(58,zq30),(35,zq135),(34,zq150)] [(7,(zq1011 zq55 (loopN zq54 FUEL)))]
theorem zq59 : EnvOk Tryz.prog zq58:=envOk tyOk fn_ok (zq466 zq70 (zq466 zq160 (zq466 zq34 (zq466 zq139 (zq466 zq154 zq467))))) _
theorem zq56 : LOk Tryz.prog (zq1091 (zq504 Tryz.f25) 0) (zq1011 zq55 (loopN zq54 FUEL)):=by
 have h : zq1017 (zq1091 (zq504 Tryz.f25) 0) = []:=by kernel_rfl
 refine zq1012 zq59 (zq1018 h lsNil) zq55 zq54 FUEL (fun rec x => ?_)
 kernel_rfl
def zq57 : Con:=con [.agg [.fl .pfx,.row .addr 28]] [.one (.fl .int)] (fun x => zq62 x.1.1 x.1.2.1)
theorem zq61 : TrOk Tryz.prog 25 zq57:=by
 have h : zq1017 (zq504 Tryz.f25) = [(zq1091 (zq504 Tryz.f25) 0)]:=by kernel_rfl
 refine zq506 zq59 Tryz.func25 (zq439 h (zq1023 (zq1115 (t:=(zq1011 zq55 (loopN zq54 FUEL))) (by kernel_rfl) zq56) lsNil)) _ _ _ (fun x => ?_)
 kernel_rfl
def zq194 : Env:=mkEnv ty fnB [(34,zq150)] []
theorem zq195 : EnvOk Tryz.prog zq194:=envOk tyOk fn_ok (zq466 zq154 zq467) _
def zq193 : Con:=con [.one (.fl .pfx),.one (.fl .pfx)] [.one (.fl .bool)] (fun x => zq198 x.1 x.2.1)
theorem zq197 : TrOk Tryz.prog 26 zq193:=by
 have h : zq1017 (zq504 Tryz.f26) = []:=by kernel_rfl
 refine zq506 zq195 Tryz.func26 (zq439 h lsNil) _ _ _ (fun x => ?_)
 kernel_rfl
def zq142 : Env:=mkEnv ty fnB [(35,zq135)] []
theorem zq143 : EnvOk Tryz.prog zq142:=envOk tyOk fn_ok (zq466 zq139 zq467) _
def zq141 : Con:=con [.one (.fl .pfx),.one (.fl .pfx)] [.one (.fl .bool)] (fun x => zq146 x.1 x.2.1)
theorem zq145 : TrOk Tryz.prog 59 zq141:=by
 have h : zq1017 (zq504 Tryz.f59) = []:=by kernel_rfl
 refine zq506 zq143 Tryz.func59 (zq439 h lsNil) _ _ _ (fun x => ?_)
 kernel_rfl
def zq91 : Env:=mkEnv ty fnB [(59,zq141)] []
theorem zq92 : EnvOk Tryz.prog zq91:=envOk tyOk fn_ok (zq466 zq145 zq467) _
def zq90 : Con:=con [.one (.fl .pfx),.one (.fl .pfx)] [.one (.fl .bool)] (fun x => zq95 x.1 x.2.1)
theorem zq94 : TrOk Tryz.prog 27 zq90:=by
 have h : zq1017 (zq504 Tryz.f27) = []:=by kernel_rfl
 refine zq506 zq92 Tryz.func27 (zq439 h lsNil) _ _ _ (fun x => ?_)
 kernel_rfl
def zq163 : LoopS:={ n:=27,base:=0,head:={ keep:=[0,3],vals:=[.one (.fl .str),.one (.fl .int)],objs:=[] },exits:=[⟨none,{ keep:=[2],vals:=[.one (.fl .bool)],objs:=[] }⟩,⟨some 0,{ keep:=[0],vals:=[.one (.fl .str)],objs:=[] }⟩] }
def zq166 : Env:=mkEnv ty fnB [(28,zq235)] [(2,(zq1011 zq163 (loopN zq162 FUEL)))]
theorem zq167 : EnvOk Tryz.prog zq166:=envOk tyOk fn_ok (zq466 zq239 zq467) _
theorem zq164 : LOk Tryz.prog (zq1091 (zq504 Tryz.f60) 0) (zq1011 zq163 (loopN zq162 FUEL)):=by
 have h : zq1017 (zq1091 (zq504 Tryz.f60) 0) = []:=by kernel_rfl
 refine zq1012 zq167 (zq1018 h lsNil) zq163 zq162 FUEL (fun rec x => ?_)
 kernel_rfl
def zq165 : Con:=con [.one (.fl .str)] [.one (.fl .bool)] (fun x => zq170 x.1)
theorem zq169 : TrOk Tryz.prog 60 zq165:=by
 have h : zq1017 (zq504 Tryz.f60) = [(zq1091 (zq504 Tryz.f60) 0)]:=by kernel_rfl
 refine zq506 zq167 Tryz.func60 (zq439 h (zq1023 (zq1115 (t:=(zq1011 zq163 (loopN zq162 FUEL))) (by kernel_rfl) zq164) lsNil)) _ _ _ (fun x => ?_)
 kernel_rfl
def zq40 : LoopS:={ n:=62,base:=1,head:={ keep:=[0,1,5],vals:=[.one (.cst (.row 0)),.one (.fl .int),.one (.fl .int)],objs:=[.row .lease 52 false] },exits:=[⟨none,{ keep:=[4],vals:=[.one (.fl .int)],objs:=[.row .lease 52 false] }⟩,⟨some 0,{ keep:=[0,1],vals:=[.one (.cst (.row 0)),.one (.fl .int)],objs:=[.row .lease 52 false] }⟩] }
def zq37 : LoopS:={ n:=62,base:=1,head:={ keep:=[0,1,7],vals:=[.one (.cst (.row 0)),.one (.fl .int),.one (.fl .int)],objs:=[.row .lease 52 false] },exits:=[⟨none,{ keep:=[4],vals:=[.one (.fl .int)],objs:=[.row .lease 52 false] }⟩,⟨some 2,{ keep:=[1],vals:=[.one (.fl .int)],objs:=[.row .lease 52 false] }⟩] }
def zq43 : Env:=mkEnv ty fnB [(58,zq30),(60,zq165),(28,zq235),(34,zq150)] [(4,(zq1011 zq40 (loopN zq39 FUEL))),(14,(zq1011 zq37 (loopN zq36 FUEL)))]
theorem zq44 : EnvOk Tryz.prog zq43:=envOk tyOk fn_ok (zq466 zq34 (zq466 zq169 (zq466 zq239 (zq466 zq154 zq467)))) _
theorem zq38 : LOk Tryz.prog (zq1091 (zq504 Tryz.f29) 1) (zq1011 zq37 (loopN zq36 FUEL)):=by
 have h : zq1017 (zq1091 (zq504 Tryz.f29) 1) = []:=by kernel_rfl
 refine zq1012 zq44 (zq1018 h lsNil) zq37 zq36 FUEL (fun rec x => ?_)
 kernel_rfl
theorem zq41 : LOk Tryz.prog (zq1091 (zq504 Tryz.f29) 0) (zq1011 zq40 (loopN zq39 FUEL)):=by
 have h : zq1017 (zq1091 (zq504 Tryz.f29) 0) = []:=by kernel_rfl
 refine zq1012 zq44 (zq1018 h lsNil) zq40 zq39 FUEL (fun rec x => ?_)
 kernel_rfl
def zq42 : Con:=con [.one (.row .lease 52),.one (.fl .int)] [.one (.fl .int)] (fun x => zq47 x.1 x.2.1)
theorem zq46 : TrOk Tryz.prog 29 zq42:=by
 have h : zq1017 (zq504 Tryz.f29) = [(zq1091 (zq504 Tryz.f29) 0),(zq1091 (zq504 Tryz.f29) 1)]:=by kernel_rfl
 refine zq506 zq44 Tryz.func29 (zq439 h (zq1023 (zq1115 (t:=(zq1011 zq40 (loopN zq39 FUEL))) (by kernel_rfl) zq41) (zq1023 (zq1115 (t:=(zq1011 zq37 (loopN zq36 FUEL))) (by kernel_rfl) zq38) lsNil))) _ _ _ (fun x => ?_)
 kernel_rfl
def zq185 : LoopS:={ n:=22,base:=3,head:={ keep:=[2,3,5],vals:=[.one (.cst (.ptr 3 0)),.one (.cst (.ptr 4 0)),.one (.fl .int)],objs:=[.bag .addr 28 false false,.nest .pfx 0 35 false,.row .lease 52 false,.blk [.cst (.row 1),.cst (.row 2),.fl .int] 25 true,.blk [.fl .addr] 28 true] },exits:=[⟨none,{ keep:=[4],vals:=[.one (.fl .int)],objs:=[.bag .addr 28 false false,.nest .pfx 0 35 false,.row .lease 52 false] }⟩,⟨some 0,{ keep:=[],vals:=[],objs:=[.bag .addr 28 false false,.nest .pfx 0 35 false,.row .lease 52 false] }⟩] }
def zq188 : Env:=mkEnv ty fnB [(35,zq135)] [(2,(zq1011 zq185 (loopN zq184 FUEL)))]
theorem zq189 : EnvOk Tryz.prog zq188:=envOk tyOk fn_ok (zq466 zq139 zq467) _
theorem zq186 : LOk Tryz.prog (zq1091 (zq504 Tryz.f30) 0) (zq1011 zq185 (loopN zq184 FUEL)):=by
 have h : zq1017 (zq1091 (zq504 Tryz.f30) 0) = []:=by kernel_rfl
 refine zq1012 zq189 (zq1018 h lsNil) zq185 zq184 FUEL (fun rec x => ?_)
 kernel_rfl
def zq187 : Con:=con [.agg [.nest .pfx .addr 35 28 true,.row .lease 52,.fl .int],.one (.fl .addr)] [.one (.fl .int)] (fun x => zq192 x.1.1 x.1.2.1 x.1.2.2.1 x.2.1)
theorem zq191 : TrOk Tryz.prog 30 zq187:=by
 have h : zq1017 (zq504 Tryz.f30) = [(zq1091 (zq504 Tryz.f30) 0)]:=by kernel_rfl
 refine zq506 zq189 Tryz.func30 (zq439 h (zq1023 (zq1115 (t:=(zq1011 zq185 (loopN zq184 FUEL))) (by kernel_rfl) zq186) lsNil)) _ _ _ (fun x => ?_)
 kernel_rfl
def zq227 : LoopS:={ n:=20,base:=1,head:={ keep:=[0,1,5],vals:=[.one (.cst (.row 0)),.one (.fl .str),.one (.fl .int)],objs:=[.row .lease 52 false] },exits:=[⟨none,{ keep:=[4],vals:=[.one (.fl .int)],objs:=[.row .lease 52 false] }⟩,⟨some 0,{ keep:=[],vals:=[],objs:=[.row .lease 52 false] }⟩] }
def zq230 : Env:=mkEnv ty fnB [] [(2,(zq1011 zq227 (loopN zq226 FUEL)))]
theorem zq231 : EnvOk Tryz.prog zq230:=envOk tyOk fn_ok zq467 _
theorem zq228 : LOk Tryz.prog (zq1091 (zq504 Tryz.f31) 0) (zq1011 zq227 (loopN zq226 FUEL)):=by
 have h : zq1017 (zq1091 (zq504 Tryz.f31) 0) = []:=by kernel_rfl
 refine zq1012 zq231 (zq1018 h lsNil) zq227 zq226 FUEL (fun rec x => ?_)
 kernel_rfl
def zq229 : Con:=con [.one (.row .lease 52),.one (.fl .str)] [.one (.fl .int)] (fun x => zq234 x.1 x.2.1)
theorem zq233 : TrOk Tryz.prog 31 zq229:=by
 have h : zq1017 (zq504 Tryz.f31) = [(zq1091 (zq504 Tryz.f31) 0)]:=by kernel_rfl
 refine zq506 zq231 Tryz.func31 (zq439 h (zq1023 (zq1115 (t:=(zq1011 zq227 (loopN zq226 FUEL))) (by kernel_rfl) zq228) lsNil)) _ _ _ (fun x => ?_)
 kernel_rfl
def zq82 : LoopS:={ n:=124,base:=3,head:={ keep:=[1,3],vals:=[.one (.cst (.ptr 3 0)),.one (.fl .int)],objs:=[.bag .addr 28 false false,.nest .pfx 0 35 false,.row .lease 52 false,.blk [.cst (.row 1),.cst (.row 2),.fl .int] 25 true] },exits:=[⟨none,{ keep:=[2],vals:=[.one (.fl .int)],objs:=[.bag .addr 28 false false,.nest .pfx 0 35 false,.row .lease 52 false] }⟩,⟨some 0,{ keep:=[1],vals:=[.one (.cst (.ptr 3 0))],objs:=[.bag .addr 28 false false,.nest .pfx 0 35 false,.row .lease 52 false,.blk [.cst (.row 1),.cst (.row 2),.fl .int] 25 true] }⟩] }
def zq76 : LoopS:={ n:=124,base:=3,head:={ keep:=[1,5,6],vals:=[.one (.cst (.ptr 3 0)),.one (.fl .int),.one (.fl .int)],objs:=[.bag .addr 28 false false,.nest .pfx 0 35 false,.row .lease 52 false,.blk [.cst (.row 1),.cst (.row 2),.fl .int] 25 true] },exits:=[⟨none,{ keep:=[2],vals:=[.one (.fl .int)],objs:=[.bag .addr 28 false false,.nest .pfx 0 35 false,.row .lease 52 false] }⟩,⟨some 4,{ keep:=[1,5],vals:=[.one (.cst (.ptr 3 0)),.one (.fl .int)],objs:=[.bag .addr 28 false false,.nest .pfx 0 35 false,.row .lease 52 false,.blk [.cst (.row 1),.cst (.row 2),.fl .int] 25 true] }⟩] }
def zq73 : LoopS:={ n:=124,base:=3,head:={ keep:=[1,5],vals:=[.one (.cst (.ptr 3 0)),.one (.fl .int)],objs:=[.bag .addr 28 false false,.nest .pfx 0 35 false,.row .lease 52 false,.blk [.cst (.row 1),.cst (.row 2),.fl .int] 25 true] },exits:=[⟨none,{ keep:=[2],vals:=[.one (.fl .int)],objs:=[.bag .addr 28 false false,.nest .pfx 0 35 false,.row .lease 52 false] }⟩,⟨some 2,{ keep:=[1],vals:=[.one (.cst (.ptr 3 0))],objs:=[.bag .addr 28 false false,.nest .pfx 0 35 false,.row .lease 52 false,.blk [.cst (.row 1),.cst (.row 2),.fl .int] 25 true] }⟩] }
def zq79 : LoopS:={ n:=124,base:=3,head:={ keep:=[1,7,8],vals:=[.one (.cst (.ptr 3 0)),.one (.fl .int),.one (.fl .int)],objs:=[.bag .addr 28 false false,.nest .pfx 0 35 false,.row .lease 52 false,.blk [.cst (.row 1),.cst (.row 2),.fl .int] 25 true] },exits:=[⟨some 6,{ keep:=[7],vals:=[.one (.fl .int)],objs:=[.bag .addr 28 false false,.nest .pfx 0 35 false,.row .lease 52 false] }⟩] }
def zq85 : Env:=mkEnv ty fnB [(25,zq57),(26,zq193),(27,zq90),(28,zq235),(29,zq42),(30,zq187),(31,zq229)] [(4,(zq1011 zq82 (loopN zq81 FUEL))),(13,(zq1011 zq76 (loopN zq75 FUEL))),(10,(zq1011 zq73 (loopN zq72 FUEL))),(21,(zq1011 zq79 (loopN zq78 FUEL)))]
theorem zq86 : EnvOk Tryz.prog zq85:=envOk tyOk fn_ok (zq466 zq61 (zq466 zq197 (zq466 zq94 (zq466 zq239 (zq466 zq46 (zq466 zq191 (zq466 zq233 zq467))))))) _
theorem zq77 : LOk Tryz.prog (zq1091 (zq1091 (zq504 Tryz.f7) 1) 0) (zq1011 zq76 (loopN zq75 FUEL)):=by
 have h : zq1017 (zq1091 (zq1091 (zq504 Tryz.f7) 1) 0) = []:=by kernel_rfl
 refine zq1012 zq86 (zq1018 h lsNil) zq76 zq75 FUEL (fun rec x => ?_)
 kernel_rfl
theorem zq80 : LOk Tryz.prog (zq1091 (zq504 Tryz.f7) 2) (zq1011 zq79 (loopN zq78 FUEL)):=by
 have h : zq1017 (zq1091 (zq504 Tryz.f7) 2) = []:=by kernel_rfl
 refine zq1012 zq86 (zq1018 h lsNil) zq79 zq78 FUEL (fun rec x => ?_)
 kernel_rfl
theorem zq83 : LOk Tryz.prog (zq1091 (zq504 Tryz.f7) 0) (zq1011 zq82 (loopN zq81 FUEL)):=by
 have h : zq1017 (zq1091 (zq504 Tryz.f7) 0) = []:=by kernel_rfl
 refine zq1012 zq86 (zq1018 h lsNil) zq82 zq81 FUEL (fun rec x => ?_)
 kernel_rfl
theorem zq74 : LOk Tryz.prog (zq1091 (zq504 Tryz.f7) 1) (zq1011 zq73 (loopN zq72 FUEL)):=by
 have h : zq1017 (zq1091 (zq504 Tryz.f7) 1) = [(zq1091 (zq1091 (zq504 Tryz.f7) 1) 0)]:=by kernel_rfl
 refine zq1012 zq86 (zq1018 h (zq1023 (zq1115 (t:=(zq1011 zq76 (loopN zq75 FUEL))) (by kernel_rfl) zq77) lsNil)) zq73 zq72 FUEL (fun rec x => ?_)
 kernel_rfl
def zq84 : Con:=con [.agg [.nest .pfx .addr 35 28 true,.row .lease 52,.fl .int]] [.one (.fl .int)] (fun x => zq89 x.1.1 x.1.2.1 x.1.2.2.1)
theorem zq88 : TrOk Tryz.prog 7 zq84:=by
 have h : zq1017 (zq504 Tryz.f7) = [(zq1091 (zq504 Tryz.f7) 0),(zq1091 (zq504 Tryz.f7) 1),(zq1091 (zq504 Tryz.f7) 2)]:=by kernel_rfl
 refine zq506 zq86 Tryz.func7 (zq439 h (zq1023 (zq1115 (t:=(zq1011 zq82 (loopN zq81 FUEL))) (by kernel_rfl) zq83) (zq1023 (zq1115 (t:=(zq1011 zq73 (loopN zq72 FUEL))) (by kernel_rfl) zq74) (zq1023 (zq1115 (t:=(zq1011 zq79 (loopN zq78 FUEL))) (by kernel_rfl) zq80) lsNil)))) _ _ _ (fun x => ?_)
 kernel_rfl
def zq49 : Env:=mkEnv ty fnB [(28,zq235),(56,zq66),(57,zq156),(58,zq30),(60,zq165)] []
theorem zq50 : EnvOk Tryz.prog zq49:=envOk tyOk fn_ok (zq466 zq239 (zq466 zq70 (zq466 zq160 (zq466 zq34 (zq466 zq169 zq467))))) _
def zq48 : Con:=con [.one (.fl .op)] [.one (.fl .int)] (fun x => zq53 x.1)
theorem zq52 : TrOk Tryz.prog 32 zq48:=by
 have h : zq1017 (zq504 Tryz.f32) = []:=by kernel_rfl
 refine zq506 zq50 Tryz.func32 (zq439 h lsNil) _ _ _ (fun x => ?_)
 kernel_rfl
def zq242 : LoopS:={ n:=18,base:=1,head:={ keep:=[0,3,5],vals:=[.one (.cst (.row 0)),.one (.cst (.ptr 1 0)),.one (.fl .int)],objs:=[.row .addr 28 false,.blk [.fl .addr] 28 true] },exits:=[⟨none,{ keep:=[4],vals:=[.one (.fl .bool)],objs:=[.row .addr 28 false] }⟩,⟨some 0,{ keep:=[],vals:=[],objs:=[.row .addr 28 false] }⟩] }
def zq245 : Env:=mkEnv ty fnB [] [(2,(zq1011 zq242 (loopN zq241 FUEL)))]
theorem zq246 : EnvOk Tryz.prog zq245:=envOk tyOk fn_ok zq467 _
theorem zq243 : LOk Tryz.prog (zq1091 (zq504 Tryz.f33) 0) (zq1011 zq242 (loopN zq241 FUEL)):=by
 have h : zq1017 (zq1091 (zq504 Tryz.f33) 0) = []:=by kernel_rfl
 refine zq1012 zq246 (zq1018 h lsNil) zq242 zq241 FUEL (fun rec x => ?_)
 kernel_rfl
def zq244 : Con:=con [.one (.row .addr 28),.one (.fl .addr)] [.one (.fl .bool)] (fun x => zq249 x.1 x.2.1)
theorem zq248 : TrOk Tryz.prog 33 zq244:=by
 have h : zq1017 (zq504 Tryz.f33) = [(zq1091 (zq504 Tryz.f33) 0)]:=by kernel_rfl
 refine zq506 zq246 Tryz.func33 (zq439 h (zq1023 (zq1115 (t:=(zq1011 zq242 (loopN zq241 FUEL))) (by kernel_rfl) zq243) lsNil)) _ _ _ (fun x => ?_)
 kernel_rfl
def zq172 : LoopS:={ n:=28,base:=1,head:={ keep:=[0,1,5,6],vals:=[.one (.cst (.row 0)),.one (.fl .int),.one (.cst (.row 1)),.one (.fl .int)],objs:=[.row .lease 52 false,.row .lease 52 true] },exits:=[⟨some 0,{ keep:=[5],vals:=[.one (.cst (.row 1))],objs:=[.row .lease 52 false,.row .lease 52 true] }⟩] }
def zq175 : Env:=mkEnv ty fnB [] [(3,(zq1011 zq172 (loopN zq171 FUEL)))]
theorem zq176 : EnvOk Tryz.prog zq175:=envOk tyOk fn_ok zq467 _
theorem zq173 : LOk Tryz.prog (zq1091 (zq504 Tryz.f37) 0) (zq1011 zq172 (loopN zq171 FUEL)):=by
 have h : zq1017 (zq1091 (zq504 Tryz.f37) 0) = []:=by kernel_rfl
 refine zq1012 zq176 (zq1018 h lsNil) zq172 zq171 FUEL (fun rec x => ?_)
 kernel_rfl
def zq174 : Con:=con [.one (.row .lease 52),.one (.fl .int)] [.one (.row .lease 52)] (fun x => zq179 x.1 x.2.1)
theorem zq178 : TrOk Tryz.prog 37 zq174:=by
 have h : zq1017 (zq504 Tryz.f37) = [(zq1091 (zq504 Tryz.f37) 0)]:=by kernel_rfl
 refine zq506 zq176 Tryz.func37 (zq439 h (zq1023 (zq1115 (t:=(zq1011 zq172 (loopN zq171 FUEL))) (by kernel_rfl) zq173) lsNil)) _ _ _ (fun x => ?_)
 kernel_rfl
def zq10 : LoopS:={ n:=39,base:=0,head:={ keep:=[0,2,3,4],vals:=[.one (.fl .str),.one (.cst (.ptr 0 0)),.one (.cst (.ptr 1 0)),.one (.fl .int)],objs:=[.blk [.fl .addr] 28 true,.blk [.fl .addr] 28 true] },exits:=[⟨some 0,{ keep:=[2,3],vals:=[.one (.cst (.ptr 0 0)),.one (.cst (.ptr 1 0))],objs:=[.blk [.fl .addr] 28 true,.blk [.fl .addr] 28 true] }⟩] }
def zq13 : Env:=mkEnv ty fnB [] [(3,(zq1011 zq10 (loopN zq9 FUEL)))]
theorem zq14 : EnvOk Tryz.prog zq13:=envOk tyOk fn_ok zq467 _
theorem zq11 : LOk Tryz.prog (zq1091 (zq504 Tryz.f84) 0) (zq1011 zq10 (loopN zq9 FUEL)):=by
 have h : zq1017 (zq1091 (zq504 Tryz.f84) 0) = []:=by kernel_rfl
 refine zq1012 zq14 (zq1018 h lsNil) zq10 zq9 FUEL (fun rec x => ?_)
 kernel_rfl
def zq12 : Con:=con [.one (.fl .str)] [.one (.fl .addr)] (fun x => zq17 x.1)
theorem zq16 : TrOk Tryz.prog 84 zq12:=by
 have h : zq1017 (zq504 Tryz.f84) = [(zq1091 (zq504 Tryz.f84) 0)]:=by kernel_rfl
 refine zq506 zq14 Tryz.func84 (zq439 h (zq1023 (zq1115 (t:=(zq1011 zq10 (loopN zq9 FUEL))) (by kernel_rfl) zq11) lsNil)) _ _ _ (fun x => ?_)
 kernel_rfl
def zq209 : LoopS:={ n:=26,base:=2,head:={ keep:=[0,1,5],vals:=[.one (.cst (.row 0)),.one (.cst (.row 1)),.one (.fl .int)],objs:=[.row .lease 52 false,.row .lease 52 false] },exits:=[⟨none,{ keep:=[4],vals:=[.one (.fl .bool)],objs:=[.row .lease 52 false,.row .lease 52 false] }⟩,⟨some 0,{ keep:=[],vals:=[],objs:=[.row .lease 52 false,.row .lease 52 false] }⟩] }
def zq212 : Env:=mkEnv ty fnB [] [(4,(zq1011 zq209 (loopN zq208 FUEL)))]
theorem zq213 : EnvOk Tryz.prog zq212:=envOk tyOk fn_ok zq467 _
theorem zq210 : LOk Tryz.prog (zq1091 (zq504 Tryz.f14) 0) (zq1011 zq209 (loopN zq208 FUEL)):=by
 have h : zq1017 (zq1091 (zq504 Tryz.f14) 0) = []:=by kernel_rfl
 refine zq1012 zq213 (zq1018 h lsNil) zq209 zq208 FUEL (fun rec x => ?_)
 kernel_rfl
def zq211 : Con:=con [.one (.row .lease 52),.one (.row .lease 52)] [.one (.fl .bool)] (fun x => zq216 x.1 x.2.1)
theorem zq215 : TrOk Tryz.prog 14 zq211:=by
 have h : zq1017 (zq504 Tryz.f14) = [(zq1091 (zq504 Tryz.f14) 0)]:=by kernel_rfl
 refine zq506 zq213 Tryz.func14 (zq439 h (zq1023 (zq1115 (t:=(zq1011 zq209 (loopN zq208 FUEL))) (by kernel_rfl) zq210) lsNil)) _ _ _ (fun x => ?_)
 kernel_rfl
def zq200 : LoopS:={ n:=26,base:=2,head:={ keep:=[0,1,5],vals:=[.one (.cst (.row 0)),.one (.cst (.row 1)),.one (.fl .int)],objs:=[.row .addr 28 false,.row .addr 28 false] },exits:=[⟨none,{ keep:=[4],vals:=[.one (.fl .bool)],objs:=[.row .addr 28 false,.row .addr 28 false] }⟩,⟨some 0,{ keep:=[],vals:=[],objs:=[.row .addr 28 false,.row .addr 28 false] }⟩] }
def zq203 : Env:=mkEnv ty fnB [] [(4,(zq1011 zq200 (loopN zq199 FUEL)))]
theorem zq204 : EnvOk Tryz.prog zq203:=envOk tyOk fn_ok zq467 _
theorem zq201 : LOk Tryz.prog (zq1091 (zq504 Tryz.f15) 0) (zq1011 zq200 (loopN zq199 FUEL)):=by
 have h : zq1017 (zq1091 (zq504 Tryz.f15) 0) = []:=by kernel_rfl
 refine zq1012 zq204 (zq1018 h lsNil) zq200 zq199 FUEL (fun rec x => ?_)
 kernel_rfl
def zq202 : Con:=con [.one (.row .addr 28),.one (.row .addr 28)] [.one (.fl .bool)] (fun x => zq207 x.1 x.2.1)
theorem zq205 : TrOk Tryz.prog 15 zq202:=by
 have h : zq1017 (zq504 Tryz.f15) = [(zq1091 (zq504 Tryz.f15) 0)]:=by kernel_rfl
 refine zq506 zq204 Tryz.func15 (zq439 h (zq1023 (zq1115 (t:=(zq1011 zq200 (loopN zq199 FUEL))) (by kernel_rfl) zq201) lsNil)) _ _ _ (fun x => ?_)
 kernel_rfl
def zq218 : LoopS:={ n:=64,base:=6,head:={ keep:=[2,3,5],vals:=[.one (.cst (.ptr 6 0)),.one (.cst (.ptr 7 0)),.one (.fl .int)],objs:=[.bag .addr 28 false false,.nest .pfx 0 35 false,.row .lease 52 false,.bag .addr 28 false false,.nest .pfx 3 35 false,.row .lease 52 false,.blk [.cst (.row 1),.cst (.row 2),.fl .int] 25 true,.blk [.cst (.row 4),.cst (.row 5),.fl .int] 25 true] },exits:=[⟨none,{ keep:=[4],vals:=[.one (.fl .bool)],objs:=[.bag .addr 28 false false,.nest .pfx 0 35 false,.row .lease 52 false,.bag .addr 28 false false,.nest .pfx 3 35 false,.row .lease 52 false] }⟩,⟨some 0,{ keep:=[],vals:=[],objs:=[.bag .addr 28 false false,.nest .pfx 0 35 false,.row .lease 52 false,.bag .addr 28 false false,.nest .pfx 3 35 false,.row .lease 52 false] }⟩] }
def zq221 : Env:=mkEnv ty fnB [(14,zq211),(15,zq202)] [(4,(zq1011 zq218 (loopN zq217 FUEL)))]
theorem zq222 : EnvOk Tryz.prog zq221:=envOk tyOk fn_ok (zq466 zq215 (zq466 zq205 zq467)) _
theorem zq219 : LOk Tryz.prog (zq1091 (zq504 Tryz.f13) 0) (zq1011 zq218 (loopN zq217 FUEL)):=by
 have h : zq1017 (zq1091 (zq504 Tryz.f13) 0) = []:=by kernel_rfl
 refine zq1012 zq222 (zq1018 h lsNil) zq218 zq217 FUEL (fun rec x => ?_)
 kernel_rfl
def zq220 : Con:=con [.agg [.nest .pfx .addr 35 28 true,.row .lease 52,.fl .int],.agg [.nest .pfx .addr 35 28 true,.row .lease 52,.fl .int]] [.one (.fl .bool)] (fun x => zq225 x.1.1 x.1.2.1 x.1.2.2.1 x.2.1.1 x.2.1.2.1 x.2.1.2.2.1)
theorem zq223 : TrOk Tryz.prog 13 zq220:=by
 have h : zq1017 (zq504 Tryz.f13) = [(zq1091 (zq504 Tryz.f13) 0)]:=by kernel_rfl
 refine zq506 zq222 Tryz.func13 (zq439 h (zq1023 (zq1115 (t:=(zq1011 zq218 (loopN zq217 FUEL))) (by kernel_rfl) zq219) lsNil)) _ _ _ (fun x => ?_)
 kernel_rfl
def zq852 : Env:=mkEnv ty fnB [(13,zq220)] []
theorem zq853 : EnvOk Tryz.prog zq852:=envOk tyOk fn_ok (zq466 zq223 zq467) _
def zq851 : Con:=con [.agg [.nest .pfx .addr 35 28 true,.row .lease 52,.fl .int],.one (.fl .int),.one (.fl .int),.agg [.nest .pfx .addr 35 28 true,.row .lease 52,.fl .int]] [.one (.fl .bool)] (fun x => zq856 x.1.1 x.1.2.1 x.1.2.2.1 x.2.1 x.2.2.1 x.2.2.2.1.1 x.2.2.2.1.2.1 x.2.2.2.1.2.2.1)
theorem zq855 : TrOk Tryz.prog 10 zq851:=by
 have h : zq1017 (zq504 Tryz.f10) = []:=by kernel_rfl
 refine zq506 zq853 Tryz.func10 (zq439 h lsNil) _ _ _ (fun x => ?_)
 kernel_rfl
end Go.Proofs.YtpnpfgihgfbipaaGreat
namespace Go.Proofs.YtpnpfgihgfbipaaGreat
open Go Go.Ma Go.RowKit Go.Shelf Go.Proofs
attribute [local go_sem] Oper.semAt_some
def adV (a : Ad) : Value:=.agg #[.bool a.v6,.int .u64 a.hi,.int .u64 a.lo]
def pfV (p : Pf) : Value:=.agg #[.bool p.ad.v6,.int .u64 p.ad.hi,.int .u64 p.ad.lo,.int .i64 p.bits]
def CKept (A B : World) : Prop:=∀ (b : Nat) (c : Array Value) (t : TypeId) (z : Nat × Nat),A.heap[b]? = some (Go.Obj.cells c t z) → B.heap[b]? = some (Go.Obj.cells c t z)
theorem zq669 {P : Program} {A B : World} (h : Glob P A) (k : CKept A B) : Glob P B:=by
 have key : ∀ (g : Nat) (v : Value),A.cell? ⟨g,0,none⟩ = some v → B.cell? ⟨g,0,none⟩ = some v:=fun g v hv => by
  cases ho : A.heap[g]? with
  | none => unfold World.cell? at hv;rw [ho] at hv;cases hv
  | some o =>
   cases o with
   | cells c t z =>
    have hb:=k g c t z ho
    unfold World.cell? at hv ⊢
    rw [ho] at hv
    rw [hb]
    exact hv
   | _ => unfold World.cell? at hv;rw [ho] at hv;simp at hv
 exact ⟨fun g hg => by obtain ⟨m,hm⟩:=h.num g hg;exact ⟨m,key g _ hm⟩,fun n g hn hg => by obtain ⟨ev,he,h2⟩:=h.err n g hn hg;exact ⟨ev,key g _ he,h2⟩,fun g hg => by obtain ⟨t,z,h1⟩:=h.pow g hg;exact ⟨t,z,k g _ t z h1⟩,fun g hg => by obtain ⟨t,z,h1⟩:=h.ctz g hg;exact ⟨t,z,k g _ t z h1⟩,fun g hg => by obtain ⟨t,z,h1⟩:=h.txt g hg;exact ⟨t,z,k g _ t z h1⟩⟩
theorem CKept.trans {A B C : World} (h : CKept A B) (k : CKept B C) : CKept A C:=fun b c t z hb => k b c t z (h b c t z hb)
theorem CKept.below {A B : World} (h : Below A.heap.size A B) : CKept A B:=fun b c t z hb => (h.block b (zc27.1 hb).1).trans hb
theorem CKept.put {W : World} {l : Nat} {o : Go.Obj} (o' : Go.Obj) (h : W.heap[l]? = some o) (hc : o.isCells = false) : CKept W (W.putObj l o'):=fun b c t z hb => by
 have hne : b ≠ l:=by rintro rfl;rw [h] at hb;cases hb;cases hc
 exact (World.putObj_heap_other hne).trans hb
def adC (a : Ad) : Array Value:=#[.bool a.v6,.int .u64 a.hi,.int .u64 a.lo]
def adAt (w : World) (v : Value) : Ad :=
 match v with
 | .pointer (some p) => (match w.heap[p.block]? with
  | some (Go.Obj.cells c _ _) => (match c.toList with | [.bool b,.int _ h,.int _ l] => ⟨b,h,l⟩ | _ => default)
  | _ => default)
 | _ => default
theorem zq311 {w : World} {D : Nat} {a : Ad} (h : w.heap[D]? = some (Go.Obj.cells (adC a) 28 (0,0))) : adAt w (.pointer (some ⟨D,0,none⟩)) = a:=by
 simp [adAt,h,adC]
def leftA (last : Ad) (w : World) (v4 v5 : Value) : Nat :=
 match v5 with
 | .bool true => ((allA last 64 (adAt w v4)).getD []).length
 | _ => 0
theorem zq364 {last : Ad} : ∀ {k : Nat} {a : Ad} {r : List Ad},allA last k a = some r → ∀ {k' : Nat},k ≤ k' → allA last k' a = some r
 | 0,_,_,h,_,_ => by simp [allA] at h
 | k + 1,a,r,h,k',hk => by
  obtain ⟨q,rfl⟩ : ∃ q,k' = q + 1:=⟨k' - 1,by omega⟩
  simp only [allA] at h ⊢
  rcases zq444 h with ⟨hc,h⟩ | ⟨hc,h⟩
  ·rw [hc];exact h
  ·rw [hc]
   obtain ⟨y,hy,h⟩:=zc8.1 h
   simp only [br,hy,Option.bind_some]
   rcases zq444 h with ⟨hc2,h⟩ | ⟨hc2,h⟩
   ·rw [hc2]
    obtain ⟨r',hr',h⟩:=zc7.1 h
    simp only [zq364 hr' (show k ≤ q by omega),Option.map_some,h]
   ·rw [hc2];exact h
theorem zq363 {last : Ad} : ∀ {k : Nat} {a : Ad} {r : List Ad},allA last k a = some r → ∃ r',r = a :: r'
 | 0,_,_,h => by simp [allA] at h
 | k + 1,a,r,h => by
  simp only [allA] at h
  rcases zq444 h with ⟨hc,h⟩ | ⟨hc,h⟩
  ·cases h;exact ⟨_,rfl⟩
  ·obtain ⟨y,hy,h⟩:=zc8.1 h
   rcases zq444 h with ⟨hc2,h⟩ | ⟨hc2,h⟩
   ·obtain ⟨r',hr',h⟩:=zc7.1 h
    exact ⟨r',h.symm⟩
   ·cases h;exact ⟨_,rfl⟩
theorem zq320 {W : World} {D : Nat} {a : Ad} (h : W.heap[D]? = some (Go.Obj.cells (adC a) 28 (0,0))) : W.cell? ⟨D,0,none⟩ = some (.bool a.v6) ∧ W.cell? ⟨D,1,none⟩ = some (.int .u64 a.hi) ∧ W.cell? ⟨D,2,none⟩ = some (.int .u64 a.lo):=by
 refine ⟨?_,?_,?_⟩ <;> simp [World.cell?,h,adC]
theorem zq1082 {W w : World} {a b c : Value} {t : TypeId} (h : Below (W.alloc (Go.Obj.cells #[a,b,c] t)).heap.size (W.alloc (Go.Obj.cells #[a,b,c] t)) w) :
  w.cell? ⟨W.heap.size,0,none⟩ = some a ∧ w.cell? ⟨W.heap.size,1,none⟩ = some b ∧ w.cell? ⟨W.heap.size,2,none⟩ = some c ∧ w.frozen? ⟨W.heap.size,0,none⟩ = false ∧ w.frozen? ⟨W.heap.size,1,none⟩ = false ∧ w.frozen? ⟨W.heap.size,2,none⟩ = false:=by
 have : w.heap[W.heap.size]? = some (Go.Obj.cells #[a,b,c] t (0,0)):=(h.block _ (by simp)).trans (World.alloc_heap_new W _)
 refine ⟨?_,?_,?_,?_,?_,?_⟩ <;> simp [World.cell?,World.frozen?,this]
theorem zq1083 {W w : World} {a b c : Value} {t : TypeId} (h : Below (W.alloc (Go.Obj.cells #[a,b,c] t)).heap.size (W.alloc (Go.Obj.cells #[a,b,c] t)) w) : w.heap[W.heap.size]? = some (Go.Obj.cells #[a,b,c] t (0,0)) :=
 (h.block _ (by simp)).trans (World.alloc_heap_new W _)
theorem set3 {w : World} {N : Nat} {x y z a b c : Value} {t : TypeId} (h : w.heap[N]? = some (Go.Obj.cells #[x,y,z] t (0,0))) :
  (((w.setCell ⟨N,0,none⟩ a).setCell ⟨N,1,none⟩ b).setCell ⟨N,2,none⟩ c).heap[N]? = some (Go.Obj.cells #[a,b,c] t (0,0)) ∧
  (∀ k,k ≠ N → (((w.setCell ⟨N,0,none⟩ a).setCell ⟨N,1,none⟩ b).setCell ⟨N,2,none⟩ c).heap[k]? = w.heap[k]?) ∧
  Below N w (((w.setCell ⟨N,0,none⟩ a).setCell ⟨N,1,none⟩ b).setCell ⟨N,2,none⟩ c):=by
 obtain ⟨h1,h2,_⟩:=zq1458 w N 0 [a,b,c] #[x,y,z] t (0,0) h
 refine ⟨h1,h2,?_⟩
 exact (((Below.refl N w).setCell (p:=⟨N,0,none⟩) (zc46 _) _).setCell (p:=⟨N,1,none⟩) (zc46 _) _).setCell (p:=⟨N,2,none⟩) (zc46 _) _
theorem zq684 {X Y : World} {row : Option Nat} {b : Nat} {c : Array Value} {t : TypeId} (h : X.heap[b]? = some (Go.Obj.cells c t (0,0))) (hg : X.grownBy Y row) (hr : ∀ r,row = some r → ∃ o : Go.Obj,X.heap[r]? = some o ∧ o.isCells = false) : Y.heap[b]? = some (Go.Obj.cells c t (0,0)) :=
 (hg.block b (zc27.1 h).1 (fun e => by
  obtain ⟨o,ho,hc⟩:=hr b e.symm
  rw [h] at ho
  cases ho
  cases hc)).trans h
theorem zq1690 {w : World} {N : Nat} {a b c : Value} {t : TypeId} (this : w.heap[N]? = some (Go.Obj.cells #[a,b,c] t (0,0))) :
  w.cell? ⟨N,0,none⟩ = some a ∧ w.cell? ⟨N,1,none⟩ = some b ∧ w.cell? ⟨N,2,none⟩ = some c ∧ w.frozen? ⟨N,0,none⟩ = false ∧ w.frozen? ⟨N,1,none⟩ = false ∧ w.frozen? ⟨N,2,none⟩ = false:=by
 refine ⟨?_,?_,?_,?_,?_,?_⟩ <;> simp [World.cell?,World.frozen?,this]
theorem zq685 (w : World) (o : Go.Obj) (k : Nat) : (w.alloc o).heap[k]? = if k = w.heap.size then some o else w.heap[k]?:=by
 show (w.heap.push o)[k]? = _
 exact Array.getElem?_push
theorem get4 (w : World) (a b c d : Go.Obj) : ((((w.alloc a).alloc b).alloc c).alloc d).heap[w.heap.size]? = some a ∧ ((((w.alloc a).alloc b).alloc c).alloc d).heap[w.heap.size + 1]? = some b ∧ ((((w.alloc a).alloc b).alloc c).alloc d).heap[w.heap.size + 1 + 1]? = some c ∧ ((((w.alloc a).alloc b).alloc c).alloc d).heap[w.heap.size + 1 + 1 + 1]? = some d:=by
 refine ⟨?_,?_,?_,?_⟩
 ·rw [zq685,if_neg (by simp only [World.size_alloc];omega),zq685,if_neg (by simp only [World.size_alloc];omega),zq685,if_neg (by simp only [World.size_alloc];omega),zq685,if_pos rfl]
 ·rw [zq685,if_neg (by simp only [World.size_alloc];omega),zq685,if_neg (by simp only [World.size_alloc];omega),zq685,if_pos (by simp)]
 ·rw [zq685,if_neg (by simp only [World.size_alloc];omega),zq685,if_pos (by simp)]
 ·rw [zq685,if_pos (by simp)]
theorem zq410 {A C : World} (hb : Below A.heap.size A C) : A.grownBy C none:=⟨hb.os,hb.tape,hb.output,hb.size,fun k hk _ => hb.block k hk⟩
theorem zq683 {A C : World} (hb : Below A.heap.size A C) {b : Nat} {o : Go.Obj} (h : A.heap[b]? = some o) : C.heap[b]? = some o:=(hb.block b (zc27.1 h).1).trans h
theorem zq472 {W : World} {B : Nat} {v : Value} {t : TypeId} (h : W.heap[B]? = some (Go.Obj.cells #[v] t (0,0))) : W.cell? ⟨B,0,none⟩ = some v ∧ W.frozen? ⟨B,0,none⟩ = false:=by
 constructor <;> simp [World.cell?,World.frozen?,h]
theorem zq440 {W : World} {B : Nat} {a b c d va vl : Value} {t : TypeId} (h : W.heap[B]? = some (Go.Obj.cells #[a,b,c,d,va,vl] t (0,0))) : W.cell? ⟨B,0,none⟩ = some a ∧ W.cell? ⟨B,1,none⟩ = some b ∧ W.cell? ⟨B,2,none⟩ = some c ∧ W.cell? ⟨B,3,none⟩ = some d:=by
 refine ⟨?_,?_,?_,?_⟩ <;> simp [World.cell?,h]
set_option maxRecDepth 100000 in
set_option maxHeartbeats 2000000 in
theorem zq351 (n : Nat) (hn : 1 ≤ n) (l Bx B : Nat) (p : Pf) (va vl : Value) (last : Ad) (xs : List Ad) (J Jx : List Ad → World → Prop)
  (hJ : ∀ pre A C,J pre A → Below A.heap.size A C → J pre C)
  (hY : ∀ pre x W,J pre W → (pre ++ [x]) <+: xs → YieldAt Fence.wide (n - 1) Tryz.prog l #[adV x] W fun e W' => (e = .returned (.bool true) ∧ J (pre ++ [x]) W' ∧ CKept W W') ∨ (e = .returned (.bool false) ∧ Jx (pre ++ [x]) W'))
  (W : World) (hbox : W.heap[Bx]? = some (.cells #[.pointer (some ⟨B,0,none⟩)] 90 (0,0))) (hbook : W.heap[B]? = some (.cells #[.bool p.ad.v6,.int .u64 p.ad.hi,.int .u64 p.ad.lo,.int .i64 p.bits,va,vl] 92 (0,0))) (h0 : J [] W)
  (hlast : ∀ W,Glob Tryz.prog W → Calls Tryz.prog 107 #[pfV p] W fun e W' => e = .returned (adV last) ∧ Below W.heap.size W W')
  (hafter : ∀ a b ok W,Glob Tryz.prog W → zq332 a = some (b,ok,()) → Calls Tryz.prog 108 #[adV a] W fun e W' => e = .returned (.tuple #[adV b,.bool ok]) ∧ Below W.heap.size W W')
  (hall : allA last 64 p.ad = some xs) (hGW : Glob Tryz.prog W) :
  CallsIn Fence.wide n Tryz.prog 106 #[.func (.yield l) #[] #[],.pointer (some ⟨Bx,0,none⟩)] W fun e W' => (∃ v,e = .returned v) ∧ ((∃ ys,ys = xs ∧ J ys W') ∨ (∃ pre,pre <+: xs ∧ Jx pre W')):=by
 have cb : W.cell? ⟨Bx,0,none⟩ = some (.pointer (some ⟨B,0,none⟩)):=by simp [World.cell?,hbox]
 have c0 : W.cell? ⟨B,0,none⟩ = some (.bool p.ad.v6):=by simp [World.cell?,hbook]
 have c1 : W.cell? ⟨B,1,none⟩ = some (.int .u64 p.ad.hi):=by simp [World.cell?,hbook]
 have c2 : W.cell? ⟨B,2,none⟩ = some (.int .u64 p.ad.lo):=by simp [World.cell?,hbook]
 have c3 : W.cell? ⟨B,3,none⟩ = some (.int .i64 p.bits):=by simp [World.cell?,hbook]
 refine callsIn_of_wp Tryz.func106 rfl trivial ?_ rfl
 simp only [Tryz.ntmps106,List.size_toArray,zc21,zc32,Nat.reduceAdd,Nat.reduceSub,Array.replicate_succ,Array.replicate_zero,List.push_toArray,List.append_toArray,zc41,List.cons_append]
 have hlast':=hlast
 simp only [pfV,adV] at hlast'
 gi_wp2_with (refine ⟨trivial,?_⟩;gi_at_call 107;refine (callsIn_wide.2 (hlast' _ hGW)).mono ?_;rintro e w1 ⟨rfl,hb1⟩;have k1:=CKept.below hb1;have hbox1:=k1 _ _ _ _ hbox;have hbook1:=k1 _ _ _ _ hbook;have hB1 : B < w1.heap.size:=(zc27.1 hbook1).1;have hX1 : Bx < w1.heap.size:=(zc27.1 hbox1).1;have cb1:=(zq472 hbox1).1;obtain ⟨d0,d1,d2,d3⟩:=zq440 hbook1)
 have k0:=CKept.below ((((Below.refl w1.heap.size w1).alloc (zc46 _) (.cells (adC last) 28)).alloc (by simp) (.cells (adC p.ad) 28)))
 gi_loopw [4,5] (fun v4 v5 wr => ∃ (pre rest : List Ad) (D k : Nat) (a : Ad) (ok : Bool),v4 = .pointer (some ⟨D,0,none⟩) ∧ v5 = .bool ok ∧ xs = pre ++ rest ∧ wr.heap[D]? = some (Go.Obj.cells (adC a) 28 (0,0)) ∧ wr.heap[w1.heap.size]? = some (Go.Obj.cells (adC last) 28 (0,0)) ∧ k ≤ 64 ∧ (if ok then allA last k a = some rest else rest = []) ∧ J pre wr ∧ Glob Tryz.prog wr)
  (fun v4 v5 wr => leftA last wr v4 v5)
 case atStart =>
  refine ⟨[],xs,w1.heap.size + 1,64,p.ad,true,rfl,rfl,rfl,?_,?_,zc46 _,hall,?_,zq669 (hGW.mono hb1) k0⟩
  ·have:=World.alloc_heap_new (w1.alloc (Go.Obj.cells (adC last) 28)) (Go.Obj.cells (adC p.ad) 28)
   simpa [adC] using this
  ·exact (Below.heap_alloc _ _ _ (by simp)).trans (World.alloc_heap_new w1 (Go.Obj.cells (adC last) 28))
  ·exact hJ _ _ _ h0 ((hb1.alloc hb1.size _).alloc (by have:=hb1.size;simp;omega) _)
 case round =>
  obtain ⟨pre,rest,D,k,a,ok,rfl,rfl,hx,hD,hL,hk,hr,hJs,hGr⟩:=hrel
  cases ok with
  | false =>
   have hr : rest = []:=hr
   gi_wp2
   go_end0
   exact ⟨⟨_,rfl⟩,.inl ⟨pre,by simp [hx,hr],hJs⟩⟩
  | true =>
   have hr : allA last k a = some rest:=hr
   have hfull:=zq364 hr hk
   obtain ⟨e0,e1,e2⟩:=zq320 hD
   obtain ⟨f0,f1,f2⟩:=zq320 hL
   obtain ⟨r1,hr1⟩:=zq363 hr
   obtain ⟨fn,tmps,assign,body,hy,hR⟩:=hY pre a wr hJs (by rw [hx,hr1];exact ⟨r1,by simp⟩)
   simp only [adV] at hy
   by_cases hal : a = last
   ·subst hal
    have hrest : rest = [a]:=by
     cases k with
     | zero => simp [allA] at hr
     | succ k => simp only [allA,decide_true,br] at hr;cases hr;rfl
    gi_wp2
    refine hR.mono ?_
    rintro e W3 (⟨rfl,hJ3,hk3⟩ | ⟨rfl,hJx3⟩)
    ·have hD3:=hk3 _ _ _ _ hD
     have hL3:=hk3 _ _ _ _ hL
     obtain ⟨g0,g1,g2⟩:=zq320 hD3
     obtain ⟨i0,i1,i2⟩:=zq320 hL3
     gi_wp2
     refine bodyPost_ret (results_none rfl _ _ _) rfl ?_
     exact ⟨⟨_,rfl⟩,.inl ⟨_,by rw [hx,hrest],hJ3⟩⟩
    ·gi_wp2
     refine bodyPost_ret (results_none rfl _ _ _) rfl ?_
     exact ⟨⟨_,rfl⟩,.inr ⟨pre ++ [a],by rw [hx,hrest];exact List.prefix_refl _,hJx3⟩⟩
   ·obtain ⟨b,ok',k',rest',hk',hrest,hb,hcall⟩ : ∃ (b : Ad) (ok' : Bool) (k' : Nat) (rest' : List Ad),k' ≤ 64 ∧ rest = a :: rest' ∧ (if ok' then allA last k' b = some rest' else rest' = []) ∧ zq332 a = some (b,ok',()):=by
     cases k with
     | zero => simp [allA] at hr
     | succ k =>
      simp only [allA,decide_eq_false hal,br] at hr
      obtain ⟨y,hy,hr⟩:=zc8.1 hr
      obtain ⟨b,ok',u⟩:=y
      cases ok' with
      | true =>
       obtain ⟨r',hr',hr⟩:=zc7.1 hr
       exact ⟨b,true,k,r',by omega,hr.symm,by simpa using hr',hy⟩
      | false =>
       cases hr
       exact ⟨b,false,k,[],by omega,rfl,by simp,hy⟩
    have HC : Hid (∀ v6 hi lo W,Glob Tryz.prog W → v6 = a.v6 → hi = a.hi → lo = a.lo → Calls Tryz.prog 108 #[.agg #[.bool v6,.int .u64 hi,.int .u64 lo]] W fun e W' => e = .returned (.tuple #[.agg #[.bool b.v6,.int .u64 b.hi,.int .u64 b.lo],.bool ok']) ∧ Below W.heap.size W W'):=by
     rintro _ _ _ W hg rfl rfl rfl
     exact hafter a b ok' W hg hcall
    gi_wp2
    refine hR.mono ?_
    rintro e W3 (⟨rfl,hJ3,hk3⟩ | ⟨rfl,hJx3⟩)
    ·have hD3:=hk3 _ _ _ _ hD
     have hL3:=hk3 _ _ _ _ hL
     obtain ⟨g0,g1,g2⟩:=zq320 hD3
     obtain ⟨i0,i1,i2⟩:=zq320 hL3
     have hG3:=zq669 hGr hk3
     have hlt3 : w1.heap.size < W3.heap.size:=(zc27.1 hL3).1
     clear hr hcall hafter hlast hlast' hY hy hR
     gi_wp2_with (refine ⟨trivial,?_⟩;gi_at_call 108;refine (callsIn_wide.2 (HC.out _ _ _ _ (hG3.mono ((Below.refl _ W3).alloc (zc46 _) _)) (by first | rfl | (symm;assumption)) (by first | rfl | (symm;assumption)) (by first | rfl | (symm;assumption)))).mono ?_;rintro e w4 ⟨rfl,hb4⟩;obtain ⟨n0,n1,n2,n3,n4,n5⟩:=zq1082 hb4)
     ·exact absurd (by cases a;cases last;simp_all) hal
     all_goals
      obtain ⟨s1,s2,s3⟩:=set3 (a:=.bool b.v6) (b:=.int .u64 b.hi) (c:=.int .u64 b.lo) (zq1083 hb4)
      refine ⟨⟨pre ++ [a],rest',W3.heap.size,k',b,ok',rfl,rfl,by rw [hx,hrest];simp,s1,?_,hk',hb,?_⟩,?_⟩
      ·rw [s2 _ (by omega),hb4.block _ (by simp;omega),Below.heap_alloc _ _ _ hlt3]
       exact hL3
      ·have hbb:=(((Below.refl W3.heap.size W3).alloc (zc46 _) _).trans (hb4.mono (by simp))).trans s3
       exact ⟨hJ _ _ _ hJ3 hbb,hG3.mono hbb⟩
      ·have hl1 : leftA last wr (.pointer (some ⟨D,0,none⟩)) (.bool true) = rest.length:=by
        simp only [leftA,zq311 hD,hfull,Option.getD_some]
       rw [hl1,hrest]
       cases ok' with
       | false => simp [leftA]
       | true =>
        simp only [leftA,zq311 s1,zq364 (by simpa using hb) hk',Option.getD_some,zc21]
        omega
    ·gi_wp2
     refine bodyPost_ret (results_none rfl _ _ _) rfl ?_
     exact ⟨⟨_,rfl⟩,.inr ⟨pre ++ [a],⟨rest',by rw [hx,hrest];simp⟩,hJx3⟩⟩
set_option maxHeartbeats 1000000 in
theorem zq350 (n : Nat) (p0 : Option Addr) (w : World) :
  CallsIn Fence.wide n Tryz.prog 90 #[.pointer p0] w fun e w' => e = .returned (.func (.func 106) #[] #[.pointer (some ⟨w.heap.size,0,none⟩)]) ∧ w' = w.alloc (.cells #[.pointer p0] 90):=by
 refine callsIn_of_wp Tryz.func90 rfl trivial ?_ rfl
 simp only [Tryz.ntmps90,List.size_toArray,zc21,zc32,Nat.reduceAdd,Nat.reduceSub,Array.replicate_succ,Array.replicate_zero,List.push_toArray,List.append_toArray,zc41,List.cons_append]
 gi_wp2
 go_ret
 exact ⟨rfl,rfl⟩
def elA (xs : List Ad) (i : Nat) : Ad:=xs.getD i (xs.headD default)
theorem zq573 {xs : List Ad} (h : xs ≠ []) (i : Nat) : elA xs i ∈ xs:=by
 cases xs with
 | nil => exact absurd rfl h
 | cons a r =>
  unfold elA
  rw [zc3]
  cases hx : (a :: r)[i]? with
  | none => simp
  | some y => simpa using zc5 hx
theorem zq352 (n : Nat) (hn : 1 ≤ n) (Bx B : Nat) (p : Pf) (va vl : Value) (last : Ad) (xs : List Ad) (w : World)
  (hbox : w.heap[Bx]? = some (.cells #[.pointer (some ⟨B,0,none⟩)] 90 (0,0))) (hbook : w.heap[B]? = some (.cells #[.bool p.ad.v6,.int .u64 p.ad.hi,.int .u64 p.ad.lo,.int .i64 p.bits,va,vl] 92 (0,0)))
  (hlast : ∀ W,Glob Tryz.prog W → Calls Tryz.prog 107 #[pfV p] W fun e W' => e = .returned (adV last) ∧ Below W.heap.size W W')
  (hafter : ∀ a b ok W,Glob Tryz.prog W → zq332 a = some (b,ok,()) → Calls Tryz.prog 108 #[adV a] W fun e W' => e = .returned (.tuple #[adV b,.bool ok]) ∧ Below W.heap.size W W')
  (hall : allA last 64 p.ad = some xs) (hGw : Glob Tryz.prog w) :
  SeqStopsK Fence.wide n Tryz.prog 106 #[.pointer (some ⟨Bx,0,none⟩)] (fun i : Nat => #[adV (elA xs i)]) CKept (fun ys => ys = List.range xs.length) (fun pre => pre <+: List.range xs.length) xs.length w:=by
 intro l J Jx W hW hJ hJx hY h0
 have hk:=CKept.below hW
 refine (zq351 n hn l Bx B p va vl last xs (fun pre W => J (List.range pre.length) W) (fun pre W => Jx (List.range pre.length) W) (fun pre A C h hb => hJ _ A C none h ⟨hb.os,hb.tape,hb.output,hb.size,fun k hk _ => hb.block k hk⟩ (fun r e => by cases e)) ?_ W (hk _ _ _ _ hbox) (hk _ _ _ _ hbook) h0 hlast hafter hall (hGw.mono hW)).mono ?_
 ·intro pre x W1 hj hpre
  obtain ⟨t,ht⟩:=hpre
  have hlen : pre.length < xs.length:=by rw [← ht];simp
  have hel : elA xs pre.length = x:=by
   unfold elA
   rw [zc3,← ht]
   simp
  have:=hY (List.range pre.length) pre.length W1 hj (by simpa using hlen)
  simp only [hel] at this
  refine this.mono ?_
  rintro e W' (⟨h1,h2,h3⟩ | ⟨h1,h2⟩)
  ·exact .inl ⟨h1,by simpa [List.range_succ] using h2,h3⟩
  ·exact .inr ⟨h1,by simpa [List.range_succ] using h2⟩
 ·rintro e W' ⟨h1,h2⟩
  refine ⟨h1,h2.imp ?_ ?_⟩
  ·rintro ⟨ys,rfl,h⟩
   exact ⟨_,rfl,h⟩
  ·rintro ⟨pre,⟨t,ht⟩,h⟩
   refine ⟨_,?_,h⟩
   rw [← ht,zc24,List.range_add]
   exact List.prefix_append _ _
set_option maxRecDepth 100000 in
set_option maxHeartbeats 4000000 in
theorem zq614 (B : Nat) (p : Pf) (va vl : Value) (last : Ad) (xs : List Ad) (tk : Ad → Bool) (w : World) (hG : Glob Tryz.prog w) (hxs : xs ≠ [])
  (hbook : w.heap[B]? = some (.cells #[.bool p.ad.v6,.int .u64 p.ad.hi,.int .u64 p.ad.lo,.int .i64 p.bits,va,vl] 92 (0,0)))
  (hlast : ∀ W,Glob Tryz.prog W → Calls Tryz.prog 107 #[pfV p] W fun e W' => e = .returned (adV last) ∧ Below W.heap.size W W')
  (hafter : ∀ a b ok W,Glob Tryz.prog W → zq332 a = some (b,ok,()) → Calls Tryz.prog 108 #[adV a] W fun e W' => e = .returned (.tuple #[adV b,.bool ok]) ∧ Below W.heap.size W W')
  (htaken : ∀ a W,a ∈ xs → Below w.heap.size w W → Calls Tryz.prog 91 #[.pointer (some ⟨B,0,none⟩),adV a] W fun e W' => e = .returned (.bool (tk a)) ∧ Below W.heap.size W W')
  (hall : allA last 64 p.ad = some xs) (res : Ad × Bool) (hnone : Hid ((∀ i,i < xs.length → tk (elA xs i) = true) → res = (⟨false,0,0⟩,false))) (hsome : Hid (∀ i,i < xs.length → (∀ j,j < i → tk (elA xs j) = true) → tk (elA xs i) = false → res = (elA xs i,true))) :
  CallsIn Fence.wide 9 Tryz.prog 67 #[.pointer (some ⟨B,0,none⟩)] w fun e W' => e = .returned (.tuple #[adV res.1,.bool res.2]) ∧ Below w.heap.size w W':=by
 refine callsIn_of_wp_marks Tryz.func67 rfl trivial ?_ rfl
 simp only [Tryz.ntmps67,List.size_toArray,zc21,zc32,Nat.reduceAdd,Nat.reduceSub,Array.replicate_succ,Array.replicate_zero,List.push_toArray,List.append_toArray,zc41,List.cons_append]
 gi_wp2_with (refine ⟨trivial,?_⟩;gi_at_call 90;refine (zq350 _ _ _).mono ?_;rintro e w' ⟨rfl,rfl⟩)
 have hB0 : Below w.heap.size w ((((w.alloc (Go.Obj.cells #[.pointer (some ⟨B,0,none⟩)] 90)).alloc (Go.Obj.cells #[.bool false,.int .u64 0,.int .u64 0] 28)).alloc (Go.Obj.cells #[.bool false] 4)).alloc (Go.Obj.cells #[.pointer (some ⟨B,0,none⟩)] 90)) :=
  ((((Below.refl _ w).alloc (zc46 _) _).alloc (by simp) _).alloc (by simp;omega) _).alloc (by simp;omega) _
 have hsz : ((((w.alloc (Go.Obj.cells #[.pointer (some ⟨B,0,none⟩)] 90)).alloc (Go.Obj.cells #[.bool false,.int .u64 0,.int .u64 0] 28)).alloc (Go.Obj.cells #[.bool false] 4)).alloc (Go.Obj.cells #[.pointer (some ⟨B,0,none⟩)] 90)).heap.size = w.heap.size + 4:=by simp
 obtain ⟨b1,b2,b3,b4⟩:=get4 w (Go.Obj.cells #[.pointer (some ⟨B,0,none⟩)] 90) (Go.Obj.cells #[.bool false,.int .u64 0,.int .u64 0] 28) (Go.Obj.cells #[.bool false] 4) (Go.Obj.cells #[.pointer (some ⟨B,0,none⟩)] 90)
 obtain ⟨W0,hW0⟩ : ∃ W0,(((w.alloc (Go.Obj.cells #[.pointer (some ⟨B,0,none⟩)] 90)).alloc (Go.Obj.cells #[.bool false,.int .u64 0,.int .u64 0] 28)).alloc (Go.Obj.cells #[.bool false] 4)).alloc (Go.Obj.cells #[.pointer (some ⟨B,0,none⟩)] 90) = W0:=⟨_,rfl⟩
 rw [hW0] at hB0 hsz b1 b2 b3 b4 ⊢
 have hbook0:=CKept.below hB0 _ _ _ _ hbook
 clear hW0
 refine wpIn_rangeFunc_ownH (F:=Fence.wide) (n:=9) rfl (by omega) (gf:=106) (lb:=#[.pointer (some ⟨w.heap.size + 1 + 1 + 1,0,none⟩)]) rfl trivial (enters_of Tryz.func106 (by kernel_rfl) rfl)
  (zq352 8 (by omega) (w.heap.size + 1 + 1 + 1) B p va vl last xs W0 b4 hbook0 hlast hafter hall (hG.mono hB0)) (fun h k => h.trans k) (fun W l o o' _ hl hc _ => CKept.put o' hl hc) (Below.refl _ _) (fun _ => rfl)
  (fun pre W => ((∀ i ∈ pre,tk (elA xs i) = true) ∧ W.heap[w.heap.size]? = some (Go.Obj.cells #[.pointer (some ⟨B,0,none⟩)] 90 (0,0)) ∧ W.heap[w.heap.size + 1]? = some (Go.Obj.cells #[.bool false,.int .u64 0,.int .u64 0] 28 (0,0)) ∧ W.heap[w.heap.size + 1 + 1]? = some (Go.Obj.cells #[.bool false] 4 (0,0))) ∧ Below w.heap.size w W)
  (fun c pre W => (∃ pre0 i,c = .ret ∧ pre = pre0 ++ [i] ∧ (∀ j ∈ pre0,tk (elA xs j) = true) ∧ tk (elA xs i) = false ∧ W.heap[w.heap.size + 1]? = some (Go.Obj.cells (adC (elA xs i)) 28 (0,0)) ∧ W.heap[w.heap.size + 1 + 1]? = some (Go.Obj.cells #[.bool true] 4 (0,0))) ∧ Below w.heap.size w W)
  (OwnFrom.and (fun s A C row hs hg hr => ⟨hs.1,zq684 hs.2.1 hg (fun r e => (hr r e).2),zq684 hs.2.2.1 hg (fun r e => (hr r e).2),zq684 hs.2.2.2 hg (fun r e => (hr r e).2)⟩) (ownFrom_below (by omega) (by omega)))
  (fun c => OwnFrom.and (fun s A C row hs hg hr => by
   obtain ⟨pre0,i,h1,h2,h3,h4,h5,h6⟩:=hs
   exact ⟨pre0,i,h1,h2,h3,h4,zq684 h5 hg (fun r e => (hr r e).2),zq684 h6 hg (fun r e => (hr r e).2)⟩) (ownFrom_below (by omega) (by omega)))
  ⟨⟨by simp,b1,b2,b3⟩,hB0⟩
  (fun x a' W => ∃ Bx,w.heap.size + 1 + 1 < Bx ∧ W.heap[Bx]? = some (Go.Obj.cells (adC (elA xs x)) 28 (0,0)) ∧ a' = { tmps:=#[.pointer (some ⟨B,0,none⟩),.pointer (some ⟨w.heap.size,0,none⟩),.pointer (some ⟨w.heap.size + 1,0,none⟩),.pointer (some ⟨w.heap.size + 1 + 1,0,none⟩),.pointer (some ⟨Bx,0,none⟩),.pointer (some ⟨B,0,none⟩),.func (.func 106) #[] #[.pointer (some ⟨w.heap.size + 1 + 1 + 1,0,none⟩)],adV (elA xs x),undef,undef,undef,undef,undef,undef],defers:=[] })
  (fun x a' _ X Y row hs hg hr => by obtain ⟨Bx,h1,h2,h3⟩:=hs;exact ⟨Bx,h1,zq684 h2 hg (fun r e => (hr r e).2),h3⟩)
  ?assign ?body ?done ?stop
 case assign =>
  rintro l pre x W K ⟨⟨i1,i2,i3,i4⟩,hB1⟩ hK
  have hlt : w.heap.size + 1 + 1 < W.heap.size:=(zc27.1 i4).1
  simp only [adV] at hK ⊢
  gi_wp2
  refine hK _ _ ((KeepsOthers.alloc _ _).from _) (CKept.below ((Below.refl _ W).alloc (zc46 _) _)) ⟨⟨i1,(Below.heap_alloc _ _ _ (by omega)).trans i2,(Below.heap_alloc _ _ _ (by omega)).trans i3,(Below.heap_alloc _ _ _ (by omega)).trans i4⟩,hB1.alloc (by omega) _⟩ ⟨W.heap.size,hlt,World.alloc_heap_new W _,rfl⟩
 case body =>
  rintro l pre x a' W hl ⟨r,hr⟩ ⟨⟨i1,i2,i3,i4⟩,hB1⟩ ⟨Bx,hBx,bX,rfl⟩ hlt
  have h1' : 1 ≤ 9 - 1 - 1:=by omega
  have cB:=(zq472 i2).1
  obtain ⟨x0,x1,x2⟩:=zq320 bX
  have htk':=htaken (elA xs x) W (zq573 hxs x) hB1
  simp only [adV] at htk' ⊢
  cases htk : tk (elA xs x)
  ·rw [htk] at htk'
   gi_wp2_with (refine ⟨trivial,?_⟩;gi_at_call 91;refine (CallsIn.inRound l (callsIn_wide.2 htk')).mono ?_;rintro e w2 ⟨rfl,hb2⟩;have hk2:=CKept.below hb2;obtain ⟨x0,x1,x2⟩:=zq320 (hk2 _ _ _ _ bX);have j3:=hk2 _ _ _ _ i3;have j4:=hk2 _ _ _ _ i4;obtain ⟨n0,n1,n2,n3,n4,n5⟩:=zq1690 j3;obtain ⟨n6,n7⟩:=zq472 j4)
   obtain ⟨s1,s2,s3⟩:=set3 (a:=.bool (elA xs x).v6) (b:=.int .u64 (elA xs x).hi) (c:=.int .u64 (elA xs x).lo) j3
   have j4' : (((w2.setCell ⟨w.heap.size + 1,0,none⟩ (.bool (elA xs x).v6)).setCell ⟨w.heap.size + 1,1,none⟩ (.int .u64 (elA xs x).hi)).setCell ⟨w.heap.size + 1,2,none⟩ (.int .u64 (elA xs x).lo)).heap[w.heap.size + 1 + 1]? = some (Go.Obj.cells #[.bool false] 4 (0,0)):=(s2 _ (by omega)).trans j4
   refine ⟨((KeepsFrom.of_grownBy (zq410 hb2) (fun j e => by cases e)).trans (((KeepsOthers.setCell _ _ _).from _).trans (((KeepsOthers.setCell _ _ _).from _).trans ((KeepsOthers.setCell _ _ _).from _)))).trans ((KeepsOthers.setCell _ _ _).from _),⟨pre,x,rfl,rfl,i1,htk,?_,?_⟩,?_⟩
   ·exact (Below.heap_setCell _ ⟨w.heap.size + 1 + 1,0,none⟩ _ _ (by show w.heap.size + 1 ≠ w.heap.size + 1 + 1;omega)).trans s1
   ·have:=zq1457 _ (w.heap.size + 1 + 1) 0 (.bool true) #[.bool false] 4 (0,0) j4'
    exact this
   ·exact ((hB1.trans (hb2.mono hB1.size)).trans (s3.mono (by omega))).setCell (p:=⟨w.heap.size + 1 + 1,0,none⟩) (by show w.heap.size ≤ w.heap.size + 1 + 1;omega) _
  ·rw [htk] at htk'
   gi_wp2_with (refine ⟨trivial,?_⟩;gi_at_call 91;refine (CallsIn.inRound l (callsIn_wide.2 htk')).mono ?_;rintro e w2 ⟨rfl,hb2⟩;have hk2:=CKept.below hb2)
   have j : ∀ (b : Nat) (o : Go.Obj),W.heap[b]? = some o → w2.heap[b]? = some o:=fun b o h => zq683 hb2 h
   refine ⟨KeepsFrom.of_grownBy (zq410 hb2) (fun j e => by cases e),CKept.below hb2,⟨fun i hi => ?_,j _ _ i2,j _ _ i3,j _ _ i4⟩,hB1.trans (hb2.mono hB1.size)⟩
   rcases List.mem_append.1 hi with hi | hi
   ·exact i1 i hi
   ·simp only [List.mem_singleton] at hi
    subst hi
    exact htk
 case done =>
  rintro D ys W hD rfl ⟨⟨i1,i2,i3,i4⟩,hB1⟩ hK
  obtain ⟨n0,n1,n2,n3,n4,n5⟩:=zq1690 i3
  obtain ⟨n6,n7⟩:=zq472 i4
  have hrs:=hnone.out (fun i hi => i1 i (by simpa using hi))
  gi_wp2
  obtain ⟨s1,s2,s3⟩:=set3 (a:=.bool false) (b:=.int .u64 0) (c:=.int .u64 0) i3
  have i4' : (((W.setCell ⟨w.heap.size + 1,0,none⟩ (.bool false)).setCell ⟨w.heap.size + 1,1,none⟩ (.int .u64 0)).setCell ⟨w.heap.size + 1,2,none⟩ (.int .u64 0)).heap[w.heap.size + 1 + 1]? = some (Go.Obj.cells #[.bool false] 4 (0,0)):=(s2 _ (by omega)).trans i4
  have t1:=zq1457 _ (w.heap.size + 1 + 1) 0 (.bool false) #[.bool false] 4 (0,0) i4'
  have t2:=(Below.heap_setCell _ ⟨w.heap.size + 1 + 1,0,none⟩ (.bool false) _ (by show w.heap.size + 1 ≠ w.heap.size + 1 + 1;omega)).trans s1
  have hK':=(Below.heap_setCell _ ⟨w.heap.size + 1 + 1,0,none⟩ (.bool false) D (by show D ≠ w.heap.size + 1 + 1;omega)).trans ((s2 D (by omega)).trans hK)
  refine ⟨by simp,.inl ⟨_,_,rfl,run_takeDeferred hK',?_⟩⟩
  have t1':=(World.putObj_heap_other (r:=D) (o:=.deferred none) (show w.heap.size + 1 + 1 ≠ D by omega)).trans t1
  have t2':=(World.putObj_heap_other (r:=D) (o:=.deferred none) (show w.heap.size + 1 ≠ D by omega)).trans t2
  obtain ⟨m0,m1,m2,_⟩:=zq1690 t2'
  obtain ⟨m6,_⟩:=zq472 t1'
  refine ⟨.tuple #[.agg #[.bool false,.int .u64 0,.int .u64 0],.bool false],?_,by rw [hrs];rfl,((hB1.trans (s3.mono (by omega))).setCell (p:=⟨w.heap.size + 1 + 1,0,none⟩) (by show w.heap.size ≤ w.heap.size + 1 + 1;omega) _).trans (belowK_b (w:=w) (zc46 _) _ D _ _ (by omega) hK' rfl rfl)⟩
  simp [results,Tryz.f67,go_sem,m0,m1,m2,m6]
 case stop =>
  rintro D c pre W hD hpre ⟨⟨pre0,i,rfl,hp,h3,h4,h5,h6⟩,hB1⟩ hK
  have hrs : res = (elA xs i,true):=by
   obtain ⟨t,ht⟩:=hpre
   rw [hp] at ht
   have hl0 : pre0.length < xs.length:=by
    have:=congrArg List.length ht
    simp at this
    omega
   have hi : i = pre0.length:=by
    have:=congrArg (fun l => l[pre0.length]?) ht
    simp [hl0] at this
    exact this
   subst hi
   refine hsome.out _ hl0 (fun j hj => h3 j ?_) h4
   have h0 : (List.range xs.length)[j]? = some j:=by rw [List.getElem?_eq_some_iff];exact ⟨by simp;omega,by simp⟩
   rw [← ht,zc45,zc6 hj] at h0
   exact zc5 h0
  gi_wp2
  refine ⟨by simp,.inl ⟨_,_,rfl,run_takeDeferred hK,?_⟩⟩
  have t1':=(World.putObj_heap_other (r:=D) (o:=.deferred none) (show w.heap.size + 1 + 1 ≠ D by omega)).trans h6
  have t2':=(World.putObj_heap_other (r:=D) (o:=.deferred none) (show w.heap.size + 1 ≠ D by omega)).trans h5
  obtain ⟨m0,m1,m2⟩:=zq320 t2'
  obtain ⟨m6,_⟩:=zq472 t1'
  refine ⟨.tuple #[adV (elA xs i),.bool true],?_,by rw [hrs],hB1.trans (belowK_b (w:=w) (zc46 _) W D _ _ (by omega) hK rfl rfl)⟩
  simp [results,Tryz.f67,go_sem,m0,m1,m2,m6,adV]
theorem zq622 {P : Program} {W : World} (hG : Glob P W) {f : FuncId} {ps rs : List PS} {t : PsT ps → Option (PsT rs)} (ht : TrOk P f (con ps rs t)) {x : PsT ps} {y : PsT rs} (hx : t x = some y)
  (hdec : decA (encA false ps x 0).2 ps (encA false ps x 0).1 = some x) (hany : (encA false ps x 0).1.all (fun v => !v.isAny) = true) {ρ : Nat → Value} {vals us : List Value}
  (hu : zq0 W ρ 0 vals (encA false ps x 0).1 (encA false ps x 0).2 us) :
  Calls P f vals.toArray W fun e W' => (∃ ρ' n,e = .returned (den ρ' (encR rs y n))) ∧ Below W.heap.size W W':=by
 have hrel:=hu.rel
 have hden:=hu.den _ (zq665 us)
 have hk : conTr ps rs t (SV × Mem) (encA false ps x 0).1 (encA false ps x 0).2 (fun r m => some (r,m)) = some (encR rs y (encA false ps x 0).2.length,(encA false ps x 0).2 ++ (encA true rs y (encA false ps x 0).2.length).2):=by
  simp only [conTr,hdec,hx,Option.bind_some]
 have hc:=ht.1 W hG (SV × Mem) (encA false ps x 0).1 (encA false ps x 0).2 (fun r m => some (r,m)) _ hk hany
 have:=hc.call (by have:=hu.lt.1;simpa using this) _ W hrel
 rw [hden] at this
 refine this.mono ?_
 rintro e w' ⟨ρ',r',m',rfl,hm',_,_,_,hres⟩
 have hres : (some (r',m') : Option (SV × Mem)) = some (encR rs y (encA false ps x 0).2.length,(encA false ps x 0).2 ++ (encA true rs y (encA false ps x 0).2.length).2):=hres
 injection hres with hres
 injection hres with h1 h2
 exact ⟨⟨ρ',_,by rw [h1]⟩,hm'.below⟩
theorem zq636 {k : K} (w : World) (ρ : Nat → Value) (a : k.T) (v : Value) (n : Nat) (h : ∀ ρ,v = den ρ (flV k a)) : zq0 w ρ n [v] [flV k a] [] [] :=
 ⟨rfl,fun ρ' _ => by simp only [denL,h ρ'],fun _ _ _ i o v h => by simp at h,by simp only [ltL,zq617,Bool.and_self],fun o h => by cases h⟩
theorem zq398 {w w' : World} {ρ : Nat → Value} {n : Nat} {vals : List Value} {svs : List SV} {os : Mem} {us : List Value} (h : zq0 w ρ n vals svs os us) (hb : Below w.heap.size w w') : zq0 w' ρ n vals svs os us :=
 ⟨h.len,h.den,fun W ρ' hg i o v hi hv => ⟨(h.obj W ρ' hg i o v hi hv).1.keep (fun b _ hlt => hb.block b hlt) hb.size,(h.obj W ρ' hg i o v hi hv).2⟩,h.lt⟩
def tkOf (p : Pf) (kp : List Ad) (ls : List Ls) (a : Ad) : Bool:=match zq283 p kp ls a with | some (t,_) => t | none => false
theorem zq572 {xs : List Ad} {i : Nat} (h : i < xs.length) : elA xs i = xs[i]:=by
 unfold elA
 rw [zc3,zc0 h]
 rfl
theorem zq571 {a : Ad} {r : List Ad} {i : Nat} (h : i < r.length) : elA (a :: r) (i + 1) = elA r i:=by
 rw [zq572 h,zq572 (by simpa using h)]
 rfl
theorem zq611 {p : Pf} {kp : List Ad} {ls : List Ls} : ∀ {xs : List Ad} {y : Ad × Bool × Unit},zq609 p kp ls xs = some y →
  (∀ a ∈ xs,zq283 p kp ls a = some (tkOf p kp ls a,())) ∧ ((∀ i,i < xs.length → tkOf p kp ls (elA xs i) = true) → y = (⟨false,0,0⟩,false,())) ∧
   (∀ i,i < xs.length → (∀ j,j < i → tkOf p kp ls (elA xs j) = true) → tkOf p kp ls (elA xs i) = false → y = (elA xs i,true,()))
 | [],y,h => by
  cases h
  exact ⟨fun a h => by (cases h),fun _ => rfl,fun i h => by simp at h⟩
 | a :: r,y,h => by
  simp only [zq609] at h
  obtain ⟨t,ht,h⟩:=zc8.1 h
  obtain ⟨y',hy',h⟩:=zc8.1 h
  obtain ⟨h1,h2,h3⟩:=zq611 hy'
  have htk : tkOf p kp ls a = t.1:=by unfold tkOf;rw [ht]
  have hy : (bif t.1 then y' else (a,true,())) = y:=by injection h
  refine ⟨fun b hb => ?_,fun hall => ?_,fun i hi hj hti => ?_⟩
  ·rcases List.mem_cons.1 hb with rfl | hb
   ·rw [ht,htk]
   ·exact h1 b hb
  ·have h0:=hall 0 (by simp)
   rw [zq572 (by simp),List.getElem_cons_zero,htk] at h0
   rw [h0] at hy
   rw [← hy]
   exact h2 fun i hi => by
    have:=hall (i + 1) (by simpa using hi)
    rwa [zq571 hi] at this
  ·cases i with
   | zero =>
    rw [zq572 hi,List.getElem_cons_zero] at hti ⊢
    rw [htk] at hti
    rw [hti] at hy
    exact hy.symm
   | succ i =>
    have h0:=hj 0 (by omega)
    rw [zq572 (by simp),List.getElem_cons_zero,htk] at h0
    rw [h0] at hy
    have hi' : i < r.length:=by simpa using hi
    rw [zq571 hi'] at hti ⊢
    rw [← hy]
    exact h3 i hi' (fun j hj' => by
     have:=hj (j + 1) (by omega)
     rwa [zq571 (by omega)] at this) hti
def zq262 : Con:=con [.ref [.fl .pfx,.row .addr 28,.row .lease 52] 92] [.one (.fl .addr),.one (.fl .bool)] (fun x => zq264 x.1.1 x.1.2.1 x.1.2.2.1)
theorem zq613 (p : Pf) (kp : List Ad) (ls : List Ls) (y : Ad × Bool × Unit) (hx : zq264 p kp ls = some y) (ρ : Nat → Value) (us vals : List Value) (w : World) (hG : Glob Tryz.prog w)
  (hu : zq0 w ρ 0 vals (encA false [.ref [.fl .pfx,.row .addr 28,.row .lease 52] 92] ((p,kp,ls,()),()) 0).1 (encA false [.ref [.fl .pfx,.row .addr 28,.row .lease 52] 92] ((p,kp,ls,()),()) 0).2 us) :
  Calls Tryz.prog 67 vals.toArray w fun e w' => ∃ ρc r m',e = .returned (den ρc r) ∧ RelM w ρc m' w' ∧ resR [.one (.fl .addr),.one (.fl .bool)] r m' = some y:=by
 have hg:=zq665 us
 have hlen:=hu.len
 have hdenv:=hu.den _ hg
 obtain ⟨vb,va,vl,rfl⟩ : ∃ vb va vl,us = [vb,va,vl]:=by
  have hl1 : us.length = 3:=hlen
  match us,hl1 with
  | [a,b,c],_ => exact ⟨a,b,c,rfl⟩
 obtain ⟨hob,_⟩:=hu.obj w _ hg 0 _ vb rfl rfl
 obtain ⟨b,arr,rfl,_,hheap,harr,hcells⟩:=hob
 have harr : arr.size = 6:=harr
 have hg0:=hcells 0 (.b p.ad.v6) rfl rfl
 have hg1:=hcells 1 (.i .u64 p.ad.hi) rfl rfl
 have hg2:=hcells 2 (.i .u64 p.ad.lo) rfl rfl
 have hg3:=hcells 3 (.i .i64 p.bits) rfl rfl
 have hg4:=hcells 4 (.row 1) rfl rfl
 have hg5:=hcells 5 (.row 2) rfl rfl
 have hA : arr = #[.bool p.ad.v6,.int .u64 p.ad.hi,.int .u64 p.ad.lo,.int .i64 p.bits,zq1481 va,zq1481 vl]:=by
  apply Array.ext_getElem?
  intro i
  match i with
  | 0 => rw [hg0];rfl
  | 1 => rw [hg1];rfl
  | 2 => rw [hg2];rfl
  | 3 => rw [hg3];rfl
  | 4 => rw [hg4];rfl
  | 5 => rw [hg5];rfl
  | i + 6 => rw [Array.getElem?_eq_none (by omega),Array.getElem?_eq_none (by simp)]
 subst hA
 have hvals : vals = [.pointer (some ⟨b,0,none⟩)]:=by
  rw [← hdenv]
  show [zq1299 (.pointer (some ⟨b,0,none⟩)) 0] = _
  simp only [zq1299,zq324,Nat.add_zero]
 subst hvals
 unfold zq264 at hx
 obtain ⟨y1,hl1,hx⟩:=zc8.1 hx
 obtain ⟨last,u1⟩:=y1
 obtain ⟨xs,hall,hx⟩:=zc8.1 hx
 obtain ⟨f1,f2,f3⟩:=zq611 hx
 obtain ⟨r1,hr1⟩:=zq363 hall
 obtain ⟨ra,rb,ru⟩:=y
 refine (callsIn_wide.1 (zq614 b p _ _ last xs (tkOf p kp ls) w hG (by rw [hr1];simp) hheap (fun W hg => ?_) (fun a c ok W hg hac => ?_) (fun a W hmem hB => ?_) hall (ra,rb) (fun h => ?_) (fun i hi hj hti => ?_))).mono ?_
 ·have ha:=zq636 (k:=.pfx) W (fun _ => Go.undef) p (pfV p) 0 (fun _ => rfl)
  refine (zq621 hg zq1267 (x:=(p,())) hl1 rfl rfl ha).mono ?_
  rintro e w' ⟨⟨ρ',rfl⟩,hb'⟩
  exact ⟨rfl,hb'⟩
 ·have ha:=zq636 (k:=.addr) W (fun _ => Go.undef) a (adV a) 0 (fun _ => rfl)
  refine (zq622 hg zq331 (x:=(a,())) (y:=(c,ok,())) hac rfl rfl ha).mono ?_
  rintro e w' ⟨⟨ρ',n,rfl⟩,hb'⟩
  exact ⟨rfl,hb'⟩
 ·have ha:=(zq398 hu hB).app (zq636 (k:=.addr) W ρ a (adV a) 3 (fun _ => rfl))
  refine (zq621 (hG.mono hB) zq273 (x:=((p,kp,ls,()),a,())) (f1 a hmem) rfl rfl ha).mono ?_
  rintro e w' ⟨⟨ρ',rfl⟩,hb'⟩
  exact ⟨rfl,hb'⟩
 ·have:=f2 h
  cases this
  rfl
 ·have:=f3 i hi hj hti
  cases this
  rfl
 ·rintro e w' ⟨rfl,hb⟩
  refine ⟨fun _ => Go.undef,.tup [.agg [.b ra.v6,.i .u64 ra.hi,.i .u64 ra.lo],.b rb],[],rfl,?_,rfl⟩
  exact ⟨hb,fun j o h => by simp at h,fun i j o o' _ h => by simp at h,fun j o h => by simp at h⟩
theorem zq263 : TrOk Tryz.prog 67 zq262:=zq505 _ _ _ fun x y hx ρ us vals w hG hu => zq613 x.1.1 x.1.2.1 x.1.2.2.1 y hx ρ us vals w hG hu
end Go.Proofs.YtpnpfgihgfbipaaGreat
namespace Go.Proofs.YtpnpfgihgfbipaaGreat
open Go Go.Ma Go.RowKit Go.Maps Go.Proofs
def lsV (x : Ls) : Value:=.agg #[.bool x.ad.v6,.int .u64 x.ad.hi,.int .u64 x.ad.lo,.string x.who,.int .i64 x.upto]
def lsC (x : Ls) : List Value:=[.bool x.ad.v6,.int .u64 x.ad.hi,.int .u64 x.ad.lo,.string x.who,.int .i64 x.upto]
def skey (s : ByteArray) : Lit:=.string s.data.toList
theorem zero3 (w : World) : (zeroValue 3).run Tryz.prog w = .ok (.int .i64 0) w:=by kernel_rfl
theorem zq354 {w w1 : World} {Bx b : Nat} {u0 u1 u2 u3 u4 : Value} (hbx : w.heap[Bx]? = some (Go.Obj.cells #[.map (some b)] 105 (0,0))) (hbne : Bx ≠ b) (hb : b < w.heap.size) (hg : (w.alloc (Go.Obj.cells #[u0,u1,u2,u3,u4] 52)).grownBy w1 (some b)) :
  w1.cell? ⟨Bx,0,none⟩ = some (.map (some b)) ∧ w1.cell? ⟨w.heap.size,3,none⟩ = some u3:=by
 have hBx : Bx < w.heap.size:=(zc27.1 hbx).1
 have e1:=hg.block Bx (by simp;omega) (by simpa using hbne)
 have e2 : w1.heap[Bx]? = _:=e1.trans ((Below.heap_alloc w (Go.Obj.cells #[u0,u1,u2,u3,u4] 52) Bx hBx).trans hbx)
 have e3 : w1.heap[w.heap.size]? = _:=(hg.block w.heap.size (by simp) (by simp;omega)).trans (heap_alloc_new w (Go.Obj.cells #[u0,u1,u2,u3,u4] 52))
 constructor
 ·simp [World.cell?,e2]
 ·simp [World.cell?,e3]
set_option maxRecDepth 100000 in
theorem zq1697 {H : Type} (x : Ls) (Bx b k : Nat) (D : DataW H) (c : Int) (w : World) (hbne : Bx ≠ b) (hbx : w.heap[Bx]? = some (.cells #[.map (some b)] 105 (0,0)))
  (hown : w.ownsMap Tryz.prog 9 (plainElem Tryz.prog 3) b k D) (hmap : IsMap D) (hk : k < 2048) (hs : x.who.size ≤ 1024) (hc : D.atKey (skey x.who) (.lit (.int .i64 0)) = .lit (.int .i64 c)) (h0 : 0 ≤ c) (h1 : c ≤ 1) :
  Calls Tryz.prog 79 #[lsV x,.pointer (some ⟨Bx,0,none⟩)] w fun e w' => e = .returned (.bool (decide (1 < c + 1))) ∧ w'.ownsMap Tryz.prog 9 (plainElem Tryz.prog 3) b (k + 1) (D.put (skey x.who) (.lit (.int .i64 (c + 1)))) ∧
   (∃ w1,Below w.heap.size w w1 ∧ w1.grownBy w' (some b)):=by
 have hkey : keyOf Tryz.prog 9 (.string x.who) = some (skey x.who):=Go.WideMaps.keyOf_string_mk Tryz.underlying9 (by unfold maxLen;omega)
 have cb : w.cell? ⟨Bx,0,none⟩ = some (.map (some b)):=by simp [World.cell?,hbx]
 have hwf : (Lit.int .i64 (c + 1)).wf = true:=WalkArith.wf_i64 (by omega)
 have hblt:=hown.lt
 have hBx : Bx < w.heap.size:=(zc27.1 hbx).1
 have hput : (D.put (skey x.who) (.lit (.int .i64 (c + 1)))).atKey (skey x.who) (.lit (.int .i64 0)) = .lit (.int .i64 (c + 1)):=atKey_put_same hmap (by trivial) _ _
 have litI : ∀ {a b : Int},(DataW.lit (H:=H) (.int .i64 a)) = .lit (.int .i64 b) → a = b:=fun h => by cases h;rfl
 simp only [lsV]
 go_enter Tryz.func79,Tryz.ntmps79
 go_wp2_with (first
  | (at_lookup;refine wpList_lookup_own_int _ rfl _ _ 105 rfl 9 3 .i64 (string_keyed Tryz.underlying9) Tryz.underlying105 Tryz.underlying3 (zero3 _) b (k + 1) (D.put (skey x.who) (.lit (.int .i64 (c1 + 1)))) rfl hown1 _ _ rfl hkey ?_;intro c2 hat2 hwc2;obtain rfl:=litI (hat2.symm.trans hput))
  | (at_lookup;refine wpList_lookup_own_int _ rfl _ _ 105 rfl 9 3 .i64 (string_keyed Tryz.underlying9) Tryz.underlying105 Tryz.underlying3 (zero3 _) b k D rfl (hown.alloc _) _ _ rfl hkey ?_;intro c1 hat1 hwc1;obtain rfl:=litI (hat1.symm.trans hc))
  | (at_mapUpdate;refine wpList_mapUpdate_own _ rfl _ _ _ 105 rfl 9 3 (string_keyed Tryz.underlying9) Tryz.underlying105 _ b k D rfl (hown.alloc _) (by unfold maxLen;omega) _ _ (skey x.who) rfl rfl hkey (.lit (.int .i64 (c1 + 1))) [] (plainElem_int Tryz.underlying3 hwf) ?_;intro w1 hown1 hgrow1;obtain ⟨cb1,cw1⟩:=zq354 hbx hbne hblt hgrow1))
 go_ret
 exact ⟨rfl,hown1,_,(Below.refl _ w).alloc (zc46 _) _,hgrow1⟩
def seenL (l : List Ls) (k : Nat) : List ByteArray:=((l.take k).map Ls.who).reverse
theorem zq1449 {l : List Ls} {k : Nat} (h : k < l.length) : seenL l (k + 1) = (l[k]).who :: seenL l k:=by
 unfold seenL
 rw [zc26 h,List.map_append,List.reverse_append]
 rfl
def met (l : List Ls) (k : Nat) (s : ByteArray) : Int:=bif (seenL l k).any (fun t => decide (t = s)) then 1 else 0
theorem zq1480 {a b : ByteArray} (h : skey a = skey b) : a = b:=by
 have h1 : a.data.toList = b.data.toList:=by unfold skey at h;injection h
 have h2 : a.data = b.data:=Array.toList_inj.1 h1
 cases a;cases b;cases h2;rfl
theorem zq1059 {l : List Ls} {k : Nat} (h : k < l.length) (s : ByteArray) (h0 : met l k (l[k]).who = 0) : met l (k + 1) s = if (l[k]).who = s then 1 else met l k s:=by
 unfold met
 rw [zq1449 h,List.any_cons]
 by_cases he : (l[k]).who = s
 ·rw [if_pos he,decide_eq_true he]
  rfl
 ·rw [if_neg he]
  have : decide ((l[k]).who = s) = false:=decide_eq_false he
  rw [this,Bool.false_or]
theorem zq1058 (l : List Ls) (k : Nat) (s : ByteArray) : 0 ≤ met l k s ∧ met l k s ≤ 1:=by
 unfold met
 cases (seenL l k).any (fun t => decide (t = s)) <;> decide
theorem zq1701 {l : List Ls} {k : Nat} (h : k < l.length) : zq1699 (seenL l k) (l.drop k) = bif decide (1 < met l k (l[k]).who + 1) then true else zq1699 (seenL l (k + 1)) (l.drop (k + 1)):=by
 rw [List.drop_eq_getElem_cons h,zq1449 h]
 show (bif (seenL l k).any (fun s => decide (s = (l[k]).who)) then true else _) = _
 unfold met
 cases (seenL l k).any (fun t => decide (t = (l[k]).who)) <;> rfl
set_option maxRecDepth 100000 in
theorem zq1698 {H : Type} (A : Option Addr) (l : List Ls) (cap : Nat) (w0 w : World) (Bx b : Nat) (hbne : Bx ≠ b) (hlen : l.length ≤ 1024) (hwho : ∀ x ∈ l,x.who.size ≤ 1024)
  (hcells : ∀ W,Below w0.heap.size w0 W → ∀ k (h : k < l.length),∃ a,A = some a ∧ ∀ i v,(lsC (l[k]))[i]? = some v → W.cell? ((a.add (k * 5)).add i) = some v)
  (hA : 0 < l.length → A ≠ none) (hb0 : w0.heap.size ≤ b) (hB0 : w0.heap.size ≤ Bx) (hbw : Below w0.heap.size w0 w) (hbx : w.heap[Bx]? = some (.cells #[.map (some b)] 105 (0,0)))
  (hown : w.ownsMap (H:=H) Tryz.prog 9 (plainElem Tryz.prog 3) b 0 (.map [])) :
  Calls Tryz.prog 65 #[.slice A l.length cap,.func (.func 79) #[] #[.pointer (some ⟨Bx,0,none⟩)]] w fun e w' => ∃ i : Int,e = .returned (.int .i64 i) ∧ decide (0 ≤ i) = zq1699 [] l ∧ Below w0.heap.size w0 w':=by
 have HC : Hid (∀ W,Below w0.heap.size w0 W → ∀ k (h : k < l.length),∃ a,A = some a ∧ ∀ i v,(lsC (l[k]))[i]? = some v → W.cell? ((a.add (k * 5)).add i) = some v):=hcells
 clear hcells
 obtain ⟨nn,hnn⟩ : ∃ nn : Nat,nn = l.length:=⟨_,rfl⟩
 have HN : Hid (nn = l.length):=hnn
 rw [← hnn] at hlen hA ⊢
 clear hnn
 go_enter Tryz.func65,Tryz.ntmps65
 go_wp2
 go_loopw [8] (fun i wr => ∃ (k : Nat) (D : DataW H),k ≤ nn ∧ i = .int .i64 k ∧ wr.ownsMap Tryz.prog 9 (plainElem Tryz.prog 3) b k D ∧ IsMap D ∧ (∀ s : ByteArray,D.atKey (skey s) (.lit (.int .i64 0)) = .lit (.int .i64 (met l k s))) ∧ zq1699 (seenL l k) (l.drop k) = zq1699 [] l ∧
   wr.heap[Bx]? = some (.cells #[.map (some b)] 105 (0,0)) ∧ Below w0.heap.size w0 wr)
  (fun i _ => nn - (intOf i).toNat)
 case atStart => exact ⟨0,.map [],Nat.zero_le _,rfl,hown,isMap_empty,fun s => rfl,rfl,hbx,hbw⟩
 case round =>
  obtain ⟨k,D,hk,rfl,hown,hmap,hspec,htw,hbx,hbw⟩:=hrel
  by_cases hlt : k < nn
  ·have hkl : k < l.length:=by rw [← HN.out];exact hlt
   obtain ⟨a,rfl,hl⟩:=HC.out wr hbw k hkl
   have q0 : wr.cell? (a.add (k * 5)) = some (.bool (l[k]).ad.v6):=hl 0 _ rfl
   have q1 : wr.cell? ⟨(a.add (k * 5)).block,(a.add (k * 5)).off + 1,none⟩ = some (.int .u64 (l[k]).ad.hi):=hl 1 _ rfl
   have q2 : wr.cell? ⟨(a.add (k * 5)).block,(a.add (k * 5)).off + 2,none⟩ = some (.int .u64 (l[k]).ad.lo):=hl 2 _ rfl
   have q3 : wr.cell? ⟨(a.add (k * 5)).block,(a.add (k * 5)).off + 3,none⟩ = some (.string (l[k]).who):=hl 3 _ rfl
   have q4 : wr.cell? ⟨(a.add (k * 5)).block,(a.add (k * 5)).off + 4,none⟩ = some (.int .i64 (l[k]).upto):=hl 4 _ rfl
   clear hl
   have hmem : l[k] ∈ l:=List.getElem_mem _
   have hcall:=zq1697 (l[k]) Bx b k D (met l k (l[k]).who) wr hbne hbx hown hmap (by omega) (hwho _ hmem) (hspec _) (zq1058 _ _ _).1 (zq1058 _ _ _).2
   have hst:=zq1701 hkl
   have HM : Hid (∀ s : ByteArray,D.atKey (skey s) (.lit (.int .i64 0)) = .lit (.int .i64 (met l k s))):=hspec
   have HT : Hid (zq1699 (seenL l k) (l.drop k) = zq1699 [] l):=htw
   have HS : Hid (zq1699 (seenL l k) (l.drop k) = bif decide (1 < met l k (l[k]).who + 1) then true else zq1699 (seenL l (k + 1)) (l.drop (k + 1))):=hst
   have HI : Hid (IsMap D):=hmap
   have hle:=zq1058 l k (l[k]).who
   clear hspec htw hst hmap
   have hltI : (k : Int) < (nn : Int):=by omega
   simp only [lsV] at hcall
   have hblt : b < wr.heap.size:=hown.lt
   by_cases hmm : 1 < met l k (l[k]).who + 1
   ·rw [decide_eq_true hmm] at hcall
    go_wp2_with (go_at_call 79;refine hcall.mono ?_;rintro e w' ⟨rfl,hown',w1,hb1,hg1⟩)
    go_ret
    refine ⟨_,rfl,?_,?_⟩
    ·rw [← HT.out,HS.out,decide_eq_true hmm]
     simp
    ·exact (hbw.trans (hb1.mono hbw.size)).grown hg1 (Nat.le_trans hbw.size hb1.size) (fun j hj => by cases hj;exact hb0)
   ·rw [decide_eq_false hmm] at hcall
    go_wp2_with (go_at_call 79;refine hcall.mono ?_;rintro e w' ⟨rfl,hown',w1,hb1,hg1⟩)
    go_roundw
    case rel =>
     refine ⟨k + 1,_,by omega,by go_num,hown',HI.out.put _ _,fun s => ?_,?_,?_,?_⟩
     ·have h0 : met l k (l[k]).who = 0:=by omega
      rw [zq1059 hkl s h0]
      by_cases hs : (l[k]).who = s
      ·rw [if_pos hs,← hs,atKey_put_same HI.out (by trivial),h0]
       rfl
      ·rw [if_neg hs,atKey_put_other (fun e => hs (zq1480 e).symm),HM.out s]
     ·rw [← HT.out,HS.out,decide_eq_false (show ¬ (1 < met l k (l[k]).who + 1) by omega)]
      rfl
     ·have h1:=(zc27.1 hbx).1
      have e1:=hg1.block Bx (Nat.lt_of_lt_of_le h1 hb1.size) (by simpa using hbne)
      exact e1.trans ((hb1.block Bx h1).trans hbx)
     ·exact (hbw.trans (hb1.mono hbw.size)).grown hg1 (Nat.le_trans hbw.size hb1.size) (fun j hj => by cases hj;exact hb0)
    case measure => simp [intOf];omega
  ·have hkn : k = nn:=by omega
   subst hkn
   go_wp2
   go_ret
   refine ⟨-1,rfl,?_,hbw⟩
   rw [← htw]
   rw [HN.out,List.drop_length]
   rfl
set_option maxRecDepth 100000 in
theorem zq1703 {H : Type} (A : Option Addr) (l : List Ls) (cap : Nat) (w : World) (hlen : l.length ≤ 1024) (hwho : ∀ x ∈ l,x.who.size ≤ 1024)
  (hcells : ∀ W,Below w.heap.size w W → ∀ k (h : k < l.length),∃ a,A = some a ∧ ∀ i v,(lsC (l[k]))[i]? = some v → W.cell? ((a.add (k * 5)).add i) = some v) (hA : 0 < l.length → A ≠ none) :
  Calls Tryz.prog 49 #[.slice A l.length cap] w fun e w' => e = .returned (.bool (zq1699 [] l)) ∧ Below w.heap.size w w':=by
 have hmm:=@run_makeMap Tryz.prog
 have HI : Hid (∀ W Bx b,Bx ≠ b → w.heap.size ≤ b → w.heap.size ≤ Bx → Below w.heap.size w W → W.heap[Bx]? = some (.cells #[.map (some b)] 105 (0,0)) → W.ownsMap (H:=H) Tryz.prog 9 (plainElem Tryz.prog 3) b 0 (.map []) →
   Calls Tryz.prog 78 #[.slice A l.length cap,.func (.func 79) #[] #[.pointer (some ⟨Bx,0,none⟩)]] W fun e w' => e = .returned (.bool (zq1699 [] l)) ∧ Below w.heap.size w w'):=by
  intro W Bx b h1 h2 h3 h4 h5 h6
  have hc:=zq1698 (H:=H) A l cap w W Bx b h1 hlen hwho hcells hA h2 h3 h4 h5 h6
  clear hcells hmm
  go_enter Tryz.func78,Tryz.ntmps78
  go_wp2_with (go_at_call 65;refine hc.mono ?_;rintro e w' ⟨i,rfl,hi,hb⟩)
  go_ret
  exact ⟨rfl,hb⟩
 clear hcells
 go_enter Tryz.func49,Tryz.ntmps49
 go_wp2_with (go_at_call 78;refine (HI.out _ (w.heap.size + 1) w.heap.size (by omega) (by omega) (by omega) ?_ ?_ ?_).mono ?_)
 ·exact ((Below.refl _ w).alloc (zc46 _) _).alloc (by simp) _
 ·have:=heap_alloc_new (w.alloc (Go.Obj.map #[] 0)) (Go.Obj.cells #[.map (some w.heap.size)] 105)
  simpa using this
 ·exact (World.ownsMap_made w _ _ _).alloc _
 ·rintro e w' ⟨rfl,hb⟩
  go_wp2
  go_ret
  exact ⟨rfl,hb⟩
def zq968 : Con:=con [.one (.row .lease 52)] [.one (.fl .bool)] (fun x => zq970 x.1)
theorem zq1702 (l : List Ls) (y : Bool × Unit) (hx : zq970 l = some y) (ρ : Nat → Value) (us vals : List Value) (w : World)
  (hu : zq0 w ρ 0 vals (encA false [.one (.row .lease 52)] (l,()) 0).1 (encA false [.one (.row .lease 52)] (l,()) 0).2 us) :
  Calls Tryz.prog 49 vals.toArray w fun e w' => ∃ ρc r m',e = .returned (den ρc r) ∧ RelM w ρc m' w' ∧ resR [.one (.fl .bool)] r m' = some y:=by
 have hg:=zq665 us
 have hlen:=hu.len
 have hdenv:=hu.den _ hg
 obtain ⟨v,rfl⟩ : ∃ v,us = [v]:=by
  have hl1 : us.length = 1:=hlen
  match us,hl1 with
  | [v],_ => exact ⟨v,rfl⟩
 obtain ⟨hob,_⟩:=hu.obj w _ hg 0 (.row (.ty .lease l) 52 false) v rfl rfl
 obtain ⟨_,_,hrow0⟩:=hob
 rw [if_neg (by simp)] at hrow0
 have hrow : RowIs w v l.length 5 (l.flatMap fun a => denL (zq1065 [v]) (K.enc .lease a)):=hrow0
 obtain ⟨hq,hx⟩:=zq1399 hx
 simp only [zc4,zc17] at hq
 have hq1 : l.length ≤ 1024:=Nat.le_of_ble_eq_true hq.1
 have hq2 : ∀ x ∈ l,x.who.size ≤ 1024:=fun x hx => Nat.le_of_ble_eq_true (hq.2 x hx)
 injection hx with hx
 subst hx
 have hrowW : ∀ W,Below w.heap.size w W → RowIs W v l.length 5 (l.flatMap fun a => denL (zq1065 [v]) (K.enc .lease a)):=fun W hW => zq1426 hrow hW
 obtain ⟨_,A,cap,hv,hn,hc,hA,_⟩:=hrow
 have hvals : vals = [.slice A l.length cap]:=hdenv.symm.trans (by rw [hv];rfl)
 subst hvals
 refine (zq1703 (H:=Unit) A l cap w hq1 hq2 (fun W hW k hk => ?_) (fun h e => by have:=hA e;omega)).mono ?_
 ·obtain ⟨_,A',cap',hv',_,_,hA',hcells⟩:=hrowW W hW
  rw [hv] at hv'
  injection hv' with h1 h2 h3
  subst h1
  cases A with
  | none => have:=hA rfl;omega
  | some a =>
   obtain ⟨hlt,hcl⟩:=hcells a rfl
   refine ⟨a,rfl,fun i u hi => ?_⟩
   rw [add_add']
   exact hcl _ _ (zq625 (zq1065 [v]) .lease l k (l[k]) (zc0 hk) i u hi)
 ·rintro e w' ⟨rfl,hb⟩
  refine ⟨fun _ => Go.undef,.b (zq1699 [] l),[],rfl,?_,rfl⟩
  exact ⟨hb,fun j o h => by simp at h,fun i j o o' _ h => by simp at h,fun j o h => by simp at h⟩
theorem zq969 : TrOk Tryz.prog 49 zq968:=zq505 _ _ _ fun x y hx ρ us vals w _ hu => zq1702 x.1 y hx ρ us vals w hu
end Go.Proofs.YtpnpfgihgfbipaaGreat
namespace Go.Proofs.YtpnpfgihgfbipaaGreat
open Go Go.Ma Go.RowKit Go.Proofs
def cur (bs : List UInt8) (j : Nat) : List UInt8:=bs.take j ++ List.replicate (bs.length - j) 48
theorem zq511 (bs : List UInt8) (j : Nat) (h : j ≤ bs.length) : (cur bs j).length = bs.length:=by simp [cur];omega
theorem zq510 (bs : List UInt8) : cur bs bs.length = bs:=by simp [cur]
theorem cur_at (bs : List UInt8) (q : Nat) (h : q < bs.length) : (cur bs (q + 1))[q]? = some bs[q]:=by
 unfold cur
 rw [zc6 (by simp;omega),List.getElem?_take_of_lt (by omega),zc0 h]
theorem zq513 (bs : List UInt8) (q : Nat) (h : q < bs.length) : (cur bs (q + 1)).set q 48 = cur bs q:=by
 unfold cur
 rw [zc26 h,zc45,List.set_append_right _ _ (by simp;omega)]
 have : q - (bs.take q).length = 0:=by simp;omega
 rw [this]
 have h2 : bs.length - q = bs.length - (q + 1) + 1:=by omega
 rw [h2,List.replicate_succ]
 rfl
theorem zq512 (bs : List UInt8) (q : Nat) (h : q < bs.length) : (cur bs (q + 1)).set q 49 = bs.take q ++ 49 :: List.replicate (bs.length - (q + 1)) 48:=by
 unfold cur
 rw [zc26 h,zc45,List.set_append_right _ _ (by simp;omega)]
 have : q - (bs.take q).length = 0:=by simp;omega
 rw [this]
 rfl
def IncAt (bs : List UInt8) (j : Nat) : Prop:=incR bs.reverse = (incR (bs.take j).reverse).map (List.replicate (bs.length - j) 48 ++ ·)
theorem zq700 (bs : List UInt8) : IncAt bs bs.length:=by simp [IncAt]
theorem zq703 {bs : List UInt8} (h : IncAt bs 0) : incR bs.reverse = none:=by simpa [IncAt,incR] using h
theorem zq702 {bs : List UInt8} {q : Nat} (h : q < bs.length) (hi : IncAt bs (q + 1)) (hc : ¬ bs[q] = 48) : IncAt bs q:=by
 unfold IncAt at *
 rw [hi,zc26 h,List.reverse_append]
 show Option.map _ (incR (bs[q] :: (bs.take q).reverse)) = _
 simp only [incR,hc,if_false,Option.map_map]
 congr 1
 funext l
 have h2 : bs.length - q = bs.length - (q + 1) + 1:=by omega
 simp only [Function.comp,h2,List.replicate_succ',zc45]
 rfl
theorem zq701 {bs : List UInt8} {q : Nat} (h : q < bs.length) (hi : IncAt bs (q + 1)) (hc : bs[q] = 48) : ∃ l,incR bs.reverse = some l ∧ l.reverse = (cur bs (q + 1)).set q 49:=by
 unfold IncAt at *
 rw [zc26 h,List.reverse_append] at hi
 have : incR ((bs[q] :: (bs.take q).reverse)) = some (49 :: (bs.take q).reverse):=by simp only [incR,hc,if_true]
 rw [show [bs[q]].reverse ++ (bs.take q).reverse = bs[q] :: (bs.take q).reverse from rfl,this] at hi
 exact ⟨_,hi,by rw [zq512 _ _ h];simp⟩
theorem set3h {w : World} {N : Nat} {x y z a b c : Value} {t : TypeId} (h : w.heap[N]? = some (Go.Obj.cells #[x,y,z] t (0,0))) :
  (((w.setCell ⟨N,0,none⟩ a).setCell ⟨N,1,none⟩ b).setCell ⟨N,2,none⟩ c).heap[N]? = some (Go.Obj.cells #[a,b,c] t (0,0)) ∧
  (∀ k,k ≠ N → (((w.setCell ⟨N,0,none⟩ a).setCell ⟨N,1,none⟩ b).setCell ⟨N,2,none⟩ c).heap[k]? = w.heap[k]?) ∧
  Below N w (((w.setCell ⟨N,0,none⟩ a).setCell ⟨N,1,none⟩ b).setCell ⟨N,2,none⟩ c):=by
 obtain ⟨h1,h2,_⟩:=zq1458 w N 0 [a,b,c] #[x,y,z] t (0,0) h
 refine ⟨h1,h2,?_⟩
 exact (((Below.refl N w).setCell (p:=⟨N,0,none⟩) (zc46 _) _).setCell (p:=⟨N,1,none⟩) (zc46 _) _).setCell (p:=⟨N,2,none⟩) (zc46 _) _
theorem zq1691 {w : World} {N : Nat} {a b c : Value} {t : TypeId} (this : w.heap[N]? = some (Go.Obj.cells #[a,b,c] t (0,0))) :
  w.cell? ⟨N,0,none⟩ = some a ∧ w.cell? ⟨N,1,none⟩ = some b ∧ w.cell? ⟨N,2,none⟩ = some c ∧ w.frozen? ⟨N,0,none⟩ = false ∧ w.frozen? ⟨N,1,none⟩ = false ∧ w.frozen? ⟨N,2,none⟩ = false:=by
 refine ⟨?_,?_,?_,?_,?_,?_⟩ <;> simp [World.cell?,World.frozen?,this]
def adV3 (a : Ad) : Value:=.agg #[.bool a.v6,.int .u64 a.hi,.int .u64 a.lo]
def zq1 (C : Array Value) (l : List UInt8) : Prop:=∀ q (h : q < l.length),C[q]? = some (.int .u8 (l[q].toNat : Int))
theorem zq457 {C : Array Value} {l : List UInt8} (h : zq1 C l) {q : Nat} (hq : q < l.length) (c : UInt8) : zq1 (C.setIfInBounds q (.int .u8 (c.toNat : Int))) (l.set q c):=by
 intro k hk
 have hk' : k < l.length:=by simpa using hk
 by_cases e : k = q
 ·subst e
  have:=(zc27.1 (h k hk')).1
  simp [this]
 ·rw [Array.getElem?_setIfInBounds_ne (by omega),List.getElem_set_ne (by omega)]
  exact h k hk'
set_option maxRecDepth 100000 in
set_option maxHeartbeats 4000000 in
theorem zq1085 (a : Ad) (s : ByteArray) (w : World) (hs : s.size ≤ 1024) (r : Ad × Bool) (HB : ∀ W,Below w.heap.size w W → Calls Tryz.prog 61 #[adV3 a] W fun e w' => e = .returned (.string s) ∧ Below W.heap.size W w')
  (hnone : incR s.data.toList.reverse = none → r = (⟨false,0,0⟩,false))
  (hsome : ∀ l,incR s.data.toList.reverse = some l → ∃ b,r = (b,true) ∧ ∀ W,Below w.heap.size w W → Calls Tryz.prog 84 #[.string ⟨l.reverse.toArray⟩] W fun e w' => e = .returned (adV3 b) ∧ Below W.heap.size W w') :
  Calls Tryz.prog 62 #[adV3 a] w fun e w' => e = .returned (.tuple #[adV3 r.1,.bool r.2]) ∧ Below w.heap.size w w':=by
 have hcv:=fun w s => run_bytes_of_string (P:=Tryz.prog) w 9 110 5 s Tryz.underlying9 Tryz.underlying110 Tryz.underlying5
 have HBx:=HB _ ((((Below.refl w.heap.size w).alloc (zc46 _) (.cells #[.bool a.v6,.int .u64 a.hi,.int .u64 a.lo] 28)).alloc (by simp) (.cells #[.bool false,.int .u64 0,.int .u64 0] 28)))
 simp only [adV3] at HBx ⊢
 go_enter Tryz.func62,Tryz.ntmps62
 go_wp2_with (go_at_call 61;refine HBx.mono ?_;rintro e w1 ⟨rfl,hb1⟩)
 obtain ⟨B,hB⟩ : ∃ B,B = w1.heap.size:=⟨_,rfl⟩
 obtain ⟨cap,hcap⟩ : ∃ cap,cap = grownCap w1 s.size 0 5:=⟨_,rfl⟩
 rw [← hB,← hcap]
 obtain ⟨C0,hC0⟩ : ∃ C0,C0 = bytesRow s cap:=⟨_,rfl⟩
 rw [← hC0]
 obtain ⟨bs,hbs⟩ : ∃ bs,bs = s.data.toList:=⟨_,rfl⟩
 have hn : s.size = bs.length:=by rw [hbs];simp
 have hcells0 : zq1 C0 bs:=fun q hq => by
  rw [hC0,bytesRow,Array.getElem?_append_left (by simp;omega)]
  subst hbs
  simp at hq
  simp [hq]
 have hw1 : w.heap.size + 1 < w1.heap.size:=by have:=hb1.size;simp at this;omega
 have hres : w1.heap[w.heap.size + 1]? = some (Go.Obj.cells #[.bool false,.int .u64 0,.int .u64 0] 28 (0,0)):=by
  refine (hb1.block (w.heap.size + 1) (by simp)).trans ?_
  have:=heap_alloc_new (w.alloc (Go.Obj.cells #[.bool a.v6,.int .u64 a.hi,.int .u64 a.lo] 28)) (Go.Obj.cells #[.bool false,.int .u64 0,.int .u64 0] 28)
  simpa using this
 have hbw : Below w.heap.size w w1:=(((Below.refl w.heap.size w).alloc (zc46 _) _).alloc (by simp) _).trans (hb1.mono (by simp;omega))
 rw [hn]
 have HN : Hid (incR bs.reverse = none → r = (⟨false,0,0⟩,false)):=by rw [hbs];exact hnone
 have HS : Hid (∀ l,incR bs.reverse = some l → ∃ b,r = (b,true) ∧ ∀ W,Below w.heap.size w W → Calls Tryz.prog 84 #[.string ⟨l.reverse.toArray⟩] W fun e w' => e = .returned (adV3 b) ∧ Below W.heap.size W w'):=by rw [hbs];exact hsome
 have HM : Hid (bs.length ≤ 1024):=by rw [← hn];exact hs
 clear hnone hsome hcv HBx HB hbs hC0 hcap hs hn
 go_loopw [5] (fun i wr => ∃ (j : Nat) (C : Array Value) (iv : Int),j ≤ bs.length ∧ i = .int .i64 iv ∧ iv = (j : Int) - 1 ∧ wr.heap[B]? = some (.cells C 5 (C.size,C.size + 1)) ∧ zq1 C (cur bs j) ∧ IncAt bs j ∧
   wr.heap[w.heap.size + 1]? = some (.cells #[.bool false,.int .u64 0,.int .u64 0] 28 (0,0)) ∧ Below w.heap.size w wr)
  (fun i _ => (intOf i + 1).toNat)
 case atStart =>
  refine ⟨bs.length,C0,_,zc46 _,rfl,?_,?_,by rw [zq510];exact hcells0,zq700 _,?_,?_⟩
  ·have:=HM.out
   first | rfl | omega
  ·subst hB
   exact heap_alloc_new w1.drew _
  ·exact (Below.heap_alloc w1.drew _ (w.heap.size + 1) hw1).trans hres
  ·exact (show Below w.heap.size w w1.drew from ⟨hbw.os,hbw.tape,hbw.output,hbw.size,hbw.block⟩).alloc (show w.heap.size ≤ w1.heap.size by omega) _
 case round =>
  obtain ⟨j,C,iv,hj,rfl,hiv,hC,hbc,hinc,hz,hbw⟩:=hrel
  have hwB : w.heap.size + 1 < B:=by omega
  cases j with
  | zero =>
   have hneg : ¬ (0 : Int) ≤ iv:=by omega
   have hr:=HN.out (zq703 hinc)
   obtain ⟨z0,z1,z2,z3,z4,z5⟩:=zq1691 hz
   obtain ⟨s1,s2,s3⟩:=set3h (a:=.bool false) (b:=.int .u64 0) (c:=.int .u64 0) hz
   obtain ⟨y0,y1,y2,_⟩:=zq1691 s1
   have HP : Hid (Below (w.heap.size + 1) wr (((wr.setCell ⟨w.heap.size + 1,0,none⟩ (.bool false)).setCell ⟨w.heap.size + 1,1,none⟩ (.int .u64 0)).setCell ⟨w.heap.size + 1,2,none⟩ (.int .u64 0)) ∧ Below w.heap.size w wr ∧ r = (⟨false,0,0⟩,false)):=⟨s3,hbw,hr⟩
   clear HS HM HN hr s1 s2 s3 hbw hbc hinc hC hz hres hcells0 hb1 hB hw1 hiv
   go_wp2
   have hB3:=HP.out.2.1.trans (HP.out.1.mono (by omega))
   refine bodyPost_ret (v:=.tuple #[.agg #[.bool false,.int .u64 0,.int .u64 0],.bool false]) ?_ rfl ⟨?_,hB3⟩
   ·simp [results,Tryz.f62,go_sem,y0,y1,y2]
   ·rw [HP.out.2.2]
  | succ q =>
   obtain rfl : iv = (q : Int):=by omega
   have hlt : q < bs.length:=by omega
   have hwr : wrap64 ((q : Int) - 1) = (q : Int) - 1:=by have:=HM.out;unfold wrap64;omega
   have hlc:=zq511 bs (q + 1) hj
   have hat : (cur bs (q + 1))[q]'(by omega) = bs[q]:=by
    have:=cur_at bs q hlt
    rw [zc0 (by omega)] at this
    simpa using this
   have hcell:=hbc q (by omega)
   rw [hat] at hcell
   have cB : wr.cell? ⟨B,q,none⟩ = some (.int .u8 (bs[q].toNat : Int)):=by simp [World.cell?,hC,hcell]
   have fB : wr.frozen? ⟨B,q,none⟩ = false:=by
    have:=(zc27.1 hcell).1
    simp [World.frozen?,hC]
    omega
   have hset:=fun v => zq1457 wr B q v C 5 (C.size,C.size + 1) hC
   by_cases hc : bs[q] = 48
   ·have hcI : (bs[q].toNat : Int) = 48:=by rw [hc];rfl
    obtain ⟨l,hl1,hl2⟩:=zq701 hlt hinc hc
    obtain ⟨b,hr,HA⟩:=HS.out l hl1
    simp only [adV3] at HA
    have hl3 : (l.reverse).length = bs.length:=by rw [hl2];simpa using hlc
    have hback : ∀ W,W = wr.setCell ⟨B,q,none⟩ (.int .u8 49) → (convert 110 9 (.slice (some ⟨B,0,none⟩) bs.length cap)).run Tryz.prog W = .ok (.string ⟨l.reverse.toArray⟩) W:=by
     rintro W rfl
     have hb:=zq457 hbc (q:=q) (by omega) 49
     rw [← hl2] at hb
     have:=run_convert_bytes_back (P:=Tryz.prog) (wr.setCell ⟨B,q,none⟩ (.int .u8 49)) 110 9 5 ⟨B,0,none⟩ cap l.reverse Tryz.underlying110 Tryz.underlying5 Tryz.underlying9 (fun j hj => by
      rw [Addr.add_lit,Nat.zero_add]
      have e:=hset (.int .u8 49)
      simp only [World.cell?,e]
      exact hb j hj)
     rwa [hl3] at this
    have HK : Hid (∀ W,W = wr.setCell ⟨B,q,none⟩ (.int .u8 49) → (convert 110 9 (.slice (some ⟨B,0,none⟩) bs.length cap)).run Tryz.prog W = .ok (.string ⟨l.reverse.toArray⟩) W):=hback
    have hback1:=hback _ rfl
    have HA' : Hid (∀ W,Below w.heap.size w W → Calls Tryz.prog 84 #[.string ⟨l.reverse.toArray⟩] W fun e w' => e = .returned (.agg #[.bool b.v6,.int .u64 b.hi,.int .u64 b.lo]) ∧ Below W.heap.size W w'):=HA
    have hz2 : (wr.setCell ⟨B,q,none⟩ (.int .u8 49)).heap[w.heap.size + 1]? = some (.cells #[.bool false,.int .u64 0,.int .u64 0] 28 (0,0)):=(Below.heap_setCell _ ⟨B,q,none⟩ _ _ (by show w.heap.size + 1 ≠ B;omega)).trans hz
    have hbw2 : Below w.heap.size w (wr.setCell ⟨B,q,none⟩ (.int .u8 49)):=hbw.setCell (p:=⟨B,q,none⟩) (by show w.heap.size ≤ B;omega) _
    have HP : Hid ((wr.setCell ⟨B,q,none⟩ (.int .u8 49)).heap[w.heap.size + 1]? = some (.cells #[.bool false,.int .u64 0,.int .u64 0] 28 (0,0)) ∧ Below w.heap.size w (wr.setCell ⟨B,q,none⟩ (.int .u8 49)) ∧ r = (b,true)):=⟨hz2,hbw2,hr⟩
    clear HS HM HN hset hcell hat hlc hbc hinc hC hz hbw hres hcells0 hb1 hB hw1 hiv hz2 hbw2 hr HA HK hback hl2 hl1 hl3 hc
    go_wp2_with (go_at_call 84;refine (HA'.out _ HP.out.2.1).mono ?_;rintro e w2 ⟨rfl,hb2⟩;obtain ⟨z0,z1,z2,z3,z4,z5⟩:=zq1691 ((hb2.block _ (zc27.1 HP.out.1).1).trans HP.out.1))
    obtain ⟨hz2,hbw2,hr⟩:=HP.out
    obtain ⟨s1,s2,s3⟩:=set3h (a:=.bool b.v6) (b:=.int .u64 b.hi) (c:=.int .u64 b.lo) ((hb2.block _ (zc27.1 hz2).1).trans hz2)
    obtain ⟨y0,y1,y2,_⟩:=zq1691 s1
    have hB3:=(hbw2.trans (hb2.mono hbw2.size)).trans (s3.mono (by omega))
    refine bodyPost_ret (v:=.tuple #[.agg #[.bool b.v6,.int .u64 b.hi,.int .u64 b.lo],.bool true]) ?_ rfl ⟨?_,hB3⟩
    ·simp [results,Tryz.f62,go_sem,y0,y1,y2]
    ·rw [hr]
   ·have hcI : ¬ (bs[q].toNat : Int) = 48:=fun e => hc (by
     have : bs[q].toNat = 48:=by omega
     exact UInt8.toNat_inj.1 (by rw [this];rfl))
    have HP : Hid ((wr.heap[B]? = some (.cells C 5 (C.size,C.size + 1)) ∧ zq1 C (cur bs (q + 1)) ∧ IncAt bs (q + 1)) ∧ (wr.heap[w.heap.size + 1]? = some (.cells #[.bool false,.int .u64 0,.int .u64 0] 28 (0,0)) ∧ Below w.heap.size w wr)):=⟨⟨hC,hbc,hinc⟩,hz,hbw⟩
    clear HS HM HN hset hcell hat hlc hbc hinc hC hz hbw hres hcells0 hb1 hB hw1 hiv
    go_wp2
    go_roundw
    case rel =>
     obtain ⟨⟨hC,hbc,hinc⟩,hz,hbw⟩:=HP.out
     have hlc:=zq511 bs (q + 1) hj
     have hset:=zq1457 wr B q (.int .u8 48) C 5 (C.size,C.size + 1) hC
     refine ⟨q,C.setIfInBounds q (.int .u8 48),(q : Int) - 1,by omega,?_,rfl,?_,?_,zq702 hlt hinc hc,?_,?_⟩
     ·first | rw [hwr] | rfl
     ·rw [hset];simp
     ·rw [← zq513 bs q hlt]
      exact zq457 hbc (by omega) 48
     ·exact (Below.heap_setCell _ ⟨B,q,none⟩ _ _ (by show w.heap.size + 1 ≠ B;omega)).trans hz
     ·exact hbw.setCell (p:=⟨B,q,none⟩) (by show w.heap.size ≤ B;omega) _
    case measure =>
     first | (simp only [hwr,intOf];omega) | (simp only [intOf];omega)
theorem zq637 {k : K} (w : World) (ρ : Nat → Value) (a : k.T) (v : Value) (n : Nat) (h : ∀ ρ,v = den ρ (flV k a)) : zq0 w ρ n [v] [flV k a] [] [] :=
 ⟨rfl,fun ρ' _ => by simp only [denL,h ρ'],fun _ _ _ i o v h => by simp at h,by simp only [ltL,zq617,Bool.and_self],fun o h => by cases h⟩
def zq180 : Con:=con [.one (.fl .addr)] [.one (.fl .addr),.one (.fl .bool)] (fun x => zq183 x.1)
theorem zq1084 (a : Ad) (y : Ad × Bool × Unit) (hx : zq183 a = some y) (ρ : Nat → Value) (us vals : List Value) (w : World) (hG : Glob Tryz.prog w)
  (hu : zq0 w ρ 0 vals (encA false [.one (.fl .addr)] (a,()) 0).1 (encA false [.one (.fl .addr)] (a,()) 0).2 us) :
  Calls Tryz.prog 62 vals.toArray w fun e w' => ∃ ρc r m',e = .returned (den ρc r) ∧ RelM w ρc m' w' ∧ resR [.one (.fl .addr),.one (.fl .bool)] r m' = some y:=by
 have hg:=zq665 us
 have hdenv:=hu.den _ hg
 have hvals : vals = [adV3 a]:=hdenv.symm
 subst hvals
 obtain ⟨ra,rb,ru⟩:=y
 unfold zq183 at hx
 obtain ⟨y1,h1,hx⟩:=zc8.1 hx
 obtain ⟨s,us1⟩:=y1
 obtain ⟨hq,hx⟩:=zq1399 hx
 have hq : s.size ≤ 1024:=Nat.le_of_ble_eq_true hq
 refine (zq1085 a s w hq (ra,rb) (fun W hW => ?_) (fun hn => ?_) (fun l hl => ?_)).mono ?_
 ·have ha:=zq637 (k:=.addr) W (fun _ => Go.undef) a (adV3 a) 0 (fun _ => rfl)
  refine (zq621 (hG.mono hW) zq28 (x:=(a,())) h1 rfl rfl ha).mono ?_
  rintro e w' ⟨⟨ρ',rfl⟩,hb'⟩
  exact ⟨rfl,hb'⟩
 ·rw [show (s,us1).1.data.toList = s.data.toList from rfl,hn] at hx
  cases hx
  rfl
 ·rw [show (s,us1).1.data.toList = s.data.toList from rfl,hl] at hx
  obtain ⟨z,hz,hx⟩:=zc8.1 hx
  cases hx
  refine ⟨z.1,rfl,fun W hW => ?_⟩
  have ha:=zq637 (k:=.str) W (fun _ => Go.undef) (⟨l.reverse.toArray⟩ : ByteArray) (.string ⟨l.reverse.toArray⟩) 0 (fun _ => rfl)
  refine (zq621 (hG.mono hW) zq16 (x:=((⟨l.reverse.toArray⟩ : ByteArray),())) hz rfl rfl ha).mono ?_
  rintro e w' ⟨⟨ρ',rfl⟩,hb'⟩
  exact ⟨rfl,hb'⟩
 ·rintro e w' ⟨rfl,hb⟩
  refine ⟨fun _ => Go.undef,.tup [.agg [.b ra.v6,.i .u64 ra.hi,.i .u64 ra.lo],.b rb],[],rfl,?_,rfl⟩
  exact ⟨hb,fun j o h => by simp at h,fun i j o o' _ h => by simp at h,fun j o h => by simp at h⟩
theorem zq182 : TrOk Tryz.prog 62 zq180:=zq505 _ _ _ fun x y hx ρ us vals w hG hu => zq1084 x.1 y hx ρ us vals w hG hu
end Go.Proofs.YtpnpfgihgfbipaaGreat
