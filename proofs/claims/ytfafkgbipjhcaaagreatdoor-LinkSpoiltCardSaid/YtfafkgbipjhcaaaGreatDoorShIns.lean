/- What slices.Insert and slices.Delete want: appends of zeros, appends within the room, clear, a row just laid. Nothing of any one program stands here. -/
import Derived.Test.YtfafkgbipjhcaaaGreatDoorShOpen
import Derived.Lib.AppendZeros
import Derived.Lib.Overlaps
import Derived.Lib.SliceRun
import Derived.Laws.Externs
namespace Go.Sh
open Go.RowKit
section
variable {P : Program} {Z : List PanicEntry → World → Prop} {o w w' : World} {kk : Value → World → Prop} {R As : List HProp} {t tx tn e ty : TypeId} {sz bt n m : Nat} {z v x : Value} {xs ys : List Value}
theorem str_size (l : List UInt8) : (str l).size = l.length := rfl
theorem str_toList (l : List UInt8) : (str l).toList = l := by rw [ByteArray.toList_eq]; rfl
theorem str_data (s : ByteArray) : str s.data.toList = s := rfl
theorem run_indexStr {t : TypeId} (h : isStrT P t = true) (k : IntKind) (l : List UInt8) (i : Nat) (hi : i < l.length) (w : World) : (Instr.index t (.string (str l)) (.int k i)).run P w = .ok (.int .u8 (l[i].toNat : Int)) w := by
  have hs : (str l)[i]? = some l[i] := by
    have h1 : i < (str l).size := hi
    rw [getElem?_pos (str l) i h1]
    rfl
  simp [Instr.index, asIntOf, run_underlying (isStrT_spec h), hs]
theorem run_eql_strS (t : TypeId) (cx cy : Bool) (a b : List UInt8) (w : World) : (eqOp .eql t cx cy (.string (str a)) (.string (str b))).run P w = .ok (.bool (decide (a = b))) w := by
  rw [run_eql_str, str_toList, str_toList]
  congr 2
  by_cases h : a = b <;> simp [h]
theorem run_neq_strS (t : TypeId) (cx cy : Bool) (a b : List UInt8) (w : World) : (eqOp .neq t cx cy (.string (str a)) (.string (str b))).run P w = .ok (.bool (!decide (a = b))) w := by
  rw [run_neq_str, str_toList, str_toList]
  congr 3
  by_cases h : a = b <;> simp [h]
end
end Go.Sh
