/- Small words that every walk uses. -/
import Derived.Test.YtnifgkgdphlleaaRows
import Derived.Test.YtnifgkgdphlleaaCan
import Derived.Test.YtnifgkgdphlleaaTk
import Derived.WalkKit
import Derived.WalkSpells
import Derived.WalkLawsBesides
import Derived.Lib.Hide
set_option linter.unusedSimpArgs false
set_option linter.unusedVariables false
namespace Go.Proofs.Ytnifgkgdphlleaa
open Go.RowKit Tk
theorem mixed : Try.prog.follows .mixedOrders = true := by kernel_rfl
@[go_sem] theorem wrap32_byte (c : UInt8) : wrap32 (c.toNat : Int) = (c.toNat : Int) := by
  have := c.toNat_lt; exact IntWalk.wrap32_in _ ⟨by omega, by omega⟩
@[go_sem] theorem wrap64_byte (c : UInt8) : wrap64 (c.toNat : Int) = (c.toNat : Int) := by
  have := c.toNat_lt; exact IntWalk.wrap64_in _ ⟨by omega, by omega⟩
@[go_sem] theorem kwrap32_byte (c : UInt8) : IntKind.i32.wrap (c.toNat : Int) = (c.toNat : Int) := by
  have := c.toNat_lt; exact IntWalk.i32_in _ ⟨by omega, by omega⟩
@[go_sem] theorem kwrap64_byte (c : UInt8) : IntKind.i64.wrap (c.toNat : Int) = (c.toNat : Int) := by
  have := c.toNat_lt; exact IntWalk.i64_in _ ⟨by omega, by omega⟩
theorem ret_bool {a b : Bool} (h : a = b) : Ending.returned (.bool a) = .returned (.bool b) := by rw [h]
theorem ret_int {k : IntKind} {a b : Int} (h : a = b) : Ending.returned (.int k a) = .returned (.int k b) := by rw [h]
theorem bl (s : ByteArray) : s.toList = s.data.toList := by rw [ByteArray.toList_eq]
theorem some_of {s : ByteArray} (h : 0 < s.size) : ¬ s.toList = [] ∧ s.toList.isEmpty = false := by
  have := isEmpty_of s h
  rw [bl]
  exact ⟨fun h' => (by rw [h'] at this; cases this), this⟩
theorem none_of {s : ByteArray} (h : ¬ 0 < s.size) : s.toList = [] := by rw [bl]; exact isEmpty_no s h
end Go.Proofs.Ytnifgkgdphlleaa
