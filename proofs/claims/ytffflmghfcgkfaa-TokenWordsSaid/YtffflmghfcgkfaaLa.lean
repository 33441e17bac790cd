/- The walks of the laws that compare the program with the reference. -/
import Derived.Test.YtffflmghfcgkfaaAw
namespace Go.Proofs.Ytffflmghfcgkfaa
open Go.RowKit Tk

set_option maxHeartbeats 1000000 in
theorem lawWords (s : ByteArray) (w : World) (hs : s.size ≤ maxLen) : Calls Try.prog 4 #[.string s] w (BPost true w) := by
  by_cases h3 : 3000 < s.size
  · unfold maxLen at hs
    go_enter Try.func4, Try.ntmps4
    go_wp2_with (first | ((with_reducible refine wpTxt_q ?_ ?_ ?_); rfl; rfl; intro _ _) | ((with_reducible refine wpTxt_w0 ?_ ?_ ?_); rfl; rfl; intro _ _) | ((with_reducible refine wpTxt_s ?_ ?_); rfl; intro _ _; go_simp) | ((with_reducible refine wpTxt_sw ?_ ?_); rfl; intro _ _; go_simp) | (with_reducible refine wpTxt_nil ?_) | ((with_reducible refine wp_region_t mixed ?_ ?_); decide +kernel; intro _ _) | (go_at_call 13; ((with_reducible refine (awake_any _).mono ?_); rintro e w9 ⟨rfl, hb9⟩)))
    go_ret
    exact bpost rfl hb9
  · have hx := hs
    unfold maxLen at hs
    cases hk : kwB s.data.toList <;> cases hn : nameB s.data.toList
    all_goals
      go_enter Try.func4, Try.ntmps4
      go_wp2_with (first | ((with_reducible refine wpTxt_q ?_ ?_ ?_); rfl; rfl; intro _ _) | ((with_reducible refine wpTxt_w0 ?_ ?_ ?_); rfl; rfl; intro _ _) | ((with_reducible refine wpTxt_s ?_ ?_); rfl; intro _ _; go_simp) | ((with_reducible refine wpTxt_sw ?_ ?_); rfl; intro _ _; go_simp) | (with_reducible refine wpTxt_nil ?_) | ((with_reducible refine wp_region_t mixed ?_ ?_); decide +kernel; intro _ _) | (go_at_call 17; ((with_reducible refine (tKeyword_any _ _).mono ?_); rintro e w' ⟨rfl, rfl⟩)) | (go_at_call 18; ((with_reducible refine (rKeyword_any _ _).mono ?_); rintro e w' ⟨rfl, rfl⟩)) | (go_at_call 19; ((with_reducible refine (tIdentifier_any _ hx _).mono ?_); rintro e w' ⟨rfl, rfl⟩)) | (go_at_call 20; ((with_reducible refine (rIdentifier_any _ hx _).mono ?_); rintro e w' ⟨rfl, rfl⟩)) | (go_at_call 13; ((with_reducible refine (awake_any _).mono ?_); rintro e w9 ⟨rfl, hb9⟩)))
      go_ret
      exact bpost rfl hb9
end Go.Proofs.Ytffflmghfcgkfaa
