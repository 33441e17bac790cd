/- The walks of the reference's functions that make a state. -/
import Derived.Test.YtjpgnadfbejihaaSr
import Derived.Test.YtjpgnadfbejihaaAp
set_option linter.unusedSimpArgs false
set_option linter.unusedVariables false
namespace Go.Proofs.Ytjpgnadfbejihaa
open Go.RowKit Tk
def strC (s : ByteArray) : List Value := [.string s]
theorem strC_l (s : ByteArray) : (strC s).length = 1 := rfl
theorem strC_one (s : ByteArray) : ∀ c ∈ strC s, Value.oneCell' c = true := by intro c hc; simp [strC] at hc; subst hc; rfl
theorem alC_one (p : ByteArray × Int) : ∀ c ∈ alC p, Value.oneCell' c = true := by intro c hc; simp [alC] at hc; rcases hc with rfl | rfl <;> rfl
theorem flat_str (xs : List ByteArray) : xs.flatMap strC = xs.map Value.string := by
  induction xs with
  | nil => rfl
  | cons x xs ih => rw [List.flatMap_cons, ih]; rfl
theorem Row.o {w : World} {v : Value} {xs : List ByteArray} (h : Row w v xs) : ORow w 9 1 strC v xs := by unfold ORow; rw [flat_str]; exact h
theorem Row.of {w : World} {v : Value} {xs : List ByteArray} (h : ORow w 9 1 strC v xs) : Row w v xs := by unfold ORow at h; rw [flat_str] at h; exact h
theorem info_al : (Try.prog.info? 67).map (fun i => (i.zero, i.size, i.bytes)) = some (some (.agg #[.string ⟨#[]⟩, .int .i64 0]), 2, 24) := by kernel_rfl
theorem und_als : Try.prog.underlying 26 = some (.slice 67) := by kernel_rfl
def SPost (R : List Nat) (T : TS) (w : World) (r : Value → Value) (e : Ending) (w' : World) : Prop := ∃ nv av, e = .returned (r (.agg #[.int .i64 T.lim, nv, av])) ∧ StA w' nv av T ∧ Below w.heap.size w w' ∧ ∀ x ∈ ownB nv ++ ownB av, x ∈ R ∨ w.heap.size ≤ x
set_option maxHeartbeats 400000 in
theorem r4First_yes (n : Int) (w : World) (h0 : 0 ≤ n) (h1 : n ≤ 4096) : Calls Try.prog 10 #[.int .i64 n] w (SPost [] ⟨n, [], []⟩ w fun v => .tuple #[v, .bool true]) := by
  go_enter Try.func10, Try.ntmps10
  go_wp2_with (first | ((with_reducible refine wpTxt_q ?_ ?_ ?_); rfl; rfl; intro _ _) | ((with_reducible refine wpTxt_w0 ?_ ?_ ?_); rfl; rfl; intro _ _) | ((with_reducible refine wpTxt_s ?_ ?_); rfl; intro _ _; go_simp) | ((with_reducible refine wpTxt_sw ?_ ?_); rfl; intro _ _; go_simp) | (with_reducible refine wpTxt_nil ?_) | ((with_reducible refine wp_region_t mixed ?_ ?_); decide +kernel; intro _ _))
  refine bodyPost_ret (v := .tuple #[.agg #[.int .i64 n, .slice none 0 0, .slice none 0 0], .bool true]) (by simp [results, Try.f10, go_sem]) rfl ⟨_, _, rfl, ⟨?_, ?_, ?_⟩, by (repeat (first | with_reducible assumption | with_reducible exact Below.refl _ _ | ((with_reducible refine Below.setCell ?_ ?_ _); rotate_left; (· first | omega | (simp only [World.size_alloc, World.size_drew, World.size_setCell]; omega) | (dsimp only; omega))) | ((with_reducible refine Below.alloc ?_ ?_ _); rotate_left; (· first | omega | (simp only [World.size_alloc, World.size_drew, World.size_setCell]; omega))) | ((with_reducible refine Below.drewN' ?_ _)) | ((with_reducible refine Below.drew ?_)))), by simp [ownB, Value.ownBlock]⟩
  · exact World.ownsRow_nil _ _ _ _
  · exact ORow.nil _ _ _ _
  · exact ⟨h0, h1, h0, Nat.zero_le _⟩
set_option maxHeartbeats 400000 in
theorem r4First_no (n : Int) (w : World) (h : n < 0 ∨ 4096 < n) : Calls Try.prog 10 #[.int .i64 n] w (SPost [] ⟨0, [], []⟩ w fun v => .tuple #[v, .bool false]) := by
  rcases h with h | h
  all_goals
    go_enter Try.func10, Try.ntmps10
    go_wp2_with (first | ((with_reducible refine wpTxt_q ?_ ?_ ?_); rfl; rfl; intro _ _) | ((with_reducible refine wpTxt_w0 ?_ ?_ ?_); rfl; rfl; intro _ _) | ((with_reducible refine wpTxt_s ?_ ?_); rfl; intro _ _; go_simp) | ((with_reducible refine wpTxt_sw ?_ ?_); rfl; intro _ _; go_simp) | (with_reducible refine wpTxt_nil ?_) | ((with_reducible refine wp_region_t mixed ?_ ?_); decide +kernel; intro _ _))
    refine bodyPost_ret (v := .tuple #[.agg #[.int .i64 0, .slice none 0 0, .slice none 0 0], .bool false]) (by simp [results, Try.f10, go_sem]) rfl ⟨_, _, rfl, ⟨?_, ?_, ?_⟩, by (repeat (first | with_reducible assumption | with_reducible exact Below.refl _ _ | ((with_reducible refine Below.setCell ?_ ?_ _); rotate_left; (· first | omega | (simp only [World.size_alloc, World.size_drew, World.size_setCell]; omega) | (dsimp only; omega))) | ((with_reducible refine Below.alloc ?_ ?_ _); rotate_left; (· first | omega | (simp only [World.size_alloc, World.size_drew, World.size_setCell]; omega))) | ((with_reducible refine Below.drewN' ?_ _)) | ((with_reducible refine Below.drew ?_)))), by simp [ownB, Value.ownBlock]⟩
    · exact World.ownsRow_nil _ _ _ _
    · exact ORow.nil _ _ _ _
    · exact ⟨by decide, by decide, by decide, Nat.zero_le _⟩
def NPost (o : Option ByteArray) (w : World) (e : Ending) (w' : World) : Prop := e = .returned (.tuple #[.string (o.getD ⟨#[]⟩), .bool o.isSome]) ∧ Below w.heap.size w w'
set_option maxHeartbeats 400000 in
theorem r4Name_any {w : World} {nv av : Value} {T : TS} (h : StA w nv av T) (n : Int) : Calls Try.prog 16 #[.agg #[.int .i64 T.lim, nv, av], .int .i64 n] w (NPost (T.name n) w) := by
  obtain ⟨h1, h2, hok⟩ := h
  obtain ⟨ao, cap, rfl, n1, n2⟩ := h1.len
  by_cases hin : 0 ≤ n ∧ n < T.names.length
  · obtain ⟨k, rfl⟩ := Int.eq_ofNat_of_zero_le hin.1
    have hk : k < T.names.length := by omega
    have hn : T.name (k : Int) = some T.names[k] := by unfold TS.name; rw [if_neg (by omega)]; simp [hk]
    obtain ⟨g, cap', e, -, -, hc⟩ := h1.at (by omega)
    injection e with e1 e2 e3
    subst e1
    have hck := hc k hk
    have hg : g < w.heap.size := World.block_lt_of_cell? w _ hck
    rw [hn]
    clear hn hc e2 e3
    go_enter Try.func16, Try.ntmps16
    go_wp2_with (first | ((with_reducible refine wpTxt_q ?_ ?_ ?_); rfl; rfl; intro _ _) | ((with_reducible refine wpTxt_w0 ?_ ?_ ?_); rfl; rfl; intro _ _) | ((with_reducible refine wpTxt_s ?_ ?_); rfl; intro _ _; go_simp) | ((with_reducible refine wpTxt_sw ?_ ?_); rfl; intro _ _; go_simp) | (with_reducible refine wpTxt_nil ?_) | ((with_reducible refine wp_region_t mixed ?_ ?_); decide +kernel; intro _ _))
    all_goals first
      | exact bodyPost_ret (v := .tuple #[.string T.names[k], .bool true]) (by simp [results, Try.f16, go_sem]) rfl ⟨rfl, by (repeat (first | with_reducible assumption | with_reducible exact Below.refl _ _ | ((with_reducible refine Below.setCell ?_ ?_ _); rotate_left; (· first | omega | (simp only [World.size_alloc, World.size_drew, World.size_setCell]; omega) | (dsimp only; omega))) | ((with_reducible refine Below.alloc ?_ ?_ _); rotate_left; (· first | omega | (simp only [World.size_alloc, World.size_drew, World.size_setCell]; omega))) | ((with_reducible refine Below.drewN' ?_ _)) | ((with_reducible refine Below.drew ?_))))⟩
      | (exfalso; omega)
  · have hn : T.name n = none := by unfold TS.name; split
                                    · rfl
                                    · exact List.getElem?_eq_none (by omega)
    rw [hn]
    clear hn
    go_enter Try.func16, Try.ntmps16
    go_wp2_with (first | ((with_reducible refine wpTxt_q ?_ ?_ ?_); rfl; rfl; intro _ _) | ((with_reducible refine wpTxt_w0 ?_ ?_ ?_); rfl; rfl; intro _ _) | ((with_reducible refine wpTxt_s ?_ ?_); rfl; intro _ _; go_simp) | ((with_reducible refine wpTxt_sw ?_ ?_); rfl; intro _ _; go_simp) | (with_reducible refine wpTxt_nil ?_) | ((with_reducible refine wp_region_t mixed ?_ ?_); decide +kernel; intro _ _))
    all_goals first
      | exact bodyPost_ret (v := .tuple #[.string ⟨#[]⟩, .bool false]) (by simp [results, Try.f16, go_sem]) rfl ⟨rfl, by (repeat (first | with_reducible assumption | with_reducible exact Below.refl _ _ | ((with_reducible refine Below.setCell ?_ ?_ _); rotate_left; (· first | omega | (simp only [World.size_alloc, World.size_drew, World.size_setCell]; omega) | (dsimp only; omega))) | ((with_reducible refine Below.alloc ?_ ?_ _); rotate_left; (· first | omega | (simp only [World.size_alloc, World.size_drew, World.size_setCell]; omega))) | ((with_reducible refine Below.drewN' ?_ _)) | ((with_reducible refine Below.drew ?_))))⟩
      | (exfalso; omega)
set_option maxHeartbeats 1000000 in
set_option maxRecDepth 100000 in
theorem r4Add_any {w : World} {nv av : Value} {T : TS} (h : StA w nv av T) (s : ByteArray) (hs : s.size ≤ maxLen) :
    Calls Try.prog 26 #[.agg #[.int .i64 T.lim, nv, av], .string s] w (SPost (ownB nv ++ ownB av) (T.add s).1 w fun v => .tuple #[v, .int .i64 (T.add s).2.1, .int .i64 (T.add s).2.2]) := by
  have h1 := h.1
  have hok1 := h.2.2.len
  have hok2 := h.2.2.hi
  obtain ⟨ao, cap, rfl, n1, n2⟩ := h1.len
  obtain ⟨bo, bcap, rfl, m1, m2⟩ := h.2.1.len
  unfold maxLen at n2 m2
  go_enter Try.func26, Try.ntmps26
  go_wp2_with (first | (at_builtin; refine wpList_app rfl (.tmp 30) (.tmp 32) rfl info_str und_strs rfl (by decide) strC_l strC_one _ _ [] T.names rfl rfl ?a1 ?a2 ?a3 ?a4 ?_) | ((with_reducible refine wpTxt_q ?_ ?_ ?_); rfl; rfl; intro _ _) | ((with_reducible refine wpTxt_w0 ?_ ?_ ?_); rfl; rfl; intro _ _) | ((with_reducible refine wpTxt_s ?_ ?_); rfl; intro _ _; go_simp) | ((with_reducible refine wpTxt_sw ?_ ?_); rfl; intro _ _; go_simp) | (with_reducible refine wpTxt_nil ?_) | ((with_reducible refine wp_region_t mixed ?_ ?_); decide +kernel; intro _ _) | (go_at_call 34; ((with_reducible refine (rIdentifier_any _ (by assumption) _).mono ?_); rintro e w' ⟨rfl, rfl⟩)) | (go_at_call 14; ((with_reducible refine (r4Find_any ?_ _).mono ?_); (· exact h.low (by (repeat (first | with_reducible assumption | with_reducible exact Below.refl _ _ | ((with_reducible refine Below.setCell ?_ ?_ _); rotate_left; (· first | omega | (simp only [World.size_alloc, World.size_drew, World.size_setCell]; omega) | (dsimp only; omega))) | ((with_reducible refine Below.alloc ?_ ?_ _); rotate_left; (· first | omega | (simp only [World.size_alloc, World.size_drew, World.size_setCell]; omega))) | ((with_reducible refine Below.drewN' ?_ _)) | ((with_reducible refine Below.drew ?_)))))); rintro e wF ⟨rfl, hbF⟩; obtain ⟨hcF, hfF⟩ := bcell hbF; have hzF : w.heap.size + 1 < wF.heap.size := (by have := hbF.size; simp at this; omega); have hxF : Below w.heap.size w wF := Below.trans (by (repeat (first | with_reducible assumption | with_reducible exact Below.refl _ _ | ((with_reducible refine Below.setCell ?_ ?_ _); rotate_left; (· first | omega | (simp only [World.size_alloc, World.size_drew, World.size_setCell]; omega) | (dsimp only; omega))) | ((with_reducible refine Below.alloc ?_ ?_ _); rotate_left; (· first | omega | (simp only [World.size_alloc, World.size_drew, World.size_setCell]; omega))) | ((with_reducible refine Below.drewN' ?_ _)) | ((with_reducible refine Below.drew ?_))))) (hbF.mono (by simp; omega)); have hzG : w.heap.size < wF.heap.size := (by omega); have hzH : w.heap.size < wF.heap.size + 1 := (by omega))))
  case a1 => exact ORow.blk strC_l (Blk.at_ _ _ _ _ (by simp)) rfl (Nat.zero_le _)
  case a2 => exact (h1.o.low (by (repeat (first | with_reducible assumption | with_reducible exact Below.refl _ _ | ((with_reducible refine Below.setCell ?_ ?_ _); rotate_left; (· first | omega | (simp only [World.size_alloc, World.size_drew, World.size_setCell]; omega) | (dsimp only; omega))) | ((with_reducible refine Below.alloc ?_ ?_ _); rotate_left; (· first | omega | (simp only [World.size_alloc, World.size_drew, World.size_setCell]; omega))) | ((with_reducible refine Below.drewN' ?_ _)) | ((with_reducible refine Below.drew ?_)))))).reads strC_l
  case a3 => have : (8192 : Nat) ≤ maxLen := by decide
             simp only [List.length_nil]; omega
  case a4 => simp only [List.length_nil]; omega
  all_goals try (first
    | (have e := add_10 (T := T) (by assumption); rw [e]; exact bodyPost_ret (v := .tuple #[.agg #[.int .i64 T.lim, .slice ao T.names.length cap, .slice bo T.als.length bcap], .int .i64 0, .int .i64 10]) (by simp [results, Try.f26, go_sem]) rfl ⟨_, _, rfl, h.low (by (repeat (first | with_reducible assumption | with_reducible exact Below.refl _ _ | ((with_reducible refine Below.setCell ?_ ?_ _); rotate_left; (· first | omega | (simp only [World.size_alloc, World.size_drew, World.size_setCell]; omega) | (dsimp only; omega))) | ((with_reducible refine Below.alloc ?_ ?_ _); rotate_left; (· first | omega | (simp only [World.size_alloc, World.size_drew, World.size_setCell]; omega))) | ((with_reducible refine Below.drewN' ?_ _)) | ((with_reducible refine Below.drew ?_))))), by (repeat (first | with_reducible assumption | with_reducible exact Below.refl _ _ | ((with_reducible refine Below.setCell ?_ ?_ _); rotate_left; (· first | omega | (simp only [World.size_alloc, World.size_drew, World.size_setCell]; omega) | (dsimp only; omega))) | ((with_reducible refine Below.alloc ?_ ?_ _); rotate_left; (· first | omega | (simp only [World.size_alloc, World.size_drew, World.size_setCell]; omega))) | ((with_reducible refine Below.drewN' ?_ _)) | ((with_reducible refine Below.drew ?_)))), fun x hx => .inl hx⟩)
    | (have e := add_12 (T := T) (by assumption) (by assumption); rw [e]; exact bodyPost_ret (v := .tuple #[.agg #[.int .i64 T.lim, .slice ao T.names.length cap, .slice bo T.als.length bcap], .int .i64 0, .int .i64 12]) (by simp [results, Try.f26, go_sem, *]) rfl ⟨_, _, rfl, h.low (by (repeat (first | with_reducible assumption | with_reducible exact Below.refl _ _ | ((with_reducible refine Below.setCell ?_ ?_ _); rotate_left; (· first | omega | (simp only [World.size_alloc, World.size_drew, World.size_setCell]; omega) | (dsimp only; omega))) | ((with_reducible refine Below.alloc ?_ ?_ _); rotate_left; (· first | omega | (simp only [World.size_alloc, World.size_drew, World.size_setCell]; omega))) | ((with_reducible refine Below.drewN' ?_ _)) | ((with_reducible refine Below.drew ?_))))), by (repeat (first | with_reducible assumption | with_reducible exact Below.refl _ _ | ((with_reducible refine Below.setCell ?_ ?_ _); rotate_left; (· first | omega | (simp only [World.size_alloc, World.size_drew, World.size_setCell]; omega) | (dsimp only; omega))) | ((with_reducible refine Below.alloc ?_ ?_ _); rotate_left; (· first | omega | (simp only [World.size_alloc, World.size_drew, World.size_setCell]; omega))) | ((with_reducible refine Below.drewN' ?_ _)) | ((with_reducible refine Below.drew ?_)))), fun x hx => .inl hx⟩)
    | (have e := add_25 (T := T) (by assumption) (by assumption) (by assumption); rw [e]; exact bodyPost_ret (v := .tuple #[.agg #[.int .i64 T.lim, .slice ao T.names.length cap, .slice bo T.als.length bcap], .int .i64 0, .int .i64 25]) (by simp [results, Try.f26, go_sem, *]) rfl ⟨_, _, rfl, h.low (by (repeat (first | with_reducible assumption | with_reducible exact Below.refl _ _ | ((with_reducible refine Below.setCell ?_ ?_ _); rotate_left; (· first | omega | (simp only [World.size_alloc, World.size_drew, World.size_setCell]; omega) | (dsimp only; omega))) | ((with_reducible refine Below.alloc ?_ ?_ _); rotate_left; (· first | omega | (simp only [World.size_alloc, World.size_drew, World.size_setCell]; omega))) | ((with_reducible refine Below.drewN' ?_ _)) | ((with_reducible refine Below.drew ?_))))), by (repeat (first | with_reducible assumption | with_reducible exact Below.refl _ _ | ((with_reducible refine Below.setCell ?_ ?_ _); rotate_left; (· first | omega | (simp only [World.size_alloc, World.size_drew, World.size_setCell]; omega) | (dsimp only; omega))) | ((with_reducible refine Below.alloc ?_ ?_ _); rotate_left; (· first | omega | (simp only [World.size_alloc, World.size_drew, World.size_setCell]; omega))) | ((with_reducible refine Below.drewN' ?_ _)) | ((with_reducible refine Below.drew ?_)))), fun x hx => .inl hx⟩))
  intro v1 w1 hA1
  obtain ⟨hb1, ho1⟩ := hA1.below (B := wF.heap.size + 1) (Below.refl _ _) (fun x hx => by rw [own_cons hx]; exact Nat.le_refl _) (by simp)
  obtain ⟨hc1, hf1⟩ := bcell hb1
  have hz1 : wF.heap.size + 1 < w1.heap.size := by have := hb1.size; simp at this; omega
  have hy1 : wF.heap.size < w1.heap.size := by omega
  have hy2 : w.heap.size < w1.heap.size := by omega
  have hy3 : w.heap.size + 1 < w1.heap.size := by omega
  have hy4 : w.heap.size + 1 < wF.heap.size + 1 := by omega
  have hR1 := hA1.row
  obtain ⟨ao1, cap1, rfl, k1, k2⟩ := hR1.len
  go_wp2_with (first | (at_builtin; refine wpList_app rfl (.tmp 33) (.tmp 35) rfl info_str und_strs rfl (by decide) strC_l strC_one _ _ T.names [s] rfl rfl ?a1 ?a2 ?a3 ?a4 ?_) | ((with_reducible refine wpTxt_q ?_ ?_ ?_); rfl; rfl; intro _ _) | ((with_reducible refine wpTxt_w0 ?_ ?_ ?_); rfl; rfl; intro _ _) | ((with_reducible refine wpTxt_s ?_ ?_); rfl; intro _ _; go_simp) | ((with_reducible refine wpTxt_sw ?_ ?_); rfl; intro _ _; go_simp) | (with_reducible refine wpTxt_nil ?_) | ((with_reducible refine wp_region_t mixed ?_ ?_); decide +kernel; intro _ _))
  case a1 => exact hR1.low (by (repeat (first | with_reducible assumption | with_reducible exact Below.refl _ _ | ((with_reducible refine Below.setCell ?_ ?_ _); rotate_left; (· first | omega | (simp only [World.size_alloc, World.size_drew, World.size_setCell]; omega) | (dsimp only; omega))) | ((with_reducible refine Below.alloc ?_ ?_ _); rotate_left; (· first | omega | (simp only [World.size_alloc, World.size_drew, World.size_setCell]; omega))) | ((with_reducible refine Below.drewN' ?_ _)) | ((with_reducible refine Below.drew ?_)))))
  case a2 => exact RRow.blk (xs := [s]) strC_l (Blk.fresh _ _ _) rfl (by show 1 ≤ maxLen; decide)
  case a3 => have : (8192 : Nat) ≤ maxLen := by decide
             simp only [List.length_singleton]; omega
  case a4 => simp only [List.length_singleton]; omega
  intro v2 w2 hA2
  obtain ⟨hb2, ho2⟩ := hA2.below (B := wF.heap.size + 1) (by (repeat (first | with_reducible assumption | with_reducible exact Below.refl _ _ | ((with_reducible refine Below.setCell ?_ ?_ _); rotate_left; (· first | omega | (simp only [World.size_alloc, World.size_drew, World.size_setCell]; omega) | (dsimp only; omega))) | ((with_reducible refine Below.alloc ?_ ?_ _); rotate_left; (· first | omega | (simp only [World.size_alloc, World.size_drew, World.size_setCell]; omega))) | ((with_reducible refine Below.drewN' ?_ _)) | ((with_reducible refine Below.drew ?_))))) ho1 (by simp; omega)
  obtain ⟨hc2, hf2⟩ := bcell hb2
  have hz2 : wF.heap.size + 1 < w2.heap.size := by have := hb2.size; simp at this; omega
  have hR2 := hA2.row
  obtain ⟨co2, cap2, rfl, k3, k4⟩ := hR2.len
  go_wp2_with (first | ((with_reducible refine wpTxt_q ?_ ?_ ?_); rfl; rfl; intro _ _) | ((with_reducible refine wpTxt_w0 ?_ ?_ ?_); rfl; rfl; intro _ _) | ((with_reducible refine wpTxt_s ?_ ?_); rfl; intro _ _; go_simp) | ((with_reducible refine wpTxt_sw ?_ ?_); rfl; intro _ _; go_simp) | (with_reducible refine wpTxt_nil ?_) | ((with_reducible refine wp_region_t mixed ?_ ?_); decide +kernel; intro _ _))
  refine wp_region_g [w.heap.size] [0, 1, 2, 1, 3, 0, 0] mixed ?_ ?_
  · decide +kernel
  intro K hK
  go_wp2_with (first | ((with_reducible refine wpTag_q ?_ ?_ ?_); rfl; rfl; intro _ _) | ((with_reducible refine wpTag_w ?_ ?_ ?_); rfl; rfl; intro _ _) | ((with_reducible refine wpTag_s ?_ ?_); rfl; intro _ _; go_simp) | ((with_reducible refine wpTag_sw ?_ ?_); rfl; intro _ _; go_simp) | (with_reducible refine wpTag_nil ?_))
  refine wpTag_1 (.pointer (some ⟨w.heap.size, 1, none⟩)) rfl rfl ?_ ?_
  · intro w'
    go_simp
  refine wpTag_2 (.slice ao T.names.length cap) rfl rfl ?_ ?_
  · intro w' hk
    have e : ∀ i, w'.cell? ⟨w.heap.size, i, none⟩ = _ := fun i => World.cell?_of_block (hk _ (by simp))
    go_simp
  refine wpTag_1 (.int .i64 T.names.length) rfl rfl ?_ ?_
  · intro w'
    go_simp
  refine wpTag_3 rfl rfl (fun K2 hK2 => ?_)
  go_wp2_with (first | ((with_reducible refine wpTag_q ?_ ?_ ?_); rfl; rfl; intro _ _) | ((with_reducible refine wpTag_w ?_ ?_ ?_); rfl; rfl; intro _ _) | ((with_reducible refine wpTag_s ?_ ?_); rfl; intro _ _; go_simp) | ((with_reducible refine wpTag_sw ?_ ?_); rfl; intro _ _; go_simp) | (with_reducible refine wpTag_nil ?_))
  refine ⟨?_, ?_⟩
  · (repeat (first | with_reducible assumption | with_reducible exact SameAt.refl _ _ | with_reducible exact SameAt.un _ _ | with_reducible exact SameAt.unN _ _ _ | ((with_reducible refine SameAt.set ?_ ?_ _); rotate_left; (· simp only [List.mem_cons, List.not_mem_nil, or_false, forall_eq_or_imp, forall_eq, ne_eq]; omega)) | ((with_reducible refine SameAt.drewN ?_ _)) | ((with_reducible refine SameAt.drew ?_))))
  go_wp2_with (first | ((with_reducible refine wpTag_q ?_ ?_ ?_); rfl; rfl; intro _ _) | ((with_reducible refine wpTag_w ?_ ?_ ?_); rfl; rfl; intro _ _) | ((with_reducible refine wpTag_s ?_ ?_); rfl; intro _ _; go_simp) | ((with_reducible refine wpTag_sw ?_ ?_); rfl; intro _ _; go_simp) | (with_reducible refine wpTag_nil ?_))
  have e := add_0 (T := T) (by assumption) (by assumption) (by assumption)
  have hx2 : Below w.heap.size w w2 := below_after (hb2.mono (by omega)) (Below.alloc (below_after (hb1.mono (by omega)) (by (repeat (first | with_reducible assumption | with_reducible exact Below.refl _ _ | ((with_reducible refine Below.setCell ?_ ?_ _); rotate_left; (· first | omega | (simp only [World.size_alloc, World.size_drew, World.size_setCell]; omega) | (dsimp only; omega))) | ((with_reducible refine Below.alloc ?_ ?_ _); rotate_left; (· first | omega | (simp only [World.size_alloc, World.size_drew, World.size_setCell]; omega))) | ((with_reducible refine Below.drewN' ?_ _)) | ((with_reducible refine Below.drew ?_)))))) (by omega) _)
  rw [e]
  refine bodyPost_ret (v := .tuple #[.agg #[.int .i64 T.lim, .slice co2 (T.names ++ [s]).length cap2, .slice bo T.als.length bcap], .int .i64 T.names.length, .int .i64 0]) (by simp [results, Try.f26, go_sem, *]) rfl ⟨_, _, rfl, ⟨?_, ?_, ?_⟩, by (repeat (first | with_reducible assumption | with_reducible exact Below.refl _ _ | ((with_reducible refine Below.setCell ?_ ?_ _); rotate_left; (· first | omega | (simp only [World.size_alloc, World.size_drew, World.size_setCell]; omega) | (dsimp only; omega))) | ((with_reducible refine Below.alloc ?_ ?_ _); rotate_left; (· first | omega | (simp only [World.size_alloc, World.size_drew, World.size_setCell]; omega))) | ((with_reducible refine Below.drewN' ?_ _)) | ((with_reducible refine Below.drew ?_)))), fun x hx => (List.mem_append.1 hx).elim (fun h => .inr (by have := ho2 x (by simpa [ownB] using h); omega)) (fun h => .inl (List.mem_append.2 (.inr h)))⟩
  · refine Row.of (hR2.kept fun x hx => ?_)
    have := ho2 x hx
    exact (show SameAt [x] w2 _ from by (repeat (first | with_reducible assumption | with_reducible exact SameAt.refl _ _ | with_reducible exact SameAt.un _ _ | with_reducible exact SameAt.unN _ _ _ | ((with_reducible refine SameAt.set ?_ ?_ _); rotate_left; (· simp only [List.mem_cons, List.not_mem_nil, or_false, forall_eq_or_imp, forall_eq, ne_eq]; omega)) | ((with_reducible refine SameAt.drewN ?_ _)) | ((with_reducible refine SameAt.drew ?_))))) x (by simp)
  · exact h.2.1.low (by (repeat (first | with_reducible assumption | with_reducible exact Below.refl _ _ | ((with_reducible refine Below.setCell ?_ ?_ _); rotate_left; (· first | omega | (simp only [World.size_alloc, World.size_drew, World.size_setCell]; omega) | (dsimp only; omega))) | ((with_reducible refine Below.alloc ?_ ?_ _); rotate_left; (· first | omega | (simp only [World.size_alloc, World.size_drew, World.size_setCell]; omega))) | ((with_reducible refine Below.drewN' ?_ _)) | ((with_reducible refine Below.drew ?_)))))
  · have := h.2.2.add s; rw [e] at this; exact this
set_option maxHeartbeats 1000000 in
set_option maxRecDepth 100000 in
theorem r4AliasOf_any {w : World} {nv av : Value} {T : TS} (h : StA w nv av T) (s : ByteArray) (n : Int) (hs : s.size ≤ maxLen) :
    Calls Try.prog 27 #[.agg #[.int .i64 T.lim, nv, av], .string s, .int .i64 n] w (SPost (ownB nv ++ ownB av) (T.also s n).1 w fun v => .tuple #[v, .int .i64 (T.also s n).2]) := by
  have h1 := h.2.1
  have hok3 := h.2.2.als
  have hok1 := h.2.2.len
  have hok2 := h.2.2.hi
  obtain ⟨ao, cap, rfl, n1, n2⟩ := h.1.len
  obtain ⟨bo, bcap, rfl, m1, m2⟩ := h.2.1.len
  unfold maxLen at n2 m2
  by_cases hin : 0 ≤ n ∧ n < T.names.length
  case neg =>
    have hout : n < 0 ∨ (T.names.length : Int) ≤ n := by omega
    have H3 := Lib.hid hout
    rcases hout with hout | hout
    all_goals
      go_enter Try.func27, Try.ntmps27
      go_wp2_with (first | ((with_reducible refine wpTxt_q ?_ ?_ ?_); rfl; rfl; intro _ _) | ((with_reducible refine wpTxt_w0 ?_ ?_ ?_); rfl; rfl; intro _ _) | ((with_reducible refine wpTxt_s ?_ ?_); rfl; intro _ _; go_simp) | ((with_reducible refine wpTxt_sw ?_ ?_); rfl; intro _ _; go_simp) | (with_reducible refine wpTxt_nil ?_) | ((with_reducible refine wp_region_t mixed ?_ ?_); decide +kernel; intro _ _) | (go_at_call 34; ((with_reducible refine (rIdentifier_any _ (by assumption) _).mono ?_); rintro e w' ⟨rfl, rfl⟩)))
      all_goals first
        | (have e := also_10 (T := T) (n := n) (by assumption); rw [e]; exact bodyPost_ret (v := .tuple #[.agg #[.int .i64 T.lim, .slice ao T.names.length cap, .slice bo T.als.length bcap], .int .i64 10]) (by simp [results, Try.f27, go_sem, *]) rfl ⟨_, _, rfl, h.low (by (repeat (first | with_reducible assumption | with_reducible exact Below.refl _ _ | ((with_reducible refine Below.setCell ?_ ?_ _); rotate_left; (· first | omega | (simp only [World.size_alloc, World.size_drew, World.size_setCell]; omega) | (dsimp only; omega))) | ((with_reducible refine Below.alloc ?_ ?_ _); rotate_left; (· first | omega | (simp only [World.size_alloc, World.size_drew, World.size_setCell]; omega))) | ((with_reducible refine Below.drewN' ?_ _)) | ((with_reducible refine Below.drew ?_))))), by (repeat (first | with_reducible assumption | with_reducible exact Below.refl _ _ | ((with_reducible refine Below.setCell ?_ ?_ _); rotate_left; (· first | omega | (simp only [World.size_alloc, World.size_drew, World.size_setCell]; omega) | (dsimp only; omega))) | ((with_reducible refine Below.alloc ?_ ?_ _); rotate_left; (· first | omega | (simp only [World.size_alloc, World.size_drew, World.size_setCell]; omega))) | ((with_reducible refine Below.drewN' ?_ _)) | ((with_reducible refine Below.drew ?_)))), fun x hx => .inl hx⟩)
        | (have e := also_3 (T := T) (n := n) (by assumption) H3.out; rw [e]; exact bodyPost_ret (v := .tuple #[.agg #[.int .i64 T.lim, .slice ao T.names.length cap, .slice bo T.als.length bcap], .int .i64 3]) (by simp [results, Try.f27, go_sem, *]) rfl ⟨_, _, rfl, h.low (by (repeat (first | with_reducible assumption | with_reducible exact Below.refl _ _ | ((with_reducible refine Below.setCell ?_ ?_ _); rotate_left; (· first | omega | (simp only [World.size_alloc, World.size_drew, World.size_setCell]; omega) | (dsimp only; omega))) | ((with_reducible refine Below.alloc ?_ ?_ _); rotate_left; (· first | omega | (simp only [World.size_alloc, World.size_drew, World.size_setCell]; omega))) | ((with_reducible refine Below.drewN' ?_ _)) | ((with_reducible refine Below.drew ?_))))), by (repeat (first | with_reducible assumption | with_reducible exact Below.refl _ _ | ((with_reducible refine Below.setCell ?_ ?_ _); rotate_left; (· first | omega | (simp only [World.size_alloc, World.size_drew, World.size_setCell]; omega) | (dsimp only; omega))) | ((with_reducible refine Below.alloc ?_ ?_ _); rotate_left; (· first | omega | (simp only [World.size_alloc, World.size_drew, World.size_setCell]; omega))) | ((with_reducible refine Below.drewN' ?_ _)) | ((with_reducible refine Below.drew ?_)))), fun x hx => .inl hx⟩)
        | (exfalso; omega)
  obtain ⟨i1, i2⟩ := hin
  go_enter Try.func27, Try.ntmps27
  go_wp2_with (first | (at_builtin; refine wpList_app rfl (.tmp 39) (.tmp 41) rfl info_al und_als rfl (by decide) alC_len alC_one _ _ [] T.als rfl rfl ?a1 ?a2 ?a3 ?a4 ?_) | ((with_reducible refine wpTxt_q ?_ ?_ ?_); rfl; rfl; intro _ _) | ((with_reducible refine wpTxt_w0 ?_ ?_ ?_); rfl; rfl; intro _ _) | ((with_reducible refine wpTxt_s ?_ ?_); rfl; intro _ _; go_simp) | ((with_reducible refine wpTxt_sw ?_ ?_); rfl; intro _ _; go_simp) | (with_reducible refine wpTxt_nil ?_) | ((with_reducible refine wp_region_t mixed ?_ ?_); decide +kernel; intro _ _) | (go_at_call 34; ((with_reducible refine (rIdentifier_any _ (by assumption) _).mono ?_); rintro e w' ⟨rfl, rfl⟩)) | (go_at_call 14; ((with_reducible refine (r4Find_any ?_ _).mono ?_); (· exact h.low (by (repeat (first | with_reducible assumption | with_reducible exact Below.refl _ _ | ((with_reducible refine Below.setCell ?_ ?_ _); rotate_left; (· first | omega | (simp only [World.size_alloc, World.size_drew, World.size_setCell]; omega) | (dsimp only; omega))) | ((with_reducible refine Below.alloc ?_ ?_ _); rotate_left; (· first | omega | (simp only [World.size_alloc, World.size_drew, World.size_setCell]; omega))) | ((with_reducible refine Below.drewN' ?_ _)) | ((with_reducible refine Below.drew ?_)))))); rintro e wF ⟨rfl, hbF⟩; obtain ⟨hcF, hfF⟩ := bcell hbF; have hzF : w.heap.size + 1 < wF.heap.size := (by have := hbF.size; simp at this; omega); have hxF : Below w.heap.size w wF := Below.trans (by (repeat (first | with_reducible assumption | with_reducible exact Below.refl _ _ | ((with_reducible refine Below.setCell ?_ ?_ _); rotate_left; (· first | omega | (simp only [World.size_alloc, World.size_drew, World.size_setCell]; omega) | (dsimp only; omega))) | ((with_reducible refine Below.alloc ?_ ?_ _); rotate_left; (· first | omega | (simp only [World.size_alloc, World.size_drew, World.size_setCell]; omega))) | ((with_reducible refine Below.drewN' ?_ _)) | ((with_reducible refine Below.drew ?_))))) (hbF.mono (by simp; omega)); have hzG : w.heap.size < wF.heap.size := (by omega); have hzH : w.heap.size < wF.heap.size + 1 := (by omega))))
  case a1 => exact ORow.blk alC_len (Blk.at_ _ _ _ _ (by simp)) rfl (Nat.zero_le _)
  case a2 => exact (h1.low (by (repeat (first | with_reducible assumption | with_reducible exact Below.refl _ _ | ((with_reducible refine Below.setCell ?_ ?_ _); rotate_left; (· first | omega | (simp only [World.size_alloc, World.size_drew, World.size_setCell]; omega) | (dsimp only; omega))) | ((with_reducible refine Below.alloc ?_ ?_ _); rotate_left; (· first | omega | (simp only [World.size_alloc, World.size_drew, World.size_setCell]; omega))) | ((with_reducible refine Below.drewN' ?_ _)) | ((with_reducible refine Below.drew ?_)))))).reads alC_len
  case a3 => have : (8192 : Nat) ≤ maxLen := by decide
             simp only [List.length_nil]; omega
  case a4 => simp only [List.length_nil]; omega
  all_goals try (first
    | (have e := also_10 (T := T) (n := n) (by assumption); rw [e]; exact bodyPost_ret (v := .tuple #[.agg #[.int .i64 T.lim, .slice ao T.names.length cap, .slice bo T.als.length bcap], .int .i64 10]) (by simp [results, Try.f27, go_sem, *]) rfl ⟨_, _, rfl, h.low (by (repeat (first | with_reducible assumption | with_reducible exact Below.refl _ _ | ((with_reducible refine Below.setCell ?_ ?_ _); rotate_left; (· first | omega | (simp only [World.size_alloc, World.size_drew, World.size_setCell]; omega) | (dsimp only; omega))) | ((with_reducible refine Below.alloc ?_ ?_ _); rotate_left; (· first | omega | (simp only [World.size_alloc, World.size_drew, World.size_setCell]; omega))) | ((with_reducible refine Below.drewN' ?_ _)) | ((with_reducible refine Below.drew ?_))))), by (repeat (first | with_reducible assumption | with_reducible exact Below.refl _ _ | ((with_reducible refine Below.setCell ?_ ?_ _); rotate_left; (· first | omega | (simp only [World.size_alloc, World.size_drew, World.size_setCell]; omega) | (dsimp only; omega))) | ((with_reducible refine Below.alloc ?_ ?_ _); rotate_left; (· first | omega | (simp only [World.size_alloc, World.size_drew, World.size_setCell]; omega))) | ((with_reducible refine Below.drewN' ?_ _)) | ((with_reducible refine Below.drew ?_)))), fun x hx => .inl hx⟩)
    | (have e := also_12 (T := T) (n := n) (by assumption) i1 i2 (by assumption); rw [e]; exact bodyPost_ret (v := .tuple #[.agg #[.int .i64 T.lim, .slice ao T.names.length cap, .slice bo T.als.length bcap], .int .i64 12]) (by simp [results, Try.f27, go_sem, *]) rfl ⟨_, _, rfl, h.low (by (repeat (first | with_reducible assumption | with_reducible exact Below.refl _ _ | ((with_reducible refine Below.setCell ?_ ?_ _); rotate_left; (· first | omega | (simp only [World.size_alloc, World.size_drew, World.size_setCell]; omega) | (dsimp only; omega))) | ((with_reducible refine Below.alloc ?_ ?_ _); rotate_left; (· first | omega | (simp only [World.size_alloc, World.size_drew, World.size_setCell]; omega))) | ((with_reducible refine Below.drewN' ?_ _)) | ((with_reducible refine Below.drew ?_))))), by (repeat (first | with_reducible assumption | with_reducible exact Below.refl _ _ | ((with_reducible refine Below.setCell ?_ ?_ _); rotate_left; (· first | omega | (simp only [World.size_alloc, World.size_drew, World.size_setCell]; omega) | (dsimp only; omega))) | ((with_reducible refine Below.alloc ?_ ?_ _); rotate_left; (· first | omega | (simp only [World.size_alloc, World.size_drew, World.size_setCell]; omega))) | ((with_reducible refine Below.drewN' ?_ _)) | ((with_reducible refine Below.drew ?_)))), fun x hx => .inl hx⟩)
    | (have e := also_25 (T := T) (n := n) (by assumption) i1 i2 (by assumption) (by assumption); rw [e]; exact bodyPost_ret (v := .tuple #[.agg #[.int .i64 T.lim, .slice ao T.names.length cap, .slice bo T.als.length bcap], .int .i64 25]) (by simp [results, Try.f27, go_sem, *]) rfl ⟨_, _, rfl, h.low (by (repeat (first | with_reducible assumption | with_reducible exact Below.refl _ _ | ((with_reducible refine Below.setCell ?_ ?_ _); rotate_left; (· first | omega | (simp only [World.size_alloc, World.size_drew, World.size_setCell]; omega) | (dsimp only; omega))) | ((with_reducible refine Below.alloc ?_ ?_ _); rotate_left; (· first | omega | (simp only [World.size_alloc, World.size_drew, World.size_setCell]; omega))) | ((with_reducible refine Below.drewN' ?_ _)) | ((with_reducible refine Below.drew ?_))))), by (repeat (first | with_reducible assumption | with_reducible exact Below.refl _ _ | ((with_reducible refine Below.setCell ?_ ?_ _); rotate_left; (· first | omega | (simp only [World.size_alloc, World.size_drew, World.size_setCell]; omega) | (dsimp only; omega))) | ((with_reducible refine Below.alloc ?_ ?_ _); rotate_left; (· first | omega | (simp only [World.size_alloc, World.size_drew, World.size_setCell]; omega))) | ((with_reducible refine Below.drewN' ?_ _)) | ((with_reducible refine Below.drew ?_)))), fun x hx => .inl hx⟩)
    | (exfalso; omega))
  intro v1 w1 hA1
  obtain ⟨hb1, ho1⟩ := hA1.below (B := wF.heap.size + 1) (Below.refl _ _) (fun x hx => by rw [own_cons hx]; exact Nat.le_refl _) (by simp)
  obtain ⟨hc1, hf1⟩ := bcell hb1
  have hz1 : wF.heap.size + 1 < w1.heap.size := by have := hb1.size; simp at this; omega
  have hy1 : wF.heap.size < w1.heap.size := by omega
  have hy2 : w.heap.size < w1.heap.size := by omega
  have hy3 : w.heap.size + 1 < w1.heap.size := by omega
  have hy4 : w.heap.size + 1 < wF.heap.size + 1 := by omega
  have hR1 := hA1.row
  obtain ⟨ao1, cap1, rfl, k1, k2⟩ := hR1.len
  go_wp2_with (first | (at_builtin; refine wpList_app rfl (.tmp 42) (.tmp 46) rfl info_al und_als rfl (by decide) alC_len alC_one _ _ T.als [(s, n)] rfl rfl ?a1 ?a2 ?a3 ?a4 ?_) | ((with_reducible refine wpTxt_q ?_ ?_ ?_); rfl; rfl; intro _ _) | ((with_reducible refine wpTxt_w0 ?_ ?_ ?_); rfl; rfl; intro _ _) | ((with_reducible refine wpTxt_s ?_ ?_); rfl; intro _ _; go_simp) | ((with_reducible refine wpTxt_sw ?_ ?_); rfl; intro _ _; go_simp) | (with_reducible refine wpTxt_nil ?_) | ((with_reducible refine wp_region_t mixed ?_ ?_); decide +kernel; intro _ _))
  case a1 => exact hR1.low (by (repeat (first | with_reducible assumption | with_reducible exact Below.refl _ _ | ((with_reducible refine Below.setCell ?_ ?_ _); rotate_left; (· first | omega | (simp only [World.size_alloc, World.size_drew, World.size_setCell]; omega) | (dsimp only; omega))) | ((with_reducible refine Below.alloc ?_ ?_ _); rotate_left; (· first | omega | (simp only [World.size_alloc, World.size_drew, World.size_setCell]; omega))) | ((with_reducible refine Below.drewN' ?_ _)) | ((with_reducible refine Below.drew ?_)))))
  case a2 => exact RRow.blk (xs := [(s, n)]) alC_len (Blk.fresh _ _ _) rfl (by show 1 ≤ maxLen; decide)
  case a3 => have : (8192 : Nat) ≤ maxLen := by decide
             simp only [List.length_singleton]; omega
  case a4 => simp only [List.length_singleton]; omega
  intro v2 w2 hA2
  obtain ⟨hb2, ho2⟩ := hA2.below (B := wF.heap.size + 1) (by (repeat (first | with_reducible assumption | with_reducible exact Below.refl _ _ | ((with_reducible refine Below.setCell ?_ ?_ _); rotate_left; (· first | omega | (simp only [World.size_alloc, World.size_drew, World.size_setCell]; omega) | (dsimp only; omega))) | ((with_reducible refine Below.alloc ?_ ?_ _); rotate_left; (· first | omega | (simp only [World.size_alloc, World.size_drew, World.size_setCell]; omega))) | ((with_reducible refine Below.drewN' ?_ _)) | ((with_reducible refine Below.drew ?_))))) ho1 (by simp; omega)
  obtain ⟨hc2, hf2⟩ := bcell hb2
  have hz2 : wF.heap.size + 1 < w2.heap.size := by have := hb2.size; simp at this; omega
  have hR2 := hA2.row
  obtain ⟨co2, cap2, rfl, k3, k4⟩ := hR2.len
  go_wp2_with (first | ((with_reducible refine wpTxt_q ?_ ?_ ?_); rfl; rfl; intro _ _) | ((with_reducible refine wpTxt_w0 ?_ ?_ ?_); rfl; rfl; intro _ _) | ((with_reducible refine wpTxt_s ?_ ?_); rfl; intro _ _; go_simp) | ((with_reducible refine wpTxt_sw ?_ ?_); rfl; intro _ _; go_simp) | (with_reducible refine wpTxt_nil ?_) | ((with_reducible refine wp_region_t mixed ?_ ?_); decide +kernel; intro _ _))
  have e := also_0 (T := T) (n := n) (by assumption) i1 i2 (by assumption) (by assumption)
  have hx2 : Below w.heap.size w w2 := below_after (hb2.mono (by omega)) (Below.alloc (below_after (hb1.mono (by omega)) (by (repeat (first | with_reducible assumption | with_reducible exact Below.refl _ _ | ((with_reducible refine Below.setCell ?_ ?_ _); rotate_left; (· first | omega | (simp only [World.size_alloc, World.size_drew, World.size_setCell]; omega) | (dsimp only; omega))) | ((with_reducible refine Below.alloc ?_ ?_ _); rotate_left; (· first | omega | (simp only [World.size_alloc, World.size_drew, World.size_setCell]; omega))) | ((with_reducible refine Below.drewN' ?_ _)) | ((with_reducible refine Below.drew ?_)))))) (by omega) _)
  rw [e]
  refine bodyPost_ret (v := .tuple #[.agg #[.int .i64 T.lim, .slice ao T.names.length cap, .slice co2 (T.als ++ [(s, n)]).length cap2], .int .i64 0]) (by simp [results, Try.f27, go_sem, *]) rfl ⟨_, _, rfl, ⟨?_, ?_, ?_⟩, by (repeat (first | with_reducible assumption | with_reducible exact Below.refl _ _ | ((with_reducible refine Below.setCell ?_ ?_ _); rotate_left; (· first | omega | (simp only [World.size_alloc, World.size_drew, World.size_setCell]; omega) | (dsimp only; omega))) | ((with_reducible refine Below.alloc ?_ ?_ _); rotate_left; (· first | omega | (simp only [World.size_alloc, World.size_drew, World.size_setCell]; omega))) | ((with_reducible refine Below.drewN' ?_ _)) | ((with_reducible refine Below.drew ?_)))), fun x hx => (List.mem_append.1 hx).elim (fun h => .inl (List.mem_append.2 (.inl h))) (fun h => .inr (by have := ho2 x (by simpa [ownB] using h); omega))⟩
  · exact h.1.low (by (repeat (first | with_reducible assumption | with_reducible exact Below.refl _ _ | ((with_reducible refine Below.setCell ?_ ?_ _); rotate_left; (· first | omega | (simp only [World.size_alloc, World.size_drew, World.size_setCell]; omega) | (dsimp only; omega))) | ((with_reducible refine Below.alloc ?_ ?_ _); rotate_left; (· first | omega | (simp only [World.size_alloc, World.size_drew, World.size_setCell]; omega))) | ((with_reducible refine Below.drewN' ?_ _)) | ((with_reducible refine Below.drew ?_)))))
  · refine hR2.kept fun x hx => ?_
    have := ho2 x hx
    exact (show SameAt [x] w2 _ from by (repeat (first | with_reducible assumption | with_reducible exact SameAt.refl _ _ | with_reducible exact SameAt.un _ _ | with_reducible exact SameAt.unN _ _ _ | ((with_reducible refine SameAt.set ?_ ?_ _); rotate_left; (· simp only [List.mem_cons, List.not_mem_nil, or_false, forall_eq_or_imp, forall_eq, ne_eq]; omega)) | ((with_reducible refine SameAt.drewN ?_ _)) | ((with_reducible refine SameAt.drew ?_))))) x (by simp)
  · have := h.2.2.also s n; rw [e] at this; exact this
end Go.Proofs.Ytjpgnadfbejihaa
