/- The walks of the reference's functions. -/
import Derived.Test.YtjpgnadfbejihaaSx
import Derived.Test.YtjpgnadfbejihaaRo
import Derived.Test.YtjpgnadfbejihaaUt
set_option linter.unusedSimpArgs false
set_option linter.unusedVariables false
namespace Go.Proofs.Ytjpgnadfbejihaa
open Go.RowKit Tk
def alC (p : ByteArray × Int) : List Value := [.string p.1, .int .i64 p.2]
theorem alC_len (p : ByteArray × Int) : (alC p).length = 2 := rfl
/-- the reference's state, by value -/
def StA (w : World) (nv av : Value) (T : TS) : Prop := Row w nv T.names ∧ ORow w 67 2 alC av T.als ∧ T.ok
def St (w : World) (v : Value) (T : TS) : Prop := ∃ nv av, v = .agg #[.int .i64 T.lim, nv, av] ∧ StA w nv av T
theorem StA.low {w w1 : World} {nv av : Value} {T : TS} (h : StA w nv av T) (hb : Below w.heap.size w w1) : StA w1 nv av T := ⟨h.1.low hb, h.2.1.low hb, h.2.2⟩
theorem St.low {w w1 : World} {v : Value} {T : TS} (h : St w v T) (hb : Below w.heap.size w w1) : St w1 v T := by
  obtain ⟨nv, av, e, h⟩ := h; exact ⟨nv, av, e, h.low hb⟩
theorem numb_none {s : ByteArray} : ∀ (l : List ByteArray) (i : Nat), (∀ j (h : j < l.length), ¬ l[j] = s) → look s (numb l i) = none
  | [], _, _ => rfl
  | x :: l, i, h => by
    have h0 : ¬ s = x := fun e => h 0 (by simp) e.symm
    have := numb_none l (i + 1) fun j hj => h (j + 1) (by simpa using hj)
    unfold look at this ⊢
    simp only [numb, List.find?_cons, h0, decide_false]
    exact this
theorem numb_some {s : ByteArray} : ∀ (l : List ByteArray) (i k : Nat) (hk : k < l.length), l[k] = s → (∀ j (_ : j < k) (h : j < l.length), ¬ l[j] = s) → look s (numb l i) = some ((i + k : Nat) : Int)
  | x :: l, i, 0, _, e, _ => by unfold look; simp only [numb, List.find?_cons]; simp at e; simp [e]
  | x :: l, i, k + 1, hk, e, h => by
    have h0 : ¬ s = x := fun e => h 0 (by omega) (by simp) e.symm
    have := numb_some l (i + 1) k (by simpa using hk) (by simpa using e) fun j hj h' => h (j + 1) (by omega) (by simpa using h')
    unfold look at this ⊢
    simp only [numb, List.find?_cons, h0, decide_false]
    rw [this, show i + 1 + k = i + (k + 1) by omega]
theorem look_no {s : ByteArray} : ∀ (l : List (ByteArray × Int)), (∀ j (h : j < l.length), ¬ l[j].1 = s) → look s l = none
  | [], _ => rfl
  | x :: l, h => by
    have h0 : ¬ s = x.1 := fun e => h 0 (by simp) e.symm
    have := look_no l fun j hj => h (j + 1) (by simpa using hj)
    unfold look at this ⊢
    simp only [List.find?_cons, h0, decide_false]
    exact this
theorem look_yes {s : ByteArray} : ∀ (l : List (ByteArray × Int)) (k : Nat) (hk : k < l.length), l[k].1 = s → (∀ j (_ : j < k) (h : j < l.length), ¬ l[j].1 = s) → look s l = some l[k].2
  | x :: l, 0, _, e, _ => by unfold look; simp only [List.find?_cons]; simp at e; simp [e]
  | x :: l, k + 1, hk, e, h => by
    have h0 : ¬ s = x.1 := fun e => h 0 (by omega) (by simp) e.symm
    have := look_yes l k (by simpa using hk) (by simpa using e) fun j hj h' => h (j + 1) (by omega) (by simpa using h')
    unfold look at this ⊢
    simp only [List.find?_cons, h0, decide_false]
    exact this
theorem find_name {T : TS} {s : ByteArray} {k : Nat} (hk : k < T.names.length) (e : T.names[k] = s) (h : ∀ j (_ : j < k) (h : j < T.names.length), ¬ T.names[j] = s) : T.find s = some (k : Int) := by
  unfold TS.find; rw [look_app, numb_some T.names 0 k hk e h]; simp
theorem find_alias {T : TS} {s : ByteArray} {k : Nat} (hn : ∀ j (_ : j < T.names.length) (h : j < T.names.length), ¬ T.names[j] = s) (hk : k < T.als.length) (e : T.als[k].1 = s) (h : ∀ j (_ : j < k) (h : j < T.als.length), ¬ T.als[j].1 = s) : T.find s = some T.als[k].2 := by
  unfold TS.find; rw [look_app, numb_none T.names 0 fun j hj => hn j hj hj, look_yes T.als k hk e h]; rfl
theorem find_not {T : TS} {s : ByteArray} (hn : ∀ j (_ : j < T.names.length) (h : j < T.names.length), ¬ T.names[j] = s) (h : ∀ j (_ : j < T.als.length) (h : j < T.als.length), ¬ T.als[j].1 = s) : T.find s = none := by
  unfold TS.find; rw [look_app, numb_none T.names 0 fun j hj => hn j hj hj, look_no T.als fun j hj => h j hj hj]; rfl
def FPost (o : Option Int) (w : World) (e : Ending) (w' : World) : Prop := e = .returned (.tuple #[.int .i64 (o.getD 0), .bool o.isSome]) ∧ Below w.heap.size w w'
theorem fpost_some {o : Option Int} {w w' : World} {n : Int} (h : o = some n) (hb : Below w.heap.size w w') : FPost o w (.returned (.tuple #[.int .i64 n, .bool true])) w' := by subst h; exact ⟨rfl, hb⟩
theorem fpost_none {o : Option Int} {w w' : World} (h : o = none) (hb : Below w.heap.size w w') : FPost o w (.returned (.tuple #[.int .i64 0, .bool false])) w' := by subst h; exact ⟨rfl, hb⟩
set_option maxHeartbeats 1000000 in
theorem r4Find_any {w : World} {nv av : Value} {T : TS} (h : StA w nv av T) (s : ByteArray) : Calls Try.prog 14 #[.agg #[.int .i64 T.lim, nv, av], .string s] w (FPost (T.find s) w) := by
  obtain ⟨h1, h2, hok⟩ := h
  have o1 := hok.len
  have o2 := hok.hi
  have o3 := hok.als
  obtain ⟨ao, cap, rfl, n1, n2⟩ := h1.len
  obtain ⟨bo, cbp, rfl, m1, m2⟩ := h2.len
  unfold maxLen at n2 m2
  go_enter Try.func14, Try.ntmps14
  go_wp2_with (first | ((with_reducible refine wpTxt_q ?_ ?_ ?_); rfl; rfl; intro _ _) | ((with_reducible refine wpTxt_w0 ?_ ?_ ?_); rfl; rfl; intro _ _) | ((with_reducible refine wpTxt_s ?_ ?_); rfl; intro _ _; go_simp) | ((with_reducible refine wpTxt_sw ?_ ?_); rfl; intro _ _; go_simp) | (with_reducible refine wpTxt_nil ?_) | ((with_reducible refine wp_region_t mixed ?_ ?_); decide +kernel; intro _ _))
  go_loop [6] (fun i => ∃ k : Nat, i = .int .i64 k ∧ k ≤ T.names.length ∧ Hid (∀ j (_ : j < k) (h1 : j < T.names.length), ¬ T.names[j] = s)) (fun i => T.names.length - (intOf i).toNat)
  case atStart => exact ⟨0, rfl, by omega, fun j h => absurd h (by omega)⟩
  case round =>
    obtain ⟨k, rfl, hk, hall⟩ := hrel
    by_cases hlt : k < T.names.length
    · obtain ⟨g, cap', e, -, -, hc⟩ := h1.at (by omega)
      injection e with e1 e2 e3
      subst e1
      have hck := hc k hlt
      have hg : g < w.heap.size := World.block_lt_of_cell? w _ hck
      clear hc e3 e2
      by_cases he : T.names[k] = s
      · have g3 := txt_t he
        have HL := Lib.hid (find_name hlt he hall.out)
        clear he
        go_wp2_with (first | ((with_reducible refine wpTxt_q ?_ ?_ ?_); rfl; rfl; intro _ _) | ((with_reducible refine wpTxt_w0 ?_ ?_ ?_); rfl; rfl; intro _ _) | ((with_reducible refine wpTxt_s ?_ ?_); rfl; intro _ _; go_simp) | ((with_reducible refine wpTxt_sw ?_ ?_); rfl; intro _ _; go_simp) | (with_reducible refine wpTxt_nil ?_) | ((with_reducible refine wp_region_t mixed ?_ ?_); decide +kernel; intro _ _))
        exact bodyPost_ret (v := .tuple #[.int .i64 k, .bool true]) (by simp [results, Try.f14, go_sem]) rfl (fpost_some HL.out (by (repeat (first | with_reducible assumption | with_reducible exact Below.refl _ _ | ((with_reducible refine Below.setCell ?_ ?_ _); rotate_left; (· first | omega | (simp only [World.size_alloc, World.size_drew, World.size_setCell]; omega) | (dsimp only; omega))) | ((with_reducible refine Below.alloc ?_ ?_ _); rotate_left; (· first | omega | (simp only [World.size_alloc, World.size_drew, World.size_setCell]; omega))) | ((with_reducible refine Below.drewN' ?_ _)) | ((with_reducible refine Below.drew ?_))))))
      · have g3 := txt_f he
        have HL := Lib.hid (none_snoc (p := fun x => x = s) hall.out hlt he)
        clear he
        go_wp2_with (first | ((with_reducible refine wpTxt_q ?_ ?_ ?_); rfl; rfl; intro _ _) | ((with_reducible refine wpTxt_w0 ?_ ?_ ?_); rfl; rfl; intro _ _) | ((with_reducible refine wpTxt_s ?_ ?_); rfl; intro _ _; go_simp) | ((with_reducible refine wpTxt_sw ?_ ?_); rfl; intro _ _; go_simp) | (with_reducible refine wpTxt_nil ?_) | ((with_reducible refine wp_region_t mixed ?_ ?_); decide +kernel; intro _ _))
        go_round
        case rel => exact ⟨k + 1, by go_num, by omega, HL.out⟩
        case measure => simp [intOf]; omega
    · have hkk : k = T.names.length := by omega
      subst hkk
      go_wp2_with (first | ((with_reducible refine wpTxt_q ?_ ?_ ?_); rfl; rfl; intro _ _) | ((with_reducible refine wpTxt_w0 ?_ ?_ ?_); rfl; rfl; intro _ _) | ((with_reducible refine wpTxt_s ?_ ?_); rfl; intro _ _; go_simp) | ((with_reducible refine wpTxt_sw ?_ ?_); rfl; intro _ _; go_simp) | (with_reducible refine wpTxt_nil ?_) | ((with_reducible refine wp_region_t mixed ?_ ?_); decide +kernel; intro _ _))
      go_loop [7] (fun i => ∃ k : Nat, i = .int .i64 k ∧ k ≤ T.als.length ∧ Hid (∀ j (_ : j < k) (h1 : j < T.als.length), ¬ T.als[j].1 = s)) (fun i => T.als.length - (intOf i).toNat)
      case atStart => exact ⟨0, rfl, by omega, fun j h => absurd h (by omega)⟩
      case round =>
        obtain ⟨k, rfl, hk, hall2⟩ := hrel
        by_cases hlt2 : k < T.als.length
        · obtain ⟨g, cap', e, -, -, hg, hc⟩ := h2.at alC_len (by omega)
          injection e with e1 e2 e3
          subst e1
          have hck := hc k hlt2 0 (by omega)
          have hcl := hc k hlt2 1 (by omega)
          clear hc e3 e2
          simp only [alC, List.getElem?_cons_zero, List.getElem?_cons_succ, Nat.add_zero] at hck hcl
          by_cases he : T.als[k].1 = s
          · have g3 := txt_t he
            have HL := Lib.hid (find_alias hall.out hlt2 he hall2.out)
            clear he
            go_wp2_with (first | ((with_reducible refine wpTxt_q ?_ ?_ ?_); rfl; rfl; intro _ _) | ((with_reducible refine wpTxt_w0 ?_ ?_ ?_); rfl; rfl; intro _ _) | ((with_reducible refine wpTxt_s ?_ ?_); rfl; intro _ _; go_simp) | ((with_reducible refine wpTxt_sw ?_ ?_); rfl; intro _ _; go_simp) | (with_reducible refine wpTxt_nil ?_) | ((with_reducible refine wp_region_t mixed ?_ ?_); decide +kernel; intro _ _))
            exact bodyPost_ret (v := .tuple #[.int .i64 T.als[k].2, .bool true]) (by simp [results, Try.f14, go_sem]) rfl (fpost_some HL.out (by (repeat (first | with_reducible assumption | with_reducible exact Below.refl _ _ | ((with_reducible refine Below.setCell ?_ ?_ _); rotate_left; (· first | omega | (simp only [World.size_alloc, World.size_drew, World.size_setCell]; omega) | (dsimp only; omega))) | ((with_reducible refine Below.alloc ?_ ?_ _); rotate_left; (· first | omega | (simp only [World.size_alloc, World.size_drew, World.size_setCell]; omega))) | ((with_reducible refine Below.drewN' ?_ _)) | ((with_reducible refine Below.drew ?_))))))
          · have g3 := txt_f he
            have HL := Lib.hid (none_snoc (p := fun x : ByteArray × Int => x.1 = s) hall2.out hlt2 he)
            clear he
            go_wp2_with (first | ((with_reducible refine wpTxt_q ?_ ?_ ?_); rfl; rfl; intro _ _) | ((with_reducible refine wpTxt_w0 ?_ ?_ ?_); rfl; rfl; intro _ _) | ((with_reducible refine wpTxt_s ?_ ?_); rfl; intro _ _; go_simp) | ((with_reducible refine wpTxt_sw ?_ ?_); rfl; intro _ _; go_simp) | (with_reducible refine wpTxt_nil ?_) | ((with_reducible refine wp_region_t mixed ?_ ?_); decide +kernel; intro _ _))
            go_round
            case rel => exact ⟨k + 1, by go_num, by omega, HL.out⟩
            case measure => simp [intOf]; omega
        · have hkk : k = T.als.length := by omega
          subst hkk
          go_wp2_with (first | ((with_reducible refine wpTxt_q ?_ ?_ ?_); rfl; rfl; intro _ _) | ((with_reducible refine wpTxt_w0 ?_ ?_ ?_); rfl; rfl; intro _ _) | ((with_reducible refine wpTxt_s ?_ ?_); rfl; intro _ _; go_simp) | ((with_reducible refine wpTxt_sw ?_ ?_); rfl; intro _ _; go_simp) | (with_reducible refine wpTxt_nil ?_) | ((with_reducible refine wp_region_t mixed ?_ ?_); decide +kernel; intro _ _))
          exact bodyPost_ret (v := .tuple #[.int .i64 0, .bool false]) (by simp [results, Try.f14, go_sem]) rfl (fpost_none (find_not hall.out hall2.out) (by (repeat (first | with_reducible assumption | with_reducible exact Below.refl _ _ | ((with_reducible refine Below.setCell ?_ ?_ _); rotate_left; (· first | omega | (simp only [World.size_alloc, World.size_drew, World.size_setCell]; omega) | (dsimp only; omega))) | ((with_reducible refine Below.alloc ?_ ?_ _); rotate_left; (· first | omega | (simp only [World.size_alloc, World.size_drew, World.size_setCell]; omega))) | ((with_reducible refine Below.drewN' ?_ _)) | ((with_reducible refine Below.drew ?_))))))
end Go.Proofs.Ytjpgnadfbejihaa
