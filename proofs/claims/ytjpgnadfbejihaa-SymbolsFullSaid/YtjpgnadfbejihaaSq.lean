/- The walk of the reference's Sorted. -/
import Derived.Test.YtjpgnadfbejihaaSo
set_option linter.unusedSimpArgs false
set_option linter.unusedVariables false
namespace Go.Proofs.Ytjpgnadfbejihaa
open Go.RowKit Tk
theorem Row.drew {w : World} {v : Value} {xs : List ByteArray} (h : Row w v xs) : Row w.drew v xs := h
theorem Row.set {w : World} {g n cap : Nat} {xs : List ByteArray} (h : Row w (.slice (some ⟨g, 0, none⟩) n cap) xs) (hn : n = xs.length) (i : Nat) (y : ByteArray) : Row (w.setCell ⟨g, i, none⟩ (.string y)) (.slice (some ⟨g, 0, none⟩) n cap) (xs.set i y) := by
  subst hn
  obtain ⟨this, -⟩ := World.ownsRow.stored (w := w) (base := 0) (e := 9) (size := 1) (g := g) (n := xs.length) (cap := cap) (xs := xs.map Value.string) h i (.string y)
  unfold Row
  rw [List.length_set, List.map_set]
  exact this
theorem Row.get {w : World} {g n cap i : Nat} {xs : List ByteArray} {x : ByteArray} (h : Row w (.slice (some ⟨g, 0, none⟩) n cap) xs) (hx : xs[i]? = some x) : w.cell? ⟨g, i, none⟩ = some (.string x) ∧ w.frozen? ⟨g, i, none⟩ = false := by
  have hi : i < xs.length := by
    rcases Nat.lt_or_ge i xs.length with hl | hl
    · exact hl
    · rw [List.getElem?_eq_none hl] at hx; cases hx
  obtain ⟨ao, cap', e, _, _⟩ := h.len
  injection e with _ e2 _
  subst e2
  refine ⟨?_, World.ownsRow.frozenAt (w := w) (base := 0) (e := 9) (size := 1) (g := g) (n := xs.length) (cap := cap) (xs := xs.map Value.string) h i⟩
  have := World.ownsRow.cellAt (w := w) (base := 0) (e := 9) (size := 1) (g := g) (n := xs.length) (cap := cap) (xs := xs.map Value.string) h i (by omega)
  rw [this, List.getElem?_map, hx]; rfl
theorem put_end {ys P S zs : List ByteArray} {x : ByteArray} {l : List ByteArray} (hA : Asc ys ∧ ys.Perm l) (hPS : P ++ S = ys ∧ ∀ y ∈ S, key x ≤ key y) (hP : ∀ y ∈ P.getLast?, key y ≤ key x) (hz : zs = P ++ x :: S) : Asc zs ∧ zs.Perm (l ++ [x]) := by
  obtain ⟨rfl, h2⟩ := hPS
  subst hz
  exact ⟨hA.1.put h2 hP, (List.perm_middle.trans (List.perm_append_singleton x _).symm).trans (hA.2.append_right _)⟩
theorem swap_list {P S : List ByteArray} {z x : ByteArray} : (((P ++ [z]) ++ x :: S).set (P.length + 1) z).set P.length x = P ++ x :: z :: S := by
  rw [List.append_assoc]
  simp [List.set_append]
theorem all_len (T : TS) : T.all.length = T.names.length + T.als.length := by simp [TS.all]
theorem all_name {T : TS} {k : Nat} (h : k < T.names.length) : T.all[k]? = some T.names[k] := by simp [TS.all, List.getElem?_append_left h, h]
theorem all_also {T : TS} {j : Nat} (h : j < T.als.length) : T.all[T.names.length + j]? = some T.als[j].1 := by simp [TS.all, h]
theorem take_snoc' {l : List ByteArray} {k : Nat} {x : ByteArray} (h : l[k]? = some x) : l.take (k + 1) = l.take k ++ [x] := by rw [List.take_add_one, h]; rfl
set_option maxHeartbeats 2000000 in
set_option maxRecDepth 100000 in
theorem r4Sorted_any {w : World} {nv av : Value} {T : TS} (h : StA w nv av T) : Calls Try.prog 33 #[.agg #[.int .i64 T.lim, nv, av]] w fun e w' => ∃ v', e = .returned v' ∧ Row w' v' (sortS T.all) ∧ Below w.heap.size w w' := by
  obtain ⟨h1, h2, hok⟩ := h
  have o1 := hok.len
  have o2 := hok.hi
  have o3 := hok.als
  obtain ⟨ao, cap, rfl, n1, n2⟩ := h1.len
  obtain ⟨bo, bcap, rfl, m1, m2⟩ := h2.len
  unfold maxLen at n2 m2
  go_enter Try.func33, Try.ntmps33
  go_wp2_with (first | ((with_reducible refine wpTxt_q ?_ ?_ ?_); rfl; rfl; intro _ _) | ((with_reducible refine wpTxt_w0 ?_ ?_ ?_); rfl; rfl; intro _ _) | ((with_reducible refine wpTxt_s ?_ ?_); rfl; intro _ _; go_simp) | ((with_reducible refine wpTxt_sw ?_ ?_); rfl; intro _ _; go_simp) | (with_reducible refine wpTxt_nil ?_) | ((with_reducible refine wp_region_t mixed ?_ ?_); decide +kernel; intro _ _))
  go_loopw [3, 4] (fun v i wr => ∃ (ys : List ByteArray), i = .int .i64 ys.length ∧ ys.length ≤ T.names.length + T.als.length ∧ Row wr v ys ∧ Hid (Asc ys ∧ ys.Perm (T.all.take ys.length)) ∧ Below (w.heap.size + 1) (w.alloc (.cells #[.int .i64 T.lim, .slice ao T.names.length cap, .slice bo T.als.length bcap] 28)) wr ∧ ∀ x ∈ ownB v, w.heap.size + 1 ≤ x) (fun _ i _ => T.names.length + T.als.length - (intOf i).toNat)
  case atStart => exact ⟨[], rfl, Nat.zero_le _, World.ownsRow_nil _ _ _ _, ⟨List.Pairwise.nil, by simp⟩, Below.refl _ _, by simp [ownB, Value.ownBlock]⟩
  case round =>
    obtain ⟨ys, rfl, hk, hR, hA, hB, hO⟩ := hrel
    obtain ⟨wo, hwo⟩ : ∃ wo, wo = wr := ⟨_, rfl⟩
    subst hwo
    obtain ⟨hc, hf⟩ := bcell hB
    have hz : w.heap.size < wo.heap.size := by have := hB.size; simp at this; omega
    by_cases hlt : ys.length < T.names.length + T.als.length
    · by_cases hn : ys.length < T.names.length
      obtain ⟨g, cap', e, -, -, hcc⟩ := h1.at (by omega)
      injection e with e1 e2 e3
      subst e1
      have hck := hcc ys.length hn
      have hg : g < w.heap.size := World.block_lt_of_cell? w _ hck
      have hg' : g < w.heap.size + 1 := by omega
      obtain ⟨x, hx⟩ : ∃ x, T.names[ys.length] = x := ⟨_, rfl⟩
      have HX := Lib.hid (all_name hn)
      rw [hx] at hck HX
      clear hcc e2 e3 hx
      rotate_left
      obtain ⟨j, hj⟩ : ∃ j, ys.length = T.names.length + j := ⟨ys.length - T.names.length, by omega⟩
      have hjl : j < T.als.length := by omega
      obtain ⟨g, cap', e, -, -, hg, hcc⟩ := h2.at alC_len (by omega)
      injection e with e1 e2 e3
      subst e1
      have hck := hcc j hjl 0 (by omega)
      have hg' : g < w.heap.size + 1 := by omega
      obtain ⟨x, hx⟩ : ∃ x, T.als[j].1 = x := ⟨_, rfl⟩
      have HX := Lib.hid (all_also hjl)
      rw [← hj] at HX
      simp only [alC, List.getElem?_cons_zero, Nat.add_zero] at hck
      rw [hx] at hck HX
      have hsub : ((ys.length : Nat) : Int) - T.names.length = (j : Int) := by omega
      replace hj := Lib.hid hj
      clear hcc e2 e3 hx
      all_goals
        go_wp2_with (first | (at_builtin; refine wpList_app rfl (.tmp 38) (.tmp 40) rfl info_str und_strs rfl (by decide) strC_l strC_one _ _ ys [x] rfl rfl ?_ ?_ ?_ ?_ ?_; (· exact hR.o.low (by (repeat (first | with_reducible assumption | with_reducible exact Below.refl _ _ | ((with_reducible refine Below.setCell ?_ ?_ _); rotate_left; (· first | omega | (simp only [World.size_alloc, World.size_drew, World.size_setCell]; omega) | (dsimp only; omega))) | ((with_reducible refine Below.alloc ?_ ?_ _); rotate_left; (· first | omega | (simp only [World.size_alloc, World.size_drew, World.size_setCell]; omega))) | ((with_reducible refine Below.drewN' ?_ _)) | ((with_reducible refine Below.drew ?_)))))); (· exact RRow.blk (xs := [x]) strC_l (Blk.fresh _ _ _) rfl (by show 1 ≤ maxLen; decide)); (· simp only [maxLen, List.length_singleton]; omega); (· simp only [List.length_singleton]; omega); intro v4 w4 hA4; obtain ⟨g4, cap4, hv4, q1, q2, hc4⟩ := (Row.of hA4.row).at (by simp); rw [List.length_append, List.length_singleton] at hv4; subst hv4; obtain ⟨hb4, ho4⟩ := hA4.below (B := w.heap.size + 1) (by (repeat (first | with_reducible assumption | with_reducible exact Below.refl _ _ | ((with_reducible refine Below.setCell ?_ ?_ _); rotate_left; (· first | omega | (simp only [World.size_alloc, World.size_drew, World.size_setCell]; omega) | (dsimp only; omega))) | ((with_reducible refine Below.alloc ?_ ?_ _); rotate_left; (· first | omega | (simp only [World.size_alloc, World.size_drew, World.size_setCell]; omega))) | ((with_reducible refine Below.drewN' ?_ _)) | ((with_reducible refine Below.drew ?_))))) (fun x hx => hO x (mem_ownB.2 hx)) (by simp; omega); have hR4 := Row.of hA4.row; clear hA4 hc4) | ((with_reducible refine wpTxt_q ?_ ?_ ?_); rfl; rfl; intro _ _) | ((with_reducible refine wpTxt_w0 ?_ ?_ ?_); rfl; rfl; intro _ _) | ((with_reducible refine wpTxt_s ?_ ?_); rfl; intro _ _; go_simp) | ((with_reducible refine wpTxt_sw ?_ ?_); rfl; intro _ _; go_simp) | (with_reducible refine wpTxt_nil ?_) | ((with_reducible refine wp_region_t mixed ?_ ?_); decide +kernel; intro _ _))
        go_loopw [6] (fun kk wi => ∃ (P S : List ByteArray), kk = .int .i64 P.length ∧ Row wi (.slice (some ⟨g4, 0, none⟩) (ys.length + 1) cap4) (P ++ x :: S) ∧ Hid (P ++ S = ys ∧ ∀ y ∈ S, key x ≤ key y) ∧ Below (w.heap.size + 1) wo wi) (fun kk _ => (intOf kk).toNat)
        case atStart => exact ⟨ys, [], by go_num, hR4, ⟨by simp, by simp⟩, below_after hb4 ((Below.refl _ _).alloc (by omega) _)⟩
        case round =>
          obtain ⟨P, S, rfl, hRi, hPS, hBi⟩ := hrel
          obtain ⟨hci, hfi⟩ := bcell hBi
          have hg4 : w.heap.size + 1 ≤ g4 := ho4 g4 rfl
          have hgi : g4 < wr.heap.size := hRi.lt g4 (by simp [ownB, Value.ownBlock])
          have hzl : (P ++ x :: S).length = ys.length + 1 := by rw [← hPS.out.1]; simp; omega
          have HZ := Lib.hid hzl
          clear hzl
          rcases List.eq_nil_or_concat P with rfl | ⟨P', z, rfl⟩
          · have hE := put_end hA.out hPS.out (by simp) rfl
            rw [← take_snoc' HX.out, ← HZ.out] at hE
            replace hE := Lib.hid hE
            go_wp2_with (first | ((with_reducible refine wpTxt_q ?_ ?_ ?_); rfl; rfl; intro _ _) | ((with_reducible refine wpTxt_w0 ?_ ?_ ?_); rfl; rfl; intro _ _) | ((with_reducible refine wpTxt_s ?_ ?_); rfl; intro _ _; go_simp) | ((with_reducible refine wpTxt_sw ?_ ?_); rfl; intro _ _; go_simp) | (with_reducible refine wpTxt_nil ?_) | ((with_reducible refine wp_region_t mixed ?_ ?_); decide +kernel; intro _ _))
            go_roundw
            case rel => exact ⟨_, by rw [HZ.out]; go_num, by rw [HZ.out]; omega, hRi.drew, hE.out, (hB.trans hBi).drew, fun x hx => ho4 x (mem_ownB.1 hx)⟩
            case measure => simp [intOf]; omega
          · rw [List.concat_eq_append] at hRi hPS HZ ⊢
            obtain ⟨p, hp⟩ : ∃ p, P'.length = p := ⟨_, rfl⟩
            obtain ⟨f0, f1⟩ := hRi.get (i := P'.length) (x := z) (by simp)
            obtain ⟨f2, f3⟩ := hRi.get (i := P'.length + 1) (x := x) (by simp)
            have hpy : P'.length < ys.length := by rw [← hPS.out.1]; simp; try omega
            have hp0 : (0 : Int) < (P'.length : Int) + 1 := by omega
            have hp1 : (P'.length : Int) < (ys.length : Int) + 1 := by omega
            have hp2 : (P'.length : Int) < (ys.length : Int) := by omega
            have hp3 : P'.length < ys.length + 1 := by omega
            rw [List.length_append, List.length_singleton]
            have HW := Lib.hid (show IntKind.i64.wrap (P'.length : Int) = P'.length from IntWalk.i64_in _ (by omega))
            by_cases hlx : key x < key z
            · have hl1 := less_t hlx
              have hSw : Row ((wr.setCell ⟨g4, P'.length + 1, none⟩ (.string z)).setCell ⟨g4, P'.length, none⟩ (.string x)) (.slice (some ⟨g4, 0, none⟩) (ys.length + 1) cap4) (P' ++ x :: z :: S) := by
                have := (hRi.set HZ.out.symm (P'.length + 1) z).set (by rw [List.length_set, HZ.out]) P'.length x
                rw [swap_list] at this; exact this
              have HPS : Hid (P' ++ z :: S = ys ∧ ∀ y ∈ z :: S, key x ≤ key y) := ⟨by rw [← hPS.out.1]; simp, fun y hy => by
                rcases List.mem_cons.1 hy with rfl | hy
                · exact List.le_of_lt hlx
                · exact hPS.out.2 y hy⟩
              clear hlx hp hPS
              have hw := HW.out
              go_wp2_with (first | ((with_reducible refine wpTxt_q ?_ ?_ ?_); rfl; rfl; intro _ _) | ((with_reducible refine wpTxt_w0 ?_ ?_ ?_); rfl; rfl; intro _ _) | ((with_reducible refine wpTxt_s ?_ ?_); rfl; intro _ _; go_simp) | ((with_reducible refine wpTxt_sw ?_ ?_); rfl; intro _ _; go_simp) | (with_reducible refine wpTxt_nil ?_) | ((with_reducible refine wp_region_t mixed ?_ ?_); decide +kernel; intro _ _))
              refine wp_region_g [] [0, 0, 0, 0, 1, 0, 0, 0, 0, 0, 0, 0, 0, 0, 0, 0, 0, 0] mixed ?_ ?_
              · decide +kernel
              intro K hK
              go_wp2_with (first | ((with_reducible refine wpTag_q ?_ ?_ ?_); rfl; rfl; intro _ _) | ((with_reducible refine wpTag_w ?_ ?_ ?_); rfl; rfl; intro _ _) | ((with_reducible refine wpTag_s ?_ ?_); rfl; intro _ _; go_simp) | ((with_reducible refine wpTag_sw ?_ ?_); rfl; intro _ _; go_simp) | (with_reducible refine wpTag_nil ?_))
              refine wpTag_1 (.int .i64 P'.length) rfl rfl ?_ ?_
              · intro w'
                go_simp
              go_wp2_with (first | ((with_reducible refine wpTag_q ?_ ?_ ?_); rfl; rfl; intro _ _) | ((with_reducible refine wpTag_w ?_ ?_ ?_); rfl; rfl; intro _ _) | ((with_reducible refine wpTag_s ?_ ?_); rfl; intro _ _; go_simp) | ((with_reducible refine wpTag_sw ?_ ?_); rfl; intro _ _; go_simp) | (with_reducible refine wpTag_nil ?_))
              clear hw
              go_roundw
              case rel => exact ⟨P', z :: S, by go_num, hSw, HPS, by (repeat (first | with_reducible assumption | with_reducible exact Below.refl _ _ | ((with_reducible refine Below.setCell ?_ ?_ _); rotate_left; (· first | omega | (simp only [World.size_alloc, World.size_drew, World.size_setCell]; omega) | (dsimp only; omega))) | ((with_reducible refine Below.alloc ?_ ?_ _); rotate_left; (· first | omega | (simp only [World.size_alloc, World.size_drew, World.size_setCell]; omega))) | ((with_reducible refine Below.drewN' ?_ _)) | ((with_reducible refine Below.drew ?_))))⟩
              case measure => simp [intOf]
            · have hl1 := less_f hlx
              have hE := put_end hA.out hPS.out (by simp; exact List.not_lt.1 hlx) rfl
              rw [← take_snoc' HX.out, ← HZ.out] at hE
              replace hE := Lib.hid hE
              clear hlx hp hPS
              have hw := HW.out
              go_wp2_with (first | ((with_reducible refine wpTxt_q ?_ ?_ ?_); rfl; rfl; intro _ _) | ((with_reducible refine wpTxt_w0 ?_ ?_ ?_); rfl; rfl; intro _ _) | ((with_reducible refine wpTxt_s ?_ ?_); rfl; intro _ _; go_simp) | ((with_reducible refine wpTxt_sw ?_ ?_); rfl; intro _ _; go_simp) | (with_reducible refine wpTxt_nil ?_) | ((with_reducible refine wp_region_t mixed ?_ ?_); decide +kernel; intro _ _))
              clear hw
              go_roundw
              case rel => exact ⟨_, by rw [HZ.out]; go_num, by rw [HZ.out]; omega, hRi.drew, hE.out, (hB.trans hBi).drew, fun x hx => ho4 x (mem_ownB.1 hx)⟩
              case measure => simp [intOf]; omega
    · have hkk : ys.length = T.all.length := by rw [all_len]; omega
      have hE := hA.out
      rw [List.take_of_length_le (by omega)] at hE
      have HE := Lib.hid (hE.1.sortS hE.2)
      have hlt' : ¬ ((ys.length : Int) < T.names.length + T.als.length) := by omega
      clear hE hkk
      go_wp2_with (first | ((with_reducible refine wpTxt_q ?_ ?_ ?_); rfl; rfl; intro _ _) | ((with_reducible refine wpTxt_w0 ?_ ?_ ?_); rfl; rfl; intro _ _) | ((with_reducible refine wpTxt_s ?_ ?_); rfl; intro _ _; go_simp) | ((with_reducible refine wpTxt_sw ?_ ?_); rfl; intro _ _; go_simp) | (with_reducible refine wpTxt_nil ?_) | ((with_reducible refine wp_region_t mixed ?_ ?_); decide +kernel; intro _ _))
      go_ret
      exact ⟨_, rfl, HE.out ▸ hR, ((Below.refl _ _).alloc (Nat.le_refl _) _).trans (hB.mono (by omega))⟩
end Go.Proofs.Ytjpgnadfbejihaa
