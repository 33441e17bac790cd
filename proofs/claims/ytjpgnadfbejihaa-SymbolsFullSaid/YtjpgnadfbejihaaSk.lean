/- The walk of Copy. -/
import Derived.Test.YtjpgnadfbejihaaSd
set_option linter.unusedSimpArgs false
set_option linter.unusedVariables false
namespace Go.Proofs.Ytjpgnadfbejihaa
open Go.RowKit Tk
def mapAt (v : Value) (w : World) : Prop := match v with | .map (some m) => StrMap w m [] | _ => True
def mapOf (v : Value) : List Nat := match v with | .map (some m) => [m] | _ => []
def spMap : Sp :=
  { φ := fun v => ∃ m, v = .map (some m), Φ := mapAt, fp := mapOf,
    mono := fun v w w' hx h => by
      unfold mapAt at *
      split at h
      · exact StrMap.low h hx
      · trivial }
theorem good_map (w : World) : spMap.Good (.map (some w.heap.size)) w (w.alloc (.map #[] 0)) :=
  ⟨⟨_, rfl⟩, StrMap.made w, Ext.alloc w _, fun b hb => by
    have : b = w.heap.size := by simpa [spMap, mapOf] using hb
    subst this
    simp⟩
theorem Only.turned {F : List Nat} {it : Nat} {w w1 w2 : World} (h : Only F w w1) (k : MapTurned it w1 w2) (hi : it ∈ F) : Only F w w2 :=
  h.then_ ⟨k.os, k.tape, k.output, Nat.le_of_eq k.size.symm, fun x _ hn => k.block x fun e => hn (e ▸ hi)⟩
set_option maxHeartbeats 2000000 in
set_option maxRecDepth 100000 in
theorem copy_tab {w : World} {b m : Nat} {nv av : Value} {ml : List (ByteArray × Value)} {T : TS} (h : TabAt w b m nv av ml T) :
    Calls Try.prog 23 #[.pointer (some ⟨b, 0, none⟩)] w (TPost T w) := by
  have h1 := h.ok.len
  have h2 := h.ok.hi
  have h3 := h.ok.als
  obtain ⟨no, ncap, rfl, hn1, hn2⟩ := h.names.len
  obtain ⟨ao, acap, hav, ha1, ha2⟩ := h.als.len
  rw [List.length_map] at hav
  subst hav
  obtain ⟨c0, c1, c2, c3⟩ := h.cells
  have H := Lib.hid h
  go_enter Try.func23, Try.ntmps23
  go_upto_region 3 with (first | ((with_reducible refine wpTxt_q ?_ ?_ ?_); rfl; rfl; intro _ _) | ((with_reducible refine wpTxt_w0 ?_ ?_ ?_); rfl; rfl; intro _ _) | ((with_reducible refine wpTxt_s ?_ ?_); rfl; intro _ _; go_simp) | ((with_reducible refine wpTxt_sw ?_ ?_); rfl; intro _ _; go_simp) | (with_reducible refine wpTxt_nil ?_) | ((with_reducible refine wp_region_t mixed ?_ ?_); decide +kernel; intro _ _) | (go_at_call 28; ((with_reducible refine (made_tab (by assumption)).mono ?_); rintro e w' ⟨rfl, rfl⟩)))
  clear c0 c1 c2 c3
  refine wp_region_e (spOf [(8, spRow T.names), (13, spRow (T.als.map (·.1))), (14, spMap)]) [0, 1, 2, 3, 4, 5, 6, 7, 8, 9, 10, 11, 12, 13, 14, 15] [16, 17] mixed ?_ ?_
  · decide +kernel
  · intro K ws hws hK
    have hxw : Below w.heap.size w ws := by rw [hws]; (repeat (first | with_reducible assumption | with_reducible exact Below.refl _ _ | ((with_reducible refine Below.setCell ?_ ?_ _); rotate_left; (· first | omega | (simp only [World.size_alloc, World.size_drew, World.size_setCell]; omega) | (dsimp only; omega))) | ((with_reducible refine Below.alloc ?_ ?_ _); rotate_left; (· first | omega | (simp only [World.size_alloc, World.size_drew, World.size_setCell]; omega))) | ((with_reducible refine Below.drewN' ?_ _)) | ((with_reducible refine Below.drew ?_))))
    clear hws
    dsimp only [pickE, pickL, List.getElem?_cons_succ, List.getElem?_cons_zero] at hK ⊢
    go_wp2_with (first | ((with_reducible refine wpE_q ?_ ?_ ?_); rfl; rfl; intro wq hq _ _; obtain ⟨c0, c1, c2, c3⟩ := (H.out.low (hxw.trans (hq.mono hxw.size))).cells) | ((with_reducible refine wpE_s ?_ ?_); rfl; intro wq hq _ _; obtain ⟨c0, c1, c2, c3⟩ := (H.out.low (hxw.trans (hq.mono hxw.size))).cells; go_simp))
    refine wpE_w (spRow T.names) _ rfl rfl rfl rfl rfl ⟨_, none, 0, rfl⟩ ?_ ?_
    · intro wq hq K2 hK2
      go_wp2_with fail
      refine (copied_row (H.out.low (hxw.trans (hq.mono hxw.size))).names (by omega)).mono ?_
      rintro e w' ⟨v', rfl, hr', hb', hf'⟩
      go_wp2_with fail
      exact good_row hr' hb' hf'
    · rintro v ⟨co, ccap, rfl⟩
      go_wp2_with (first | ((with_reducible refine wpE_q ?_ ?_ ?_); rfl; rfl; intro wq hq _ _; obtain ⟨c0, c1, c2, c3⟩ := (H.out.low (hxw.trans (hq.mono hxw.size))).cells) | ((with_reducible refine wpE_s ?_ ?_); rfl; intro wq hq _ _; obtain ⟨c0, c1, c2, c3⟩ := (H.out.low (hxw.trans (hq.mono hxw.size))).cells; go_simp))
      refine wpE_w (spRow (T.als.map (·.1))) _ rfl rfl rfl rfl rfl ⟨_, none, 0, rfl⟩ ?_ ?_
      · intro wq hq K2 hK2
        go_wp2_with fail
        refine (copied_row (H.out.low (hxw.trans (hq.mono hxw.size))).als (by rw [List.length_map]; omega)).mono ?_
        rintro e w' ⟨v', rfl, hr', hb', hf'⟩
        go_wp2_with fail
        exact good_row hr' hb' hf'
      · rintro v ⟨eo, ecap, rfl⟩
        go_wp2_with (first | ((with_reducible refine wpE_q ?_ ?_ ?_); rfl; rfl; intro wq hq _ _; obtain ⟨c0, c1, c2, c3⟩ := (H.out.low (hxw.trans (hq.mono hxw.size))).cells) | ((with_reducible refine wpE_s ?_ ?_); rfl; intro wq hq _ _; obtain ⟨c0, c1, c2, c3⟩ := (H.out.low (hxw.trans (hq.mono hxw.size))).cells; go_simp))
        refine wpE_w spMap _ rfl rfl rfl rfl rfl ⟨_, 0, rfl⟩ ?_ ?_
        · intro wq hq K2 hK2
          go_wp2_with fail
          exact good_map wq
        · rintro v ⟨m2, rfl⟩
          go_wp2_with (first | ((with_reducible refine wpE_q ?_ ?_ ?_); rfl; rfl; intro wq hq _ _; obtain ⟨c0, c1, c2, c3⟩ := (H.out.low (hxw.trans (hq.mono hxw.size))).cells) | ((with_reducible refine wpE_s ?_ ?_); rfl; intro wq hq _ _; obtain ⟨c0, c1, c2, c3⟩ := (H.out.low (hxw.trans (hq.mono hxw.size))).cells; go_simp))
          refine wpE_nil (fun w4 hx4 hΦ hfp hdis => ?_)
          have hR4 : Row w4 (.slice co T.names.length ccap) T.names := hΦ (8, .slice co T.names.length ccap) (by simp)
          have hA4 : Row w4 (.slice eo T.als.length ecap) (T.als.map (·.1)) := hΦ (13, .slice eo T.als.length ecap) (by simp)
          have hM4 : StrMap w4 m2 [] := hΦ (14, .map (some m2)) (by simp)
          have oR : ∀ x ∈ ownB (.slice co T.names.length ccap), ws.heap.size ≤ x ∧ x < w4.heap.size := fun x hx => hfp (8, .slice co T.names.length ccap) (by simp) x hx
          have oA : ∀ x ∈ ownB (.slice eo T.als.length ecap), ws.heap.size ≤ x ∧ x < w4.heap.size := fun x hx => hfp (13, .slice eo T.als.length ecap) (by simp) x hx
          have oM : ws.heap.size ≤ m2 ∧ m2 < w4.heap.size := hfp (14, .map (some m2)) (by simp) m2 (by simp [spOf, spMap, mapOf])
          have dRA : ∀ x ∈ ownB (.slice co T.names.length ccap), x ∉ ownB (.slice eo T.als.length ecap) := fun x hx => hdis (8, .slice co T.names.length ccap) (by simp) (13, .slice eo T.als.length ecap) (by simp) (by simp) x hx
          have dRM : m2 ∉ ownB (.slice co T.names.length ccap) := fun hx => hdis (8, .slice co T.names.length ccap) (by simp) (14, .map (some m2)) (by simp) (by simp) m2 hx (by simp [spOf, spMap, mapOf])
          have dAM : m2 ∉ ownB (.slice eo T.als.length ecap) := fun hx => hdis (13, .slice eo T.als.length ecap) (by simp) (14, .map (some m2)) (by simp) (by simp) m2 hx (by simp [spOf, spMap, mapOf])
          have hB4 : Below w.heap.size w w4 := hxw.trans (hx4.mono hxw.size)
          have hw4 : w.heap.size ≤ w4.heap.size := hB4.size
          clear hΦ hfp hdis
          have hB5 : Below w.heap.size w (w4.alloc (.cells #[.int .i64 T.lim, .slice co T.names.length ccap, .slice eo T.als.length ecap, .map (some m2)] 58)) := by (repeat (first | with_reducible assumption | with_reducible exact Below.refl _ _ | ((with_reducible refine Below.setCell ?_ ?_ _); rotate_left; (· first | omega | (simp only [World.size_alloc, World.size_drew, World.size_setCell]; omega) | (dsimp only; omega))) | ((with_reducible refine Below.alloc ?_ ?_ _); rotate_left; (· first | omega | (simp only [World.size_alloc, World.size_drew, World.size_setCell]; omega))) | ((with_reducible refine Below.drewN' ?_ _)) | ((with_reducible refine Below.drew ?_))))
          have hT5 := H.out.low hB5
          obtain ⟨w6, hr6, hI6, hb6, hs6⟩ := run_range_map (P := Try.prog) (w4.alloc (.cells #[.int .i64 T.lim, .slice co T.names.length ccap, .slice eo T.als.length ecap, .map (some m2)] 58)) und_map hT5.map
          simp only [World.size_alloc] at hr6 hI6 hs6
          have hC6 : Blk w6 w4.heap.size 58 #[.int .i64 T.lim, .slice co T.names.length ccap, .slice eo T.als.length ecap, .map (some m2)] := (Blk.fresh _ _ _).low hb6
          have hx6 : Below w4.heap.size w4 w6 := (show Below w4.heap.size w4 _ from by (repeat (first | with_reducible assumption | with_reducible exact Below.refl _ _ | ((with_reducible refine Below.setCell ?_ ?_ _); rotate_left; (· first | omega | (simp only [World.size_alloc, World.size_drew, World.size_setCell]; omega) | (dsimp only; omega))) | ((with_reducible refine Below.alloc ?_ ?_ _); rotate_left; (· first | omega | (simp only [World.size_alloc, World.size_drew, World.size_setCell]; omega))) | ((with_reducible refine Below.drewN' ?_ _)) | ((with_reducible refine Below.drew ?_))))).trans (hb6.mono (by simp))
          have hR6 := hR4.low hx6
          have hA6 := hA4.low hx6
          have hM6 := hM4.low hx6
          have hB6 := hB5.trans (hb6.mono hB5.size)
          clear hR4 hA4 hM4 hb6 hx6
          have hlt := h.lt
          have hm_lt : m < w.heap.size := hlt m (by simp)
          have hws := hxw.size
          obtain ⟨c0, c1, c2, c3⟩ := hT5.cells
          refine hK _ _ ?_
          clear hK
          go_wp2_with (first | ((with_reducible refine wpTxt_q ?_ ?_ ?_); rfl; rfl; intro _ _) | ((with_reducible refine wpTxt_w0 ?_ ?_ ?_); rfl; rfl; intro _ _) | ((with_reducible refine wpTxt_s ?_ ?_); rfl; intro _ _; go_simp) | ((with_reducible refine wpTxt_sw ?_ ?_); rfl; intro _ _; go_simp) | (with_reducible refine wpTxt_nil ?_) | ((with_reducible refine wp_region_t mixed ?_ ?_); decide +kernel; intro _ _))
          clear c0 c1 c2 c3 hr6
          go_loopw [4] (fun _ wr => ∃ left done, Hid ((left ++ done).Perm ml) ∧ MIter wr (w4.heap.size + 1) m left ∧ StrMap wr m2 done ∧ Only [w4.heap.size + 1, m2] w6 wr) (fun _ wr => remains wr (w4.heap.size + 1))
          case atStart => exact ⟨ml, [], by rw [List.append_nil]; exact List.Perm.refl _, hI6, hM6, Only.refl _ _⟩
          case round =>
            obtain ⟨left, done, hP, hI, hM, hO⟩ := hrel
            have hCr : Blk wr w4.heap.size 58 _ := hC6.of (hO.block _ (by omega) (by simp; omega))
            have d3 := hCr.cell 3
            by_cases hne : left = []
            · subst hne
              have hn := fun ty => run_next_end (P := Try.prog) wr ty hI
              go_wp2_with (first | ((with_reducible refine wpTxt_q ?_ ?_ ?_); rfl; rfl; intro _ _) | ((with_reducible refine wpTxt_w0 ?_ ?_ ?_); rfl; rfl; intro _ _) | ((with_reducible refine wpTxt_s ?_ ?_); rfl; intro _ _; go_simp) | ((with_reducible refine wpTxt_sw ?_ ?_); rfl; intro _ _; go_simp) | (with_reducible refine wpTxt_nil ?_) | ((with_reducible refine wp_region_t mixed ?_ ?_); decide +kernel; intro _ _))
              go_ret
              rw [List.nil_append] at hP
              have hk : (done.map (·.1)).Nodup := (hP.out.map _).nodup_iff.2 h.keys
              refine ⟨_, _, rfl, ⟨m2, _, _, done, rfl, ⟨hCr, hR6.only hO ?_, hA6.only hO ?_, hM, hk, fun k => ?_, ?_, h.ok⟩⟩, hB6.trans (hO.below ?_ hB6.size), ?_⟩
              · intro x hx hm
                have := oR x hx
                rcases List.mem_cons.1 hm with rfl | hm
                · omega
                · simp at hm; subst hm; exact dRM hx
              · intro x hx hm
                have := oA x hx
                rcases List.mem_cons.1 hm with rfl | hm
                · omega
                · simp at hm; subst hm; exact dAM hx
              · rw [mget_perm hP.out h.keys]; exact h.get k
              · refine List.nodup_cons.2 ⟨?_, List.nodup_cons.2 ⟨?_, List.nodup_append.2 ⟨ownB_one _, ownB_one _, fun a ha c hc e => dRA a ha (e ▸ hc)⟩⟩⟩
                · simp only [List.mem_cons, List.mem_append, not_or]
                  exact ⟨by omega, fun hx => by have := oR _ hx; omega, fun hx => by have := oA _ hx; omega⟩
                · simp only [List.mem_append, not_or]
                  exact ⟨dRM, dAM⟩
              · intro x hx
                simp at hx
                omega
              · intro x hx
                simp only [List.mem_cons, List.mem_append] at hx
                rcases hx with rfl | rfl | hx | hx
                · exact hw4
                · omega
                · have := oR x hx; omega
                · have := oA x hx; omega
            · obtain ⟨i, hi, w7, hn, hAt, ht⟩ := run_next_some (P := Try.prog) wr hI hne
              have he := run_entry (P := Try.prog) w7 hAt
              have d7 := (hCr.of (ht.block _ (by omega))).cell 3
              have hM7 : StrMap w7 m2 done := hM.of (ht.block _ (by omega))
              obtain ⟨w8, hu, hM8, ht8⟩ := run_update_str (P := Try.prog) w7 und_map und_str hM7 left[i].1 left[i].2
              go_wp2_with (first | ((with_reducible refine wpTxt_q ?_ ?_ ?_); rfl; rfl; intro _ _) | ((with_reducible refine wpTxt_w0 ?_ ?_ ?_); rfl; rfl; intro _ _) | ((with_reducible refine wpTxt_s ?_ ?_); rfl; intro _ _; go_simp) | ((with_reducible refine wpTxt_sw ?_ ?_); rfl; intro _ _; go_simp) | (with_reducible refine wpTxt_nil ?_) | ((with_reducible refine wp_region_t mixed ?_ ?_); decide +kernel; intro _ _))
              have hnew : left[i].1 ∉ done.map (·.1) := by
                have hk : ((left ++ done).map (·.1)).Nodup := (hP.out.map _).nodup_iff.2 h.keys
                rw [List.map_append, List.nodup_append] at hk
                exact fun hm => hk.2.2 left[i].1 (List.mem_map.2 ⟨_, List.getElem_mem hi, rfl⟩) left[i].1 hm rfl
              rw [mput_new hnew] at hM8
              have hI8 : MIter w8 (w4.heap.size + 1) m (left.eraseIdx i) := hAt.iter.of (ht8.block _ (by omega)) (ht8.block _ (by omega))
              have hP8 : (left.eraseIdx i ++ (done ++ [(left[i].1, left[i].2)])).Perm ml := by
                refine List.Perm.trans ?_ hP.out
                have h1 : (left[i] :: left.eraseIdx i).Perm left := erase_perm left i hi
                refine List.Perm.trans ?_ (h1.append_right done)
                refine List.Perm.trans (List.Perm.append_left _ (List.perm_append_singleton _ _)) ?_
                exact List.perm_middle
              go_roundw
              case rel => exact ⟨_, _, hP8, hI8, hM8, (hO.turned ht (by simp)).turned ht8 (by simp)⟩
              case measure => rw [hI8.remains, hI.remains, List.length_eraseIdx_of_lt hi]; have : 0 < left.length := List.length_pos_iff.2 hne; omega
end Go.Proofs.Ytjpgnadfbejihaa
