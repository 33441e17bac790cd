/- The walks of Add and Alias. -/
import Derived.Test.YtjpgnadfbejihaaSw
set_option linter.unusedSimpArgs false
set_option linter.unusedVariables false
namespace Go.Proofs.Ytjpgnadfbejihaa
open Go.RowKit Tk
theorem fresh_str (w : World) (s : ByteArray) (j : Nat) (u : Value) (h : [Value.string s][j]? = some u) : (w.alloc (.cells #[.string s] 9)).cell? ((⟨w.heap.size, 0, none⟩ : Addr).add j) = some u := by
  cases j with
  | zero => simp at h; subst h; simp [Addr.add]
  | succ j => simp at h
theorem put_keys {s : ByteArray} {v : Value} {ml : List (ByteArray × Value)} (hk : (ml.map (·.1)).Nodup) (hg : mget s ml = none) : ((mput s v ml).map (·.1)).Nodup := by
  have hf : mfind s ml 0 = none := by
    have := mfind_get s ml 0
    rw [hg] at this
    cases h : mfind s ml 0 with
    | none => rfl
    | some x => rw [h] at this; cases this
  rw [mfind_none s v ml 0 hf]
  rw [List.map_append, List.nodup_append]
  refine ⟨hk, by simp, ?_⟩
  intro a ha b hb
  obtain ⟨p, hp, rfl⟩ := List.mem_map.1 ha
  have hb' : b = s := by simpa using hb
  subst hb'
  exact fun e => mfind_not _ _ _ hf p hp e.symm
theorem ownB_one (v : Value) : (ownB v).Nodup := by
  unfold ownB; cases v.ownBlock <;> simp
theorem nd_grown {b m N : Nat} {R R' O : List Nat} (hnd : (b :: m :: (R ++ O)).Nodup) (hlt : ∀ x ∈ b :: m :: (R ++ O), x < N) (hR : R'.Nodup) (hs : ∀ x ∈ R', x ∈ R ∨ N ≤ x) :
    (b :: m :: (R' ++ O)).Nodup ∧ (∀ x ∈ b :: m :: (R' ++ O), x ∈ b :: m :: (R ++ O) ∨ N ≤ x) ∧ b ∉ R ∧ m ∉ R ∧ (∀ x ∈ O, x ≠ b ∧ x ≠ m ∧ x ∉ R) ∧ (∀ x ∈ R', x ≠ b ∧ x ≠ m) := by
  simp only [List.nodup_cons, List.mem_cons, List.mem_append, List.nodup_append, not_or] at hnd hlt ⊢
  obtain ⟨⟨h1, h2, h3⟩, ⟨h4, h5⟩, h6, h7, h8⟩ := hnd
  have lb := hlt b (.inl rfl)
  have lm := hlt m (.inr (.inl rfl))
  have k1 : ∀ x ∈ R', x ≠ b ∧ x ≠ m := fun x hx => by
    rcases hs x hx with h | h
    · exact ⟨fun e => h2 (e ▸ h), fun e => h4 (e ▸ h)⟩
    · exact ⟨by omega, by omega⟩
  have k2 : ∀ x ∈ O, x ≠ b ∧ x ≠ m ∧ x ∉ R := fun x hx => ⟨fun e => h3 (e ▸ hx), fun e => h5 (e ▸ hx), fun hr => h8 x hr x hx rfl⟩
  refine ⟨⟨⟨h1, fun hb => (k1 b hb).1 rfl, h3⟩, ⟨fun hm => (k1 m hm).2 rfl, h5⟩, hR, h7, ?_⟩, ?_, h2, h4, k2, k1⟩
  · intro x hx y hy e
    subst e
    rcases hs x hx with h | h
    · exact (k2 x hy).2.2 h
    · have := hlt x (.inr (.inr (.inr hy))); omega
  · rintro x (rfl | rfl | hx | hx)
    · exact .inl (.inl rfl)
    · exact .inl (.inr (.inl rfl))
    · exact (hs x hx).imp (fun h => .inr (.inr (.inl h))) id
    · exact .inl (.inr (.inr (.inr hx)))
/-- a name more, a row grown -/
theorem put_tab {w w4 : World} {b m : Nat} {nv av nv' av' : Value} {ml : List (ByteArray × Value)} {T T' : TS} {s : ByteArray} {n : Int} (h : TabAt w b m nv av ml T)
    (hB : Blk w4 b 58 #[.int .i64 T'.lim, nv', av', .map (some m)]) (hn : Row w4 nv' T'.names) (ha : Row w4 av' (T'.als.map (·.1))) (hM : StrMap w4 m (mput s (.int .i64 n) ml))
    (hs : T.find s = none) (hf : ∀ k, T'.find k = if k = s then some n else T.find k) (hnd : (b :: m :: (ownB nv' ++ ownB av')).Nodup) (hok : T'.ok) : TabAt w4 b m nv' av' (mput s (.int .i64 n) ml) T' :=
  ⟨hB, hn, ha, hM, put_keys h.keys (by rw [h.get, hs]; rfl), fun k => by
    rw [mget_put, hf]
    by_cases hk : k = s
    · rw [if_pos hk, if_pos hk]; rfl
    · rw [if_neg hk, if_neg hk, h.get], hnd, hok⟩
theorem add_10 {T : TS} {s : ByteArray} (h : (!nameB s.data.toList) = true ∨ kwB s.data.toList = true) : T.add s = (T, 0, 10) := by
  unfold TS.add; rw [if_pos]; unfold idB; rcases h with h | h <;> simp_all
theorem id_yes {s : ByteArray} (h : (!nameB s.data.toList) = false ∧ kwB s.data.toList = false) : idB s = true := by unfold idB; simp_all
theorem add_12 {T : TS} {s : ByteArray} (h : (!nameB s.data.toList) = false ∧ kwB s.data.toList = false) (h2 : (T.find s).isSome = true) : T.add s = (T, 0, 12) := by
  unfold TS.add; rw [if_neg (by simp [id_yes h]), if_pos h2]
theorem add_25 {T : TS} {s : ByteArray} (h : (!nameB s.data.toList) = false ∧ kwB s.data.toList = false) (h2 : (T.find s).isSome = false) (h3 : T.lim ≤ T.names.length) : T.add s = (T, 0, 25) := by
  unfold TS.add; rw [if_neg (by simp [id_yes h]), if_neg (by simp [h2]), if_pos h3]
theorem add_0 {T : TS} {s : ByteArray} (h : (!nameB s.data.toList) = false ∧ kwB s.data.toList = false) (h2 : (T.find s).isSome = false) (h3 : T.names.length < T.lim) : T.add s = ({ T with names := T.names ++ [s] }, (T.names.length : Int), 0) := by
  unfold TS.add; rw [if_neg (by simp [id_yes h]), if_neg (by simp [h2]), if_neg (by omega)]
theorem nd_grown2 {b m N : Nat} {R O O' : List Nat} (hnd : (b :: m :: (R ++ O)).Nodup) (hlt : ∀ x ∈ b :: m :: (R ++ O), x < N) (hR : O'.Nodup) (hs : ∀ x ∈ O', x ∈ O ∨ N ≤ x) :
    (b :: m :: (R ++ O')).Nodup ∧ (∀ x ∈ b :: m :: (R ++ O'), x ∈ b :: m :: (R ++ O) ∨ N ≤ x) ∧ b ∉ O ∧ m ∉ O ∧ (∀ x ∈ R, x ≠ b ∧ x ≠ m ∧ x ∉ O) ∧ (∀ x ∈ O', x ≠ b ∧ x ≠ m) := by
  have p : ∀ A B : List Nat, (b :: m :: (A ++ B)).Perm (b :: m :: (B ++ A)) := fun A B => (List.perm_append_comm.cons m).cons b
  obtain ⟨h1, h2, h3, h4, h5, h6⟩ := nd_grown (R := O) (R' := O') (O := R) ((p _ _).nodup hnd) (fun x hx => hlt x ((p _ _).mem_iff.1 hx)) hR hs
  exact ⟨(p _ _).nodup h1, fun x hx => (h2 x ((p _ _).mem_iff.1 hx)).imp (fun h => (p _ _).mem_iff.1 h) id, h3, h4, h5, h6⟩
theorem also_10 {T : TS} {s : ByteArray} {n : Int} (h : (!nameB s.data.toList) = true ∨ kwB s.data.toList = true) : T.also s n = (T, 10) := by
  unfold TS.also; rw [if_pos]; unfold idB; rcases h with h | h <;> simp_all
theorem also_3 {T : TS} {s : ByteArray} {n : Int} (h : (!nameB s.data.toList) = false ∧ kwB s.data.toList = false) (h1 : n < 0 ∨ (T.names.length : Int) ≤ n) : T.also s n = (T, 3) := by
  unfold TS.also; rw [if_neg (by simp [id_yes h]), if_pos h1]
theorem also_12 {T : TS} {s : ByteArray} {n : Int} (h : (!nameB s.data.toList) = false ∧ kwB s.data.toList = false) (h0 : 0 ≤ n) (h1 : n < T.names.length) (h2 : (T.find s).isSome = true) : T.also s n = (T, 12) := by
  unfold TS.also; rw [if_neg (by simp [id_yes h]), if_neg (by omega), if_pos h2]
theorem also_25 {T : TS} {s : ByteArray} {n : Int} (h : (!nameB s.data.toList) = false ∧ kwB s.data.toList = false) (h0 : 0 ≤ n) (h1 : n < T.names.length) (h2 : (T.find s).isSome = false) (h3 : (4096 : Int) ≤ T.als.length) : T.also s n = (T, 25) := by
  unfold TS.also; rw [if_neg (by simp [id_yes h]), if_neg (by omega), if_neg (by simp [h2]), if_pos (by omega)]
theorem also_0 {T : TS} {s : ByteArray} {n : Int} (h : (!nameB s.data.toList) = false ∧ kwB s.data.toList = false) (h0 : 0 ≤ n) (h1 : n < T.names.length) (h2 : (T.find s).isSome = false) (h3 : (T.als.length : Int) < 4096) : T.also s n = ({ T with als := T.als ++ [(s, n)] }, 0) := by
  unfold TS.also; rw [if_neg (by simp [id_yes h]), if_neg (by omega), if_neg (by simp [h2]), if_neg (by omega)]
set_option maxHeartbeats 1000000 in
set_option maxRecDepth 100000 in
theorem add_tab {w : World} {b : Nat} {F : List Nat} {T : TS} (h : Tab w b F T) (s : ByteArray) (hs : s.size ≤ maxLen) :
    Calls Try.prog 17 #[.pointer (some ⟨b, 0, none⟩), .string s] w fun e w' => ∃ F', e = .returned (.tuple #[.int .i64 (T.add s).2.1, .int .i64 (T.add s).2.2]) ∧ Tab w' b F' (T.add s).1 ∧ Only F w w' ∧ ∀ x ∈ F', x ∈ F ∨ w.heap.size ≤ x := by
  obtain ⟨m, nv, av, ml, rfl, h⟩ := h
  obtain ⟨c0, c1, c2, c3⟩ := h.cells
  have hr := h.names
  have hok1 := h.ok.len
  have hok2 := h.ok.hi
  obtain ⟨i0, hi, iz0, iz1, iz2⟩ := info_parts info_str
  obtain ⟨ao, cap, rfl, hn1, hn2⟩ := hr.len
  go_enter Try.func17, Try.ntmps17
  go_wp2_with (first | (at_builtin; refine wpList_append_own_at _ rfl _ _ 25 rfl 0 9 i0 _ 1 16 und_strs hi iz0 iz1 iz2 rfl (by decide) _ T.names.length (T.names.map Value.string) rfl ?c0 _ 1 1 [.string s] rfl rfl ?c1 ?c2 ?c3 ?c4 ?c5 ?_) | ((with_reducible refine wpTxt_q ?_ ?_ ?_); rfl; rfl; intro _ _) | ((with_reducible refine wpTxt_w0 ?_ ?_ ?_); rfl; rfl; intro _ _) | ((with_reducible refine wpTxt_s ?_ ?_); rfl; intro _ _; go_simp) | ((with_reducible refine wpTxt_sw ?_ ?_); rfl; intro _ _; go_simp) | (with_reducible refine wpTxt_nil ?_) | ((with_reducible refine wp_region_t mixed ?_ ?_); decide +kernel; intro _ _) | (go_at_call 28; ((with_reducible refine (made_tab (by assumption)).mono ?_); rintro e w' ⟨rfl, rfl⟩)) | (go_at_call 29; ((with_reducible refine (tIdentifier_any _ (by assumption) _).mono ?_); rintro e w' ⟨rfl, rfl⟩)) | (go_at_call 30; ((with_reducible refine (known_tab (by assumption) _).mono ?_); rintro e w' ⟨rfl, rfl⟩)))
  case c0 => exact hr.alloc _
  case c1 => exact fun j u hj => fresh_str w s j u hj
  case c2 => intro u hu; simp at hu; subst hu; rfl
  case c3 => have : (8192 : Nat) ≤ maxLen := by decide
             omega
  case c4 => omega
  case c5 => exact Nat.zero_le _
  all_goals try (first
    | (have e := add_10 (T := T) (by assumption); rw [e]; exact bodyPost_ret (v := .tuple #[.int .i64 0, .int .i64 10]) (by simp [results, Try.f17, go_sem]) rfl ⟨_, rfl, ⟨_, _, _, _, rfl, h⟩, Only.refl _ _, fun x hx => .inl hx⟩)
    | (have e := add_12 (T := T) (by assumption) (by assumption); rw [e]; exact bodyPost_ret (v := .tuple #[.int .i64 0, .int .i64 12]) (by simp [results, Try.f17, go_sem]) rfl ⟨_, rfl, ⟨_, _, _, _, rfl, h⟩, Only.refl _ _, fun x hx => .inl hx⟩)
    | (have e := add_25 (T := T) (by assumption) (by assumption) (by assumption); rw [e]; exact bodyPost_ret (v := .tuple #[.int .i64 0, .int .i64 25]) (by simp [results, Try.f17, go_sem]) rfl ⟨_, rfl, ⟨_, _, _, _, rfl, h.kept fun _ _ => rfl⟩, Only.of_below (by (repeat (first | with_reducible assumption | with_reducible exact Below.refl _ _ | ((with_reducible refine Below.setCell ?_ ?_ _); rotate_left; (· first | omega | (simp only [World.size_alloc, World.size_drew, World.size_setCell]; omega) | (dsimp only; omega))) | ((with_reducible refine Below.alloc ?_ ?_ _); rotate_left; (· first | omega | (simp only [World.size_alloc, World.size_drew, World.size_setCell]; omega))) | ((with_reducible refine Below.drewN' ?_ _)) | ((with_reducible refine Below.drew ?_))))), fun x hx => .inl hx⟩))
  intro v' w1 ho hg hne hvb
  have hR1 : Row w1 v' (T.names ++ [s]) := by unfold Row; simpa using ho
  obtain ⟨ao', cap', hv', hn1', hn2'⟩ := hR1.len
  rw [List.length_append, List.length_singleton] at hv'
  subst hv'
  have hnd := h.nodup
  have hlt := h.lt
  have hbn : ∀ x, x < w.heap.size → x ∉ ownB (Value.slice ao T.names.length cap) → w1.heap[x]? = w.heap[x]? := fun x hx hn => by
    have h1 := hg.block x (by simp; omega) (fun e => hn (by simp [ownB, ← e]))
    exact h1.trans (Below.heap_alloc w _ x hx)
  have hb1 : w1.heap[b]? = w.heap[b]? := hbn b (hlt b (by simp)) fun hm => by simp [hm] at hnd
  have hm1 : w1.heap[m]? = w.heap[m]? := hbn m (hlt m (by simp)) fun hm => by simp [hm] at hnd
  have hB1 := h.blk.of hb1
  have hM1 := h.map.of hm1
  have d0 := hB1.cell 0
  have d1 := hB1.cell 1
  have d2 := hB1.cell 2
  have d3 := hB1.cell 3
  have f1 := hB1.free 1
  have hmb : m ≠ b := fun e => by simp [e] at hnd
  have hM2 : StrMap (w1.setCell ⟨b, 1, none⟩ (.slice ao' (T.names.length + 1) cap')) m ml := hM1.of (Below.heap_setCell w1 ⟨b, 1, none⟩ _ m hmb)
  obtain ⟨w4, hu, hM4, ht⟩ := run_update_str (P := Try.prog) (w1.setCell ⟨b, 1, none⟩ (.slice ao' (T.names.length + 1) cap')) und_map und_str hM2 s (.int .i64 T.names.length)
  go_wp2_with (first | ((with_reducible refine wpTxt_q ?_ ?_ ?_); rfl; rfl; intro _ _) | ((with_reducible refine wpTxt_w0 ?_ ?_ ?_); rfl; rfl; intro _ _) | ((with_reducible refine wpTxt_s ?_ ?_); rfl; intro _ _; go_simp) | ((with_reducible refine wpTxt_sw ?_ ?_); rfl; intro _ _; go_simp) | (with_reducible refine wpTxt_nil ?_) | ((with_reducible refine wp_region_t mixed ?_ ?_); decide +kernel; intro _ _))
  have hfs : T.find s = none := by
    cases hq : T.find s with
    | none => rfl
    | some x => simp_all
  have e := add_0 (T := T) (by assumption) (by assumption) (by assumption)
  rw [e]
  have hsz1 : w.heap.size ≤ w1.heap.size := Nat.le_trans (by simp) hg.size
  have hbm : ∀ x, x ≠ b → x ≠ m → w4.heap[x]? = w1.heap[x]? := fun x hx hx' => (ht.block x hx').trans (Below.heap_setCell w1 ⟨b, 1, none⟩ _ x hx)
  have hown : ∀ x ∈ ownB (Value.slice ao' (T.names.length + 1) cap'), x ∈ ownB (Value.slice ao T.names.length cap) ∨ x = w.heap.size + 1 := fun x hx => by
    have hx' : (Value.slice ao' (T.names.length + 1) cap').ownBlock = some x := by simpa [ownB] using hx
    rcases hvb with h1 | h1
    · left; rw [hx'] at h1; simp [ownB, ← h1]
    · right; rw [hx'] at h1; simpa using h1
  obtain ⟨n1, n2, n3, n4, n5, n6⟩ := nd_grown (R' := ownB (Value.slice ao' (T.names.length + 1) cap')) hnd hlt (ownB_one _) (fun x hx => (hown x hx).imp id (fun e => by omega))
  have hB4 : Blk w4 b 58 #[.int .i64 T.lim, .slice ao' (T.names.length + 1) cap', av, .map (some m)] := (hB1.set 1 _).of (ht.block b (Ne.symm hmb))
  refine bodyPost_ret (v := .tuple #[.int .i64 T.names.length, .int .i64 0]) (by simp [results, Try.f17, go_sem]) rfl ⟨_, rfl, ⟨m, .slice ao' (T.names.length + 1) cap', av, _, rfl, put_tab h hB4 ?_ ?_ hM4 hfs (fun k => find_added T s k hfs) n1 ?_⟩, ?_, n2⟩
  · exact hR1.kept fun x hx => hbm x (n6 x hx).1 (n6 x hx).2
  · exact h.als.kept fun x hx => (hbm x (n5 x hx).1 (n5 x hx).2.1).trans (hbn x (hlt x (by simp [hx])) (n5 x hx).2.2)
  · have := h.ok.add s; rw [e] at this; exact this
  · refine ⟨?_, ?_, ?_, ?_, fun x hx hn => ?_⟩
    · exact ht.os.trans hg.os
    · exact ht.tape.trans hg.tape
    · exact ht.output.trans hg.output
    · have h9 := ht.size; rw [World.size_setCell] at h9; omega
    · simp only [List.mem_cons, List.mem_append, not_or] at hn
      exact (hbm x hn.1 hn.2.1).trans (hbn x hx hn.2.2.1)
set_option maxHeartbeats 1000000 in
set_option maxRecDepth 100000 in
theorem also_tab {w : World} {b : Nat} {F : List Nat} {T : TS} (h : Tab w b F T) (s : ByteArray) (n : Int) (hs : s.size ≤ maxLen) :
    Calls Try.prog 19 #[.pointer (some ⟨b, 0, none⟩), .string s, .int .i64 n] w fun e w' => ∃ F', e = .returned (.int .i64 (T.also s n).2) ∧ Tab w' b F' (T.also s n).1 ∧ Only F w w' ∧ ∀ x ∈ F', x ∈ F ∨ w.heap.size ≤ x := by
  obtain ⟨m, nv, av, ml, rfl, h⟩ := h
  obtain ⟨c0, c1, c2, c3⟩ := h.cells
  have hr := h.als
  obtain ⟨no, ncap, rfl, hm1, hm2⟩ := h.names.len
  have hal : (T.als.map (·.1)).length = T.als.length := List.length_map _
  have hok3 := h.ok.als
  have hok1 := h.ok.len
  have hok2 := h.ok.hi
  obtain ⟨i0, hi, iz0, iz1, iz2⟩ := info_parts info_str
  obtain ⟨ao, cap, hav, hn1, hn2⟩ := hr.len
  rw [hal] at hav hn1
  subst hav
  replace hal := Lib.hid hal
  by_cases hin : 0 ≤ n ∧ n < T.names.length
  case neg =>
    have hout : n < 0 ∨ (T.names.length : Int) ≤ n := by omega
    have H3 := Lib.hid hout
    rcases hout with hout | hout
    all_goals
      go_enter Try.func19, Try.ntmps19
      go_wp2_with (first | ((with_reducible refine wpTxt_q ?_ ?_ ?_); rfl; rfl; intro _ _) | ((with_reducible refine wpTxt_w0 ?_ ?_ ?_); rfl; rfl; intro _ _) | ((with_reducible refine wpTxt_s ?_ ?_); rfl; intro _ _; go_simp) | ((with_reducible refine wpTxt_sw ?_ ?_); rfl; intro _ _; go_simp) | (with_reducible refine wpTxt_nil ?_) | ((with_reducible refine wp_region_t mixed ?_ ?_); decide +kernel; intro _ _) | (go_at_call 28; ((with_reducible refine (made_tab (by assumption)).mono ?_); rintro e w' ⟨rfl, rfl⟩)) | (go_at_call 29; ((with_reducible refine (tIdentifier_any _ (by assumption) _).mono ?_); rintro e w' ⟨rfl, rfl⟩)) | (go_at_call 30; ((with_reducible refine (known_tab (by assumption) _).mono ?_); rintro e w' ⟨rfl, rfl⟩)))
      all_goals first
        | (have e := also_10 (T := T) (n := n) (by assumption); rw [e]; go_ret; exact ⟨_, rfl, ⟨_, _, _, _, rfl, h⟩, Only.refl _ _, fun x hx => .inl hx⟩)
        | (have e := also_3 (T := T) (n := n) (by assumption) H3.out; rw [e]; go_ret; exact ⟨_, rfl, ⟨_, _, _, _, rfl, h⟩, Only.refl _ _, fun x hx => .inl hx⟩)
        | (exfalso; omega)
  obtain ⟨i1, i2⟩ := hin
  go_enter Try.func19, Try.ntmps19
  go_wp2_with (first | (at_builtin; refine wpList_append_own_at _ rfl _ _ 25 rfl 0 9 i0 _ 1 16 und_strs hi iz0 iz1 iz2 rfl (by decide) _ T.als.length ((T.als.map (·.1)).map Value.string) rfl ?c0 _ 1 1 [.string s] rfl rfl ?c1 ?c2 ?c3 ?c4 ?c5 ?_) | ((with_reducible refine wpTxt_q ?_ ?_ ?_); rfl; rfl; intro _ _) | ((with_reducible refine wpTxt_w0 ?_ ?_ ?_); rfl; rfl; intro _ _) | ((with_reducible refine wpTxt_s ?_ ?_); rfl; intro _ _; go_simp) | ((with_reducible refine wpTxt_sw ?_ ?_); rfl; intro _ _; go_simp) | (with_reducible refine wpTxt_nil ?_) | ((with_reducible refine wp_region_t mixed ?_ ?_); decide +kernel; intro _ _) | (go_at_call 28; ((with_reducible refine (made_tab (by assumption)).mono ?_); rintro e w' ⟨rfl, rfl⟩)) | (go_at_call 29; ((with_reducible refine (tIdentifier_any _ (by assumption) _).mono ?_); rintro e w' ⟨rfl, rfl⟩)) | (go_at_call 30; ((with_reducible refine (known_tab (by assumption) _).mono ?_); rintro e w' ⟨rfl, rfl⟩)))
  case c0 => exact (show w.ownsRow 0 9 1 _ T.als.length _ from hal.out ▸ hr).alloc _
  case c1 => exact fun j u hj => fresh_str w s j u hj
  case c2 => intro u hu; simp at hu; subst hu; rfl
  case c3 => have : (8192 : Nat) ≤ maxLen := by decide
             omega
  case c4 => omega
  case c5 => exact Nat.zero_le _
  all_goals try (first
    | (have e := also_10 (T := T) (n := n) (by assumption); rw [e]; go_ret; exact ⟨_, rfl, ⟨_, _, _, _, rfl, h⟩, Only.refl _ _, fun x hx => .inl hx⟩)
    | (have e := also_12 (T := T) (n := n) (by assumption) i1 i2 (by assumption); rw [e]; go_ret; exact ⟨_, rfl, ⟨_, _, _, _, rfl, h⟩, Only.refl _ _, fun x hx => .inl hx⟩)
    | (have e := also_25 (T := T) (n := n) (by assumption) i1 i2 (by assumption) (by assumption); rw [e]; go_ret; exact ⟨_, rfl, ⟨_, _, _, _, rfl, h⟩, Only.refl _ _, fun x hx => .inl hx⟩)
    | (exfalso; omega))
  intro v' w1 ho hg hne hvb
  have hR1 : Row w1 v' (T.als.map (·.1) ++ [s]) := by unfold Row; simpa using ho
  obtain ⟨ao', cap', hv', hn1', hn2'⟩ := hR1.len
  rw [List.length_append, List.length_singleton, hal.out] at hv'
  subst hv'
  have hnd := h.nodup
  have hlt := h.lt
  have hbn : ∀ x, x < w.heap.size → x ∉ ownB (Value.slice ao T.als.length cap) → w1.heap[x]? = w.heap[x]? := fun x hx hn => by
    have h1 := hg.block x (by simp; omega) (fun e => hn (by simp [ownB, ← e]))
    exact h1.trans (Below.heap_alloc w _ x hx)
  have hb1 : w1.heap[b]? = w.heap[b]? := hbn b (hlt b (by simp)) fun hm => by simp [hm] at hnd
  have hm1 : w1.heap[m]? = w.heap[m]? := hbn m (hlt m (by simp)) fun hm => by simp [hm] at hnd
  have hB1 := h.blk.of hb1
  have hM1 := h.map.of hm1
  have d0 := hB1.cell 0
  have d1 := hB1.cell 1
  have d2 := hB1.cell 2
  have d3 := hB1.cell 3
  have f1 := hB1.free 2
  have hmb : m ≠ b := fun e => by simp [e] at hnd
  have hM2 : StrMap (w1.setCell ⟨b, 2, none⟩ (.slice ao' (T.als.length + 1) cap')) m ml := hM1.of (Below.heap_setCell w1 ⟨b, 2, none⟩ _ m hmb)
  obtain ⟨w4, hu, hM4, ht⟩ := run_update_str (P := Try.prog) (w1.setCell ⟨b, 2, none⟩ (.slice ao' (T.als.length + 1) cap')) und_map und_str hM2 s (.int .i64 n)
  go_wp2_with (first | ((with_reducible refine wpTxt_q ?_ ?_ ?_); rfl; rfl; intro _ _) | ((with_reducible refine wpTxt_w0 ?_ ?_ ?_); rfl; rfl; intro _ _) | ((with_reducible refine wpTxt_s ?_ ?_); rfl; intro _ _; go_simp) | ((with_reducible refine wpTxt_sw ?_ ?_); rfl; intro _ _; go_simp) | (with_reducible refine wpTxt_nil ?_) | ((with_reducible refine wp_region_t mixed ?_ ?_); decide +kernel; intro _ _))
  have hfs : T.find s = none := by
    cases hq : T.find s with
    | none => rfl
    | some x => simp_all
  have e := also_0 (T := T) (n := n) (by assumption) i1 i2 (by assumption) (by assumption)
  rw [e]
  have hsz1 : w.heap.size ≤ w1.heap.size := Nat.le_trans (by simp) hg.size
  have hbm : ∀ x, x ≠ b → x ≠ m → w4.heap[x]? = w1.heap[x]? := fun x hx hx' => (ht.block x hx').trans (Below.heap_setCell w1 ⟨b, 2, none⟩ _ x hx)
  have hown : ∀ x ∈ ownB (Value.slice ao' (T.als.length + 1) cap'), x ∈ ownB (Value.slice ao T.als.length cap) ∨ x = w.heap.size + 1 := fun x hx => by
    have hx' : (Value.slice ao' (T.als.length + 1) cap').ownBlock = some x := by simpa [ownB] using hx
    rcases hvb with h1 | h1
    · left; rw [hx'] at h1; simp [ownB, ← h1]
    · right; rw [hx'] at h1; simpa using h1
  obtain ⟨n1, n2, n3, n4, n5, n6⟩ := nd_grown2 (O' := ownB (Value.slice ao' (T.als.length + 1) cap')) hnd hlt (ownB_one _) (fun x hx => (hown x hx).imp id (fun e => by omega))
  have hB4 : Blk w4 b 58 #[.int .i64 T.lim, .slice no T.names.length ncap, .slice ao' (T.als.length + 1) cap', .map (some m)] := (hB1.set 2 _).of (ht.block b (Ne.symm hmb))
  go_ret
  refine ⟨_, rfl, ⟨m, .slice no T.names.length ncap, .slice ao' (T.als.length + 1) cap', _, rfl, put_tab h hB4 ?_ ?_ hM4 hfs (fun k => find_also T s k n hfs) n1 ?_⟩, ?_, n2⟩
  · exact h.names.kept fun x hx => (hbm x (n5 x hx).1 (n5 x hx).2.1).trans (hbn x (hlt x (by simp [hx])) (n5 x hx).2.2)
  · exact (show Row w1 _ ((T.als ++ [(s, n)]).map (·.1)) from by rw [List.map_append]; exact hR1).kept fun x hx => hbm x (n6 x hx).1 (n6 x hx).2
  · have := h.ok.also s n; rw [e] at this; exact this
  · refine ⟨?_, ?_, ?_, ?_, fun x hx hn => ?_⟩
    · exact ht.os.trans hg.os
    · exact ht.tape.trans hg.tape
    · exact ht.output.trans hg.output
    · have h9 := ht.size; rw [World.size_setCell] at h9; omega
    · simp only [List.mem_cons, List.mem_append, not_or] at hn
      exact (hbm x hn.1 hn.2.1).trans (hbn x hx hn.2.2.2)
end Go.Proofs.Ytjpgnadfbejihaa
