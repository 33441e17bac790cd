/- The law on blanks and comments between tokens: its walk. -/
import Derived.Test.YtffflmghfcgkfaaJo
set_option linter.unusedSimpArgs false
set_option linter.unusedVariables false
namespace Go.Proofs.Ytffflmghfcgkfaa
open Go.RowKit Tk

/-- a slice of bytes, as numbers below 256 -/
def U8s (w : World) (v : Value) (gs : List Nat) : Prop :=
  ∃ ao cap, v = .slice ao gs.length cap ∧ gs.length ≤ cap ∧ cap ≤ maxLen ∧ (∀ g ∈ gs, g < 256) ∧ (gs.length = 0 ∨ ∃ g o, ao = some ⟨g, o, none⟩ ∧ g < w.heap.size ∧ ∀ i (h : i < gs.length), w.cell? ⟨g, o + i, none⟩ = some (.int .u8 (gs[i] : Nat)))
theorem U8s.below {w w' : World} {v : Value} {gs : List Nat} (h : U8s w v gs) (hb : Below w.heap.size w w') : U8s w' v gs := by
  obtain ⟨ao, cap, h1, h2, h3, h4, h5⟩ := h
  refine ⟨ao, cap, h1, h2, h3, h4, h5.imp id ?_⟩
  rintro ⟨g, o, e, hg, hc⟩
  exact ⟨g, o, e, Nat.lt_of_lt_of_le hg hb.size, fun i hi => by rw [hb.cell (p := ⟨g, o + i, none⟩) hg]; exact hc i hi⟩
/-- the number of the gap ahead of token i -/
def gapN (gs : List Nat) (i : Nat) : Nat := if i < gs.length then gs.getD i 0 else i % 256
def wov (gs : List Nat) : Nat → List Tok → List (List UInt8 × Tok)
  | _, [] => []
  | i, t :: ts => (gapL (gapN gs i), t) :: wov gs (i + 1) ts
theorem wov_snd (gs : List Nat) : ∀ (i : Nat) (ts : List Tok), (wov gs i ts).map (·.2) = ts
  | _, [] => rfl
  | i, t :: ts => by simp [wov, wov_snd gs (i + 1) ts]
theorem wov_snoc (gs : List Nat) : ∀ (i : Nat) (ts : List Tok) (t : Tok), wov gs i (ts ++ [t]) = wov gs i ts ++ [(gapL (gapN gs (i + ts.length)), t)]
  | _, [], _ => rfl
  | i, x :: ts, t => by simp [wov, wov_snoc gs (i + 1) ts t, show i + 1 + ts.length = i + (ts.length + 1) by omega]
theorem weave_app : ∀ (ps qs : List (List UInt8 × Tok)) (z : List UInt8), weave (ps ++ qs) z = weave ps (weave qs z)
  | [], _, _ => rfl
  | (g, t) :: ps, qs, z => by simp [weave, weave_app ps qs z]
theorem weave_nil : ∀ (ps : List (List UInt8 × Tok)) (z : List UInt8), weave ps z = weave ps [] ++ z
  | [], z => rfl
  | (g, t) :: ps, z => by simp only [weave]; rw [weave_nil ps z]; simp
theorem wov_sep (gs : List Nat) (i : Nat) (ts : List Tok) (n : Nat) : Sep (weave (wov gs i ts) (gapL n)) := by
  cases ts with
  | nil => have := gap_sep n []; simpa [wov, weave] using this
  | cons t ts => exact gap_sep _ _
theorem wov_woven (gs : List Nat) : ∀ (i : Nat) (ts : List Tok) (n : Nat), (∀ t ∈ ts, ¬ t.kind = 0 ∧ t.ok = true) → Woven (wov gs i ts) (gapL n)
  | _, [], n, _ => gap_gap n
  | i, t :: ts, n, h => ⟨gap_gap _, (h t (by simp)).1, (h t (by simp)).2, wov_sep gs (i + 1) ts n, wov_woven gs (i + 1) ts n fun x hx => h x (by simp [hx])⟩
/-- what was written with any gaps is scanned -/
theorem blank_scan {gs : List Nat} {ts : List Tok} {n : Nat} {s : ByteArray} (hs : s.data.toList = weave (wov gs 0 ts) [] ++ gapL n) (hz : s.size ≤ 65536) (h : ∀ t ∈ ts, ¬ t.kind = 0 ∧ t.ok = true) :
    ∃ m e, scanS s = .ok (m ++ [⟨0, ⟨#[]⟩, e⟩]) ∧ sameB m ts = true ∧ m.length = ts.length := by
  rw [← weave_nil] at hs
  obtain ⟨us, e, h1, h2⟩ := weave_scan _ _ 0 (wov_woven gs 0 ts n h)
  rw [wov_snd] at h2
  obtain ⟨g1, g2⟩ := likes_at s.data.toList h2
  refine ⟨us.map (LTok.at s.data.toList), loc s.data.toList e, ?_, g1, g2⟩
  rw [scanS_L s hz, hs, h1, toSR, List.map_append, ← hs]
  rfl
theorem gap_len (n : Nat) : (gapL n).length ≤ 15 := by
  unfold gapL
  repeat' split
  all_goals decide
theorem src_len {t : Tok} (h : t.text.size ≤ 300) : t.src.length ≤ 302 := by
  unfold Tok.src
  split
  · simp; omega
  · simp; omega
theorem wov_len (gs : List Nat) : ∀ (i : Nat) (ts : List Tok), (∀ t ∈ ts, t.text.size ≤ 300) → (weave (wov gs i ts) []).length ≤ ts.length * 317
  | _, [], _ => by simp [wov, weave]
  | i, t :: ts, h => by
    have ih := wov_len gs (i + 1) ts fun x hx => h x (by simp [hx])
    have h1 := gap_len (gapN gs i)
    have h2 := src_len (h t (by simp))
    simp only [wov, weave, List.length_append, List.length_cons]
    omega
theorem text_one {t : Tok} (h0 : ¬ t.kind = 0) (hs : t.text.size ≤ 300) : textS [t] = if t.ok = true then (t.src, 0) else ([], 2) := by
  have hb : body [t] = [t] := by simp [body, h0]
  have hl := src_len hs
  unfold textS
  rw [hb]
  cases hok : t.ok
  · simp [hok]
  · have hj : joinF false [t] = t.src := by simp [joinF]
    rw [hj, if_neg (by simp [hok]), if_neg (by omega)]
    rfl
theorem Toks.sub {w : World} {g o n cap : Nat} {ts : List Tok} (h : Toks w (.slice (some ⟨g, o, none⟩) n cap) ts) (k : Nat) (hk : k < n) (hk2 : k < ts.length) : Toks w (.slice (some ⟨g, o + k * 4, none⟩) 1 (cap - k)) [ts[k]] := by
  have h1 := (h.dropV k hk).takeV 1 (by omega)
  rwa [List.drop_eq_getElem_cons hk2, List.take_succ_cons, List.take_zero] at h1
theorem u8_wrap (n : Nat) : IntKind.u8.wrap (n : Int) = ((n % 256 : Nat) : Int) := by
  simp [IntKind.wrap, IntKind.signed, IntKind.bits]
theorem gap_int (x : Int) (n : Nat) (h : x = n) (hn : n < 256) (w : World) : Calls Try.prog 31 #[.int .u8 x] w fun e w' => e = .returned (.string ⟨(gapL n).toArray⟩) ∧ w = w' := by subst h; exact gap_any n w hn
theorem ba_size (l : List UInt8) : (⟨l.toArray⟩ : ByteArray).size = l.length := rfl
theorem blank_len {gs : List Nat} {bl : List Tok} {u : ByteArray} {k : Nat} (h : u.data.toList = weave (wov gs 0 (bl.take k)) []) (hx : ∀ t ∈ bl, t.text.size ≤ 300) (hk : k ≤ 40) : u.size ≤ 13000 := by
  have := wov_len gs 0 (bl.take k) fun t ht => hx t (List.take_subset k bl ht)
  rw [← h, sz, List.length_take] at this
  have : min k bl.length ≤ 40 := by omega
  omega
def BlankRel (bl : List Tok) (gs : List Nat) (w : World) (s i : Value) (wr : World) : Prop :=
  ∃ (k : Nat) (u : ByteArray), i = .int .i64 k ∧ s = .string u ∧ k ≤ bl.length ∧ u.size ≤ k * 320 ∧ Hid (u.data.toList = weave (wov gs 0 (bl.take k)) []) ∧ Hid (∀ j (_ : j < k) (h : j < bl.length), bl[j].ok = true) ∧ Hid (Below w.heap.size w wr)
theorem wov_step (gs : List Nat) {bl : List Tok} {k : Nat} (h : k < bl.length) : weave (wov gs 0 (bl.take (k + 1))) [] = weave (wov gs 0 (bl.take k)) [] ++ (gapL (gapN gs k) ++ bl[k].src) := by
  rw [List.take_succ_eq_append_getElem h, wov_snoc, weave_app, List.length_take, Nat.min_eq_left (by omega), Nat.zero_add, weave_nil]
  simp [weave]
set_option maxHeartbeats 2000000 in
theorem lawBlanks (l : List Tok) (gs : List Nat) (v vg : Value) (w : World) (h : Toks w v l) (h' : U8s w vg gs) : Calls Try.prog 10 #[v, vg] w (BPost true w) := by
  have ha := Lib.hid h
  have hg := Lib.hid h'
  obtain ⟨ao, ca, rfl, hca, hca2⟩ := h.len
  clear h
  obtain ⟨ag, cg, rfl, hcg, hcg2, hg8, hgc⟩ := h'
  unfold maxLen at hcg2
  by_cases h40 : 40 < l.length
  · go_enter Try.func10, Try.ntmps10
    go_wp2_with (first | ((with_reducible refine wpTxt_q ?_ ?_ ?_); rfl; rfl; intro _ _) | ((with_reducible refine wpTxt_w0 ?_ ?_ ?_); rfl; rfl; intro _ _) | ((with_reducible refine wpTxt_s ?_ ?_); rfl; intro _ _; go_simp) | ((with_reducible refine wpTxt_sw ?_ ?_); rfl; intro _ _; go_simp) | (with_reducible refine wpTxt_nil ?_) | ((with_reducible refine wp_region_t mixed ?_ ?_); decide +kernel; intro _ _) | (go_at_call 13; ((with_reducible refine (awake_any _).mono ?_); rintro e w9 ⟨rfl, hb9⟩)))
    go_ret
    exact bpost rfl hb9
  cases hf0 : fewB l with
  | false =>
    have hf := Lib.hid hf0
    clear hf0
    go_enter Try.func10, Try.ntmps10
    go_wp2_with (first | ((with_reducible refine wpTxt_q ?_ ?_ ?_); rfl; rfl; intro _ _) | ((with_reducible refine wpTxt_w0 ?_ ?_ ?_); rfl; rfl; intro _ _) | ((with_reducible refine wpTxt_s ?_ ?_); rfl; intro _ _; go_simp) | ((with_reducible refine wpTxt_sw ?_ ?_); rfl; intro _ _; go_simp) | (with_reducible refine wpTxt_nil ?_) | ((with_reducible refine wp_region_t mixed ?_ ?_); decide +kernel; intro _ _) | (go_at_call 23; ((with_reducible refine (few_any l _ _ ha.out).mono ?_); rintro e w' ⟨rfl, n, rfl⟩; rw [hf.out])) | (go_at_call 13; ((with_reducible refine (awake_any _).mono ?_); rintro e w9 ⟨rfl, hb9⟩)))
    go_ret
    exact bpost rfl (below_un hb9)
  | true =>
    have hf := Lib.hid hf0
    have htx := few_texts hf0
    have hbl := body_len l
    have HX := Lib.hid (show ∀ t ∈ body l, t.text.size ≤ 300 from fun t ht => htx t (body_mem t ht))
    clear hf0 htx
    obtain ⟨bl, HBL⟩ : ∃ bl, Hid (body l = bl) := ⟨_, rfl⟩
    rw [HBL.out] at hbl HX
    go_enter Try.func10, Try.ntmps10
    go_upto_region 4 with (first | ((with_reducible refine wpTxt_q ?_ ?_ ?_); rfl; rfl; intro _ _) | ((with_reducible refine wpTxt_w0 ?_ ?_ ?_); rfl; rfl; intro _ _) | ((with_reducible refine wpTxt_s ?_ ?_); rfl; intro _ _; go_simp) | ((with_reducible refine wpTxt_sw ?_ ?_); rfl; intro _ _; go_simp) | (with_reducible refine wpTxt_nil ?_) | ((with_reducible refine wp_region_t mixed ?_ ?_); decide +kernel; intro _ _) | (go_at_call 23; ((with_reducible refine (few_any l _ _ ha.out).mono ?_); rintro e w' ⟨rfl, n, rfl⟩; rw [hf.out])) | (go_at_call 30; ((with_reducible refine (first02_val l _ _ (ha.out.drewN _)).mono ?_); rintro e w' ⟨vf, rfl, hpf, nf, rfl⟩; obtain ⟨aof, cf, rfl, hc1, hc2⟩ := (hpf w ha.out).len; have HP := Lib.hid (hpf _ ha.out); clear hpf)))
    rw [HBL.out] at HP hc1 ⊢
    go_wp2
    go_loopw [5, 6] (fun s i wr => BlankRel bl gs w s i wr) (fun _ i _ => bl.length - (intOf i).toNat)
    case atStart => exact ⟨0, _, rfl, rfl, by omega, Nat.zero_le _, rfl, fun j h => absurd h (by omega), ⟨rfl, rfl, rfl, Nat.le_refl _, fun _ _ => rfl⟩⟩
    case round =>
      obtain ⟨k, u, rfl, rfl, hk, hu, HU, HO1, HB⟩ := hrel
      by_cases hlt : k < bl.length
      · have HPr := Lib.hid ((HP.out).below HB.out)
        obtain ⟨go, oo, rfl⟩ : ∃ g o, aof = some ⟨g, o, none⟩ := by
          obtain ⟨ao', cap', hv, _, _, h3⟩ := HP.out
          rcases h3 with h3 | ⟨g, o, e, _⟩
          · omega
          · injection hv with e1
            exact ⟨g, o, e1.trans e⟩
        have HT := Lib.hid (HPr.out.sub k hlt hlt)
        have hsz := HX.out bl[k] (List.getElem_mem hlt)
        have hk0 := body_kind bl[k] (by rw [HBL.out]; exact List.getElem_mem hlt)
        have h1 := text_one hk0 hsz
        have HST := Lib.hid (wov_step gs hlt)
        cases hok : bl[k].ok with
        | false =>
          rw [hok] at h1
          have HO : Hid (textS [bl[k]] = ([], 2)) := Lib.hid h1
          clear h1 hk0 hok
          go_wp2_with (first | ((with_reducible refine wpTxt_q ?_ ?_ ?_); rfl; rfl; intro _ _) | ((with_reducible refine wpTxt_w0 ?_ ?_ ?_); rfl; rfl; intro _ _) | ((with_reducible refine wpTxt_s ?_ ?_); rfl; intro _ _; go_simp) | ((with_reducible refine wpTxt_sw ?_ ?_); rfl; intro _ _; go_simp) | (with_reducible refine wpTxt_nil ?_) | ((with_reducible refine wp_region_t mixed ?_ ?_); decide +kernel; intro _ _) | (go_at_call 24; ((with_reducible refine (ttext_bad HO.out _ _ HT.out (small_of ?_ ?_)).mono ?_); (· simp); (· simpa using hsz); rintro e w1 ⟨rfl, hb1⟩)) | (go_at_call 13; ((with_reducible refine (awake_any _).mono ?_); rintro e w9 ⟨rfl, hb9⟩)))
          go_ret
          exact bpost rfl (by have hL := HB.out; have hz := hL.size; have hz1 := hb1.size; exact (hL.trans (hb1.mono hz)).trans (hb9.mono (by omega)))
        | true =>
          rw [hok, if_pos rfl] at h1
          have HO : Hid (textS [bl[k]] = ((⟨bl[k].src.toArray⟩ : ByteArray).data.toList, 0)) := Lib.hid (by rw [h1])
          have HO2 := Lib.hid (show ∀ j (_ : j < k + 1) (h : j < bl.length), bl[j].ok = true from fun j hj h => by
            by_cases e : j = k
            · subst e; exact hok
            · exact HO1.out j (by omega) h)
          clear h1 hk0 hok
          have hw8 := u8_wrap k
          by_cases hgl : k < gs.length
          · obtain ⟨gg, og, rfl, hgg, hgcell⟩ : ∃ g o, ag = some ⟨g, o, none⟩ ∧ g < w.heap.size ∧ ∀ i (h : i < gs.length), w.cell? ⟨g, o + i, none⟩ = some (.int .u8 (gs[i] : Nat)) := by
              rcases hgc with h3 | ⟨g, o, e, h4, h5⟩
              · omega
              · exact ⟨g, o, e, h4, h5⟩
            have x0 : wr.cell? ⟨gg, og + k, none⟩ = some (.int .u8 (gs[k] : Nat)) := by rw [HB.out.cell (p := ⟨gg, og + k, none⟩) hgg]; exact hgcell k hgl
            have hgk := hg8 gs[k] (List.getElem_mem hgl)
            have hN : Hid (gapN gs k = gs[k]) := Lib.hid (by unfold gapN; rw [if_pos hgl, List.getD_eq_getElem?_getD, List.getElem?_eq_getElem hgl]; rfl)
            have hs1 : (⟨(gapL gs[k]).toArray⟩ : ByteArray).size ≤ 15 := gap_len _
            have hs1' : (gapL gs[k]).length ≤ 15 := gap_len _
            have hs2 : (⟨bl[k].src.toArray⟩ : ByteArray).size ≤ 302 := src_len hsz
            have hs2' : bl[k].src.length ≤ 302 := src_len hsz
            clear hgcell
            go_wp2_with (first | ((with_reducible refine wpTxt_q ?_ ?_ ?_); rfl; rfl; intro _ _) | ((with_reducible refine wpTxt_w0 ?_ ?_ ?_); rfl; rfl; intro _ _) | ((with_reducible refine wpTxt_s ?_ ?_); rfl; intro _ _; go_simp) | ((with_reducible refine wpTxt_sw ?_ ?_); rfl; intro _ _; go_simp) | (with_reducible refine wpTxt_nil ?_) | ((with_reducible refine wp_region_t mixed ?_ ?_); decide +kernel; intro _ _) | (go_at_call 24; ((with_reducible refine (ttext_good HO.out _ _ HT.out (small_of ?_ ?_)).mono ?_); (· simp); (· simpa using hsz); rintro e w1 ⟨rfl, hb1⟩; have x1 : w1.cell? ⟨gg, og + k, none⟩ = some (.int .u8 (gs[k] : Nat)) := by rw [hb1.cell (p := ⟨gg, og + k, none⟩) (Nat.lt_of_lt_of_le hgg HB.out.size)]; exact x0)) | (go_at_call 31; ((with_reducible refine (gap_int _ gs[k] rfl hgk _).mono ?_); rintro e w' ⟨rfl, rfl⟩)))
            go_roundw
            case rel => exact ⟨k + 1, _, by go_num, rfl, by omega, (by simp only [ByteArray.size_append]; omega), (by show _ = _; rw [HST.out, hN.out, ← HU.out]; simp), HO2.out, (by have hL := HB.out; have hz := hL.size; have hL2 := hL.trans (hb1.mono hz); show Below _ _ _; (repeat (first | with_reducible assumption | with_reducible exact Below.refl _ _ | ((with_reducible refine Below.setCell ?_ ?_ _); rotate_left; (· first | omega | (simp only [World.size_alloc, World.size_drew, World.size_setCell]; omega))) | ((with_reducible refine Below.alloc ?_ ?_ _); rotate_left; (· first | omega | (simp only [World.size_alloc, World.size_drew, World.size_setCell]; omega))) | ((with_reducible refine Below.drewN' ?_ _)) | ((with_reducible refine Below.drew ?_)))))⟩
            case measure => simp [intOf]; omega
          · have hN : Hid (gapN gs k = k % 256) := Lib.hid (by unfold gapN; rw [if_neg hgl])
            have hs1 : (⟨(gapL (k % 256)).toArray⟩ : ByteArray).size ≤ 15 := gap_len _
            have hs1' : (gapL (k % 256)).length ≤ 15 := gap_len _
            have hs2 : (⟨bl[k].src.toArray⟩ : ByteArray).size ≤ 302 := src_len hsz
            have hs2' : bl[k].src.length ≤ 302 := src_len hsz
            go_wp2_with (first | ((with_reducible refine wpTxt_q ?_ ?_ ?_); rfl; rfl; intro _ _) | ((with_reducible refine wpTxt_w0 ?_ ?_ ?_); rfl; rfl; intro _ _) | ((with_reducible refine wpTxt_s ?_ ?_); rfl; intro _ _; go_simp) | ((with_reducible refine wpTxt_sw ?_ ?_); rfl; intro _ _; go_simp) | (with_reducible refine wpTxt_nil ?_) | ((with_reducible refine wp_region_t mixed ?_ ?_); decide +kernel; intro _ _) | (go_at_call 24; ((with_reducible refine (ttext_good HO.out _ _ HT.out (small_of ?_ ?_)).mono ?_); (· simp); (· simpa using hsz); rintro e w1 ⟨rfl, hb1⟩)) | (go_at_call 31; ((with_reducible refine (gap_int _ (k % 256) ?_ ?_ _).mono ?_); (· omega); (· omega); rintro e w' ⟨rfl, rfl⟩)))
            go_roundw
            case rel => exact ⟨k + 1, _, by go_num, rfl, by omega, (by simp only [ByteArray.size_append]; omega), (by show _ = _; rw [HST.out, hN.out, ← HU.out]; simp), HO2.out, (by have hL := HB.out; have hz := hL.size; have hL2 := hL.trans (hb1.mono hz); show Below _ _ _; (repeat (first | with_reducible assumption | with_reducible exact Below.refl _ _ | ((with_reducible refine Below.setCell ?_ ?_ _); rotate_left; (· first | omega | (simp only [World.size_alloc, World.size_drew, World.size_setCell]; omega))) | ((with_reducible refine Below.alloc ?_ ?_ _); rotate_left; (· first | omega | (simp only [World.size_alloc, World.size_drew, World.size_setCell]; omega))) | ((with_reducible refine Below.drewN' ?_ _)) | ((with_reducible refine Below.drew ?_)))))⟩
            case measure => simp [intOf]; omega
      · have hkn : k = bl.length := by omega
        subst hkn
        have hfine : ∀ t ∈ bl, ¬ t.kind = 0 ∧ t.ok = true := fun t ht => by
          obtain ⟨i, hi, rfl⟩ := List.getElem_of_mem ht
          exact ⟨body_kind _ (by rw [HBL.out]; exact ht), HO1.out i hi hi⟩
        have hul := blank_len HU.out HX.out (by omega)
        have hU2 : Hid (u.data.toList = weave (wov gs 0 bl) []) := Lib.hid (by have := HU.out; rwa [List.take_of_length_le (Nat.le_refl _)] at this)
        have hs1 : (⟨(gapL (gs.length % 256)).toArray⟩ : ByteArray).size ≤ 15 := gap_len _
        have hs1' : (gapL (gs.length % 256)).length ≤ 15 := gap_len _
        obtain ⟨m, p, e1, e2, e3⟩ := blank_scan (gs := gs) (ts := bl) (n := gs.length % 256) (s := u ++ ⟨(gapL (gs.length % 256)).toArray⟩) (by rw [← hU2.out]; simp) (by simp only [ByteArray.size_append]; omega) hfine
        have hm := Lib.hid e1
        have hsm := Lib.hid e2
        have hlen : Hid ((m ++ [(⟨0, ⟨#[]⟩, p⟩ : Tok)]).length = bl.length + 1) := Lib.hid (by simp [e3])
        have hml := Lib.hid e3
        have hw8 := u8_wrap gs.length
        have hbl40 : bl.length ≤ 40 := by omega
        clear e1 e2 e3 hfine
        go_wp2_with (first | ((with_reducible refine wpTxt_q ?_ ?_ ?_); rfl; rfl; intro _ _) | ((with_reducible refine wpTxt_w0 ?_ ?_ ?_); rfl; rfl; intro _ _) | ((with_reducible refine wpTxt_s ?_ ?_); rfl; intro _ _; go_simp) | ((with_reducible refine wpTxt_sw ?_ ?_); rfl; intro _ _; go_simp) | (with_reducible refine wpTxt_nil ?_) | ((with_reducible refine wp_region_t mixed ?_ ?_); decide +kernel; intro _ _) | (go_at_call 31; ((with_reducible refine (gap_int _ (gs.length % 256) ?_ ?_ _).mono ?_); (· omega); (· omega); rintro e w' ⟨rfl, rfl⟩)) | (go_at_call 14; ((with_reducible refine (tscan_n hm.out hlen.out ?_ _).mono ?_); (· omega); rintro e w1 ⟨g5, o5, c5, rfl, hT5, h51, h52, hb1⟩; have HT5 := Lib.hid hT5; clear hT5; have hz1 := hb1.size)))
        refine (tSame_yes m bl _ _ _ ?_ ?_ (by have := hml.out; omega) (by omega) hsm.out).mono ?_
        · have h1 : Below w1.heap.size w1 (w1.alloc (.cells #[.int .i64 0, .int .i64 0, .int .i64 0, .string ⟨#[]⟩] 28)) := by (repeat (first | with_reducible assumption | with_reducible exact Below.refl _ _ | ((with_reducible refine Below.setCell ?_ ?_ _); rotate_left; (· first | omega | (simp only [World.size_alloc, World.size_drew, World.size_setCell]; omega))) | ((with_reducible refine Below.alloc ?_ ?_ _); rotate_left; (· first | omega | (simp only [World.size_alloc, World.size_drew, World.size_setCell]; omega))) | ((with_reducible refine Below.drewN' ?_ _)) | ((with_reducible refine Below.drew ?_))))
          have := (HT5.out.below h1).takeV bl.length (by omega)
          have e : (m ++ [(⟨0, ⟨#[]⟩, p⟩ : Tok)]).take bl.length = m := by rw [← hml.out, List.take_left]
          rwa [e] at this
        · have h1 : Below w1.heap.size w1 (w1.alloc (.cells #[.int .i64 0, .int .i64 0, .int .i64 0, .string ⟨#[]⟩] 28)) := by (repeat (first | with_reducible assumption | with_reducible exact Below.refl _ _ | ((with_reducible refine Below.setCell ?_ ?_ _); rotate_left; (· first | omega | (simp only [World.size_alloc, World.size_drew, World.size_setCell]; omega))) | ((with_reducible refine Below.alloc ?_ ?_ _); rotate_left; (· first | omega | (simp only [World.size_alloc, World.size_drew, World.size_setCell]; omega))) | ((with_reducible refine Below.drewN' ?_ _)) | ((with_reducible refine Below.drew ?_))))
          exact ((HP.out.below HB.out).below hb1).below h1
        rintro e w' ⟨rfl, n9, rfl⟩
        go_wp2_with (first | ((with_reducible refine wpTxt_q ?_ ?_ ?_); rfl; rfl; intro _ _) | ((with_reducible refine wpTxt_w0 ?_ ?_ ?_); rfl; rfl; intro _ _) | ((with_reducible refine wpTxt_s ?_ ?_); rfl; intro _ _; go_simp) | ((with_reducible refine wpTxt_sw ?_ ?_); rfl; intro _ _; go_simp) | (with_reducible refine wpTxt_nil ?_) | ((with_reducible refine wp_region_t mixed ?_ ?_); decide +kernel; intro _ _) | (go_at_call 13; ((with_reducible refine (awake_any _).mono ?_); rintro e w9 ⟨rfl, hb9⟩)))
        go_ret
        exact bpost rfl (by have hL := HB.out; have hz := hL.size; have hz1 := hb1.size; have hL2 := hL.trans (hb1.mono hz); exact (show Below w.heap.size w _ by (repeat (first | with_reducible assumption | with_reducible exact Below.refl _ _ | ((with_reducible refine Below.setCell ?_ ?_ _); rotate_left; (· first | omega | (simp only [World.size_alloc, World.size_drew, World.size_setCell]; omega))) | ((with_reducible refine Below.alloc ?_ ?_ _); rotate_left; (· first | omega | (simp only [World.size_alloc, World.size_drew, World.size_setCell]; omega))) | ((with_reducible refine Below.drewN' ?_ _)) | ((with_reducible refine Below.drew ?_))))).trans (hb9.mono (by simp; omega)))
end Go.Proofs.Ytffflmghfcgkfaa
