/- ScopeGrows: the plain law, the walk. -/
import Derived.Test.YtnifgkgdphlleaaVu
set_option linter.unusedSimpArgs false
set_option linter.unusedVariables false
namespace Go.Proofs.Ytnifgkgdphlleaa
open Go.RowKit Tk
theorem miss_found (x : PS) : ∀ (l : List PS) (s : MS), s.found = true → (l.foldl (missStep x) s).found = true
  | [], _, h => h
  | y :: l, s, h => miss_found x l _ (by unfold missStep; split <;> simp [h])
theorem miss_mem (x : PS) {q : ByteArray} : ∀ (l : List PS) (s : MS), q ∈ s.perms → q ∈ (l.foldl (missStep x) s).perms
  | [], _, h => h
  | y :: l, s, h => miss_mem x l _ (by unfold missStep; split <;> simp [h])
theorem less_none {perms l : List ByteArray} : (lessOf perms l).length = 0 ↔ ∀ q ∈ l, q ∈ perms := by
  unfold lessOf
  rw [List.length_eq_zero_iff, List.filter_eq_nil_iff]
  simp
theorem missB_more {x : PS} {h m : List PS} (hb : missB x (h ++ m) = true) : missB x h = true := by
  unfold missB at hb ⊢
  simp only [Bool.and_eq_true, Bool.or_eq_true, Bool.not_eq_true', decide_eq_true_eq] at hb ⊢
  refine ⟨hb.1, ?_⟩
  rcases Classical.em ((missOf x h).found = false ∨ 0 < (lessOf (missOf x h).perms x.perms).length) with h1 | h1
  · exact h1
  · exfalso
    simp only [not_or, Bool.not_eq_false, Nat.not_lt, Nat.le_zero] at h1
    have e : missOf x (h ++ m) = m.foldl (missStep x) (missOf x h) := List.foldl_append ..
    rw [e] at hb
    rcases hb.2 with h2 | h2
    · rw [miss_found x m _ h1.1] at h2; cases h2
    · have h3 := (less_none.2 fun q hq => miss_mem x m _ (less_none.1 h1.2 q hq))
      omega
theorem missN_more (need h m : List PS) : missN need (h ++ m) ≤ missN need h := by
  unfold missN
  induction need with
  | nil => simp
  | cons x need ih =>
    rw [List.filter_cons, List.filter_cons]
    by_cases h1 : missB x (h ++ m) = true
    · rw [if_pos h1, if_pos (missB_more h1)]; simpa using ih
    · rw [if_neg h1]
      split
      · simp only [List.length_cons]; omega
      · exact ih
def PS.un (x : PS) : PS := { x with req := false }
theorem miss_has {x y : PS} (hm : meetB x y = true) : ∀ (l : List PS) (s : MS), y ∈ l → (l.foldl (missStep x) s).found = true ∧ ∀ q ∈ y.perms, q ∈ (l.foldl (missStep x) s).perms
  | z :: l, s, h => by
    rw [List.foldl_cons]
    rcases List.mem_cons.1 h with rfl | h
    · have e : missStep x s y = ⟨true, s.perms ++ y.perms⟩ := by unfold missStep; rw [if_pos hm]
      rw [e]
      exact ⟨miss_found x l _ rfl, fun q hq => miss_mem x l _ (by simp [hq])⟩
    · exact miss_has hm l _ h
theorem missN_all (need : List PS) : missN need (need.map PS.un) = 0 := by
  unfold missN
  rw [List.length_eq_zero_iff, List.filter_eq_nil_iff]
  intro x hx hb
  unfold missB at hb
  simp only [Bool.and_eq_true, Bool.or_eq_true, Bool.not_eq_true', decide_eq_true_eq] at hb
  have hm : meetB x x.un = true := by unfold meetB PS.un; simp
  obtain ⟨h1, h2⟩ := miss_has hm (need.map PS.un) ⟨false, []⟩ (List.mem_map.2 ⟨x, hx, rfl⟩)
  rcases hb.2 with h3 | h3
  · unfold missOf at h3; rw [h1] at h3; cases h3
  · have h4 : (lessOf (missOf x (need.map PS.un)).perms x.perms).length = 0 := less_none.2 fun q hq => h2 q hq
    omega
theorem wtU_un (l : List PS) : wtU (l.map PS.un) = wtU l := by unfold wtU; rw [List.map_map]; rfl
def Sy.un (x : Sy) : Sy := ⟨x.kind, x.name, false, x.hp, x.perms, x.line, x.col⟩
theorem un_ps (l : List Sy) : (l.map Sy.un).map Sy.ps = (l.map Sy.ps).map PS.un := by rw [List.map_map, List.map_map]; rfl
theorem putA_req (x : Sy) : putA (syC x).toArray 2 #[.bool false] = (syC x.un).toArray := rfl
set_option maxHeartbeats 8000000 in
set_option maxRecDepth 100000 in
theorem lawGrows {w : World} {a a' a2 : Option Addr} {n c n' c' n2 c2 : Nat} {need hv mo : List Sy} (hn : Syms w (.slice a n c) need) (hh : Syms w (.slice a' n' c') hv) (hm : Syms w (.slice a2 n2 c2) mo) (hwn : wtU (need.map Sy.ps) ≤ 100000000000) (hwh : wtU (hv.map Sy.ps) ≤ 100000000000) (hwm : wtU (mo.map Sy.ps) ≤ 100000000000) :
    Calls Try.prog 5 #[.slice a n c, .slice a' n' c', .slice a2 n2 c2] w (BPost true w) := by
  obtain ⟨rfl, k1⟩ := hn.lens
  obtain ⟨rfl, k2⟩ := hh.lens
  obtain ⟨rfl, k3⟩ := hm.lens
  by_cases hbig : need.length ≤ 60 ∧ hv.length ≤ 60 ∧ mo.length ≤ 60
  · obtain ⟨b1, b2, b3⟩ := hbig
    go_enter Try.func5, Try.ntmps5
    have E := Only.refl [] w
    go_upto_region 3 with (first | fail)
    have r0 := OwnR.nil w w 57 6 syC
    go_upto_region 5 with (first | ((with_reducible refine at_dst 29 ?_); refine wp_own (.tmp 27) (.tmp 28) rfl info_sy und_sys rfl (by decide) syC_len syC_ones r0 E (hh.row.ext E.low) rfl rfl ?_ ?_ ?_; (· (simp only [List.length_nil]; (try unfold maxLen); omega)); (· (simp only [List.length_nil]; (try unfold maxLen); omega)); intro L29 hL29 s29 v29 wn r1 E2 hA; replace hL29 := Lib.hid hL29; (try replace b12 := b12.grow r0 hA (of_decide_eq_true rfl)); (try replace r2 := r2.grow r0 hA (of_decide_eq_true rfl)); (try replace r3 := r3.grow r0 hA (of_decide_eq_true rfl)); (try replace hS := hS.grow r0 hA (of_decide_eq_true rfl)); clear E; have E := E2; clear E2; have hz := hL29.out; rw [List.nil_append] at hz; rw [← hz] at r1; clear hz; obtain ⟨o29, k29, rfl, l29, m29⟩ := ORow.len r1.row; (try (clear hcE hfE)); (try (have hcf := bcell E.low; obtain ⟨hcE, hfE⟩ := hcf)); (try (clear c12 f12)); (try (have c12 := b12.cell; have f12 := b12.free)); (try simp only [Act.put, List.setIfInBounds_toArray, List.set_cons_zero, List.set_cons_succ])) | ((with_reducible refine at_dst 31 ?_); refine wp_own (.tmp 29) (.tmp 30) rfl info_sy und_sys rfl (by decide) syC_len syC_ones r1 E (hm.row.ext E.low) rfl rfl ?_ ?_ ?_; (· ((try unfold maxLen); omega)); (· ((try unfold maxLen); omega)); intro L31 hL31 s31 v31 wn r2 E2 hA; replace hL31 := Lib.hid hL31; (try replace b12 := b12.grow r1 hA (of_decide_eq_true rfl)); (try replace r0 := r0.grow r1 hA (of_decide_eq_true rfl)); (try replace r3 := r3.grow r1 hA (of_decide_eq_true rfl)); (try replace hS := hS.grow r1 hA (of_decide_eq_true rfl)); clear E; have E := E2; clear E2; obtain ⟨o31, k31, rfl, l31, m31⟩ := ORow.len r2.row; (try (clear hcE hfE)); (try (have hcf := bcell E.low; obtain ⟨hcE, hfE⟩ := hcf)); (try (clear c12 f12)); (try (have c12 := b12.cell; have f12 := b12.free)); (try simp only [Act.put, List.setIfInBounds_toArray, List.set_cons_zero, List.set_cons_succ])))
    have hLs : L31.map Sy.ps = hv.map Sy.ps ++ mo.map Sy.ps := by rw [← hL31.out, List.map_append]
    have hS : Syms wn (.slice o31 L31.length k31) L31 := ⟨r2.rsy, fun x hx => by
      rw [← hL31.out] at hx
      rcases List.mem_append.1 hx with hx | hx
      · exact (hh.perms x hx).ext E.low
      · exact (hm.perms x hx).ext E.low⟩
    have hS31 : wtU (L31.map Sy.ps) ≤ 1000000000000 := by rw [hLs, wtU_app]; omega
    obtain ⟨A, hA⟩ : ∃ A, missN (need.map Sy.ps) (hv.map Sy.ps) = A := ⟨_, rfl⟩
    obtain ⟨B, hB⟩ : ∃ B, missN (need.map Sy.ps) (L31.map Sy.ps) = B := ⟨_, rfl⟩
    have hBA : B ≤ A := by rw [← hB, ← hA, hLs]; exact missN_more _ _ _
    have HA := Lib.hid hA
    have HB := Lib.hid hB
    clear hA hB hLs
    go_upto_region 7 with (first | ((with_reducible refine at_dst 34 ?_); go_simp; ((refine (missing_any (hn.ext E.low) (hh.ext E.low) (by omega) (by omega)).mono ?_)); unfold MPost; rw [HA.out]; rintro e wn ⟨ma, mc, rfl, hx⟩; (try replace E := E.ext hx); (try replace b12 := b12.ext hx); (try replace r0 := r0.ext hx); (try replace r1 := r1.ext hx); (try replace r2 := r2.ext hx); (try replace r3 := r3.ext hx); (try replace hS := hS.ext hx); (try (clear hcE hfE)); (try (have hcf := bcell E.low; obtain ⟨hcE, hfE⟩ := hcf)); (try (clear c12 f12)); (try (have c12 := b12.cell; have f12 := b12.free))) | ((with_reducible refine at_dst 37 ?_); go_simp; ((refine (missing_any (hn.ext E.low) hS (by omega) hS31).mono ?_)); unfold MPost; rw [HB.out]; rintro e wn ⟨mb, md, rfl, hx⟩; (try replace E := E.ext hx); (try replace b12 := b12.ext hx); (try replace r0 := r0.ext hx); (try replace r1 := r1.ext hx); (try replace r2 := r2.ext hx); (try replace r3 := r3.ext hx); (try replace hS := hS.ext hx); (try (clear hcE hfE)); (try (have hcf := bcell E.low; obtain ⟨hcE, hfE⟩ := hcf)); (try (clear c12 f12)); (try (have c12 := b12.cell; have f12 := b12.free))))
    clear r2 hS
    have r3 := OwnR.nil w wn 57 6 syC
    go_loopw [8, 11] (fun v i wr => ∃ (j : Nat) (L : List Sy) (so : Option Addr) (sc : Nat), i = .int .i64 j ∧ j ≤ need.length ∧ v = .slice so L.length sc ∧ Hid (L = (need.take j).map Sy.un) ∧ L.length ≤ j ∧ OwnR w wr 57 6 syC (.slice so L.length sc) L ∧ Only [] w wr) (fun _ i _ => need.length - (intOf i).toNat)
    case atStart => exact ⟨0, [], none, 0, rfl, Nat.zero_le _, rfl, rfl, Nat.le_refl _, r3, E⟩
    case round =>
      clear r3 E hcE hfE
      obtain ⟨j, L, so, sc, rfl, hj, rfl, HL, hLj, r3, E⟩ := hrel
      obtain ⟨hcE, hfE⟩ := bcell E.low
      by_cases hlt : j < need.length
      · obtain ⟨x, hx0⟩ := at_some hlt
        have HX := Lib.hid hx0
        obtain ⟨g, o, rfl, hg, -⟩ := RRow.cells hn.row hlt
        have hs : L ++ [x.un] = (need.take (j + 1)).map Sy.un := by rw [take_at hx0, List.map_append, HL.out]; rfl
        have HS := Lib.hid hs
        clear hs hx0
        go_upto_region 9999 with (first | ((with_reducible refine at_dst 47 ?_); (refine wp_rec2 ((RRow.ext hn.row E.low)) (HX.out) syC_len rfl rfl ?_ ?_ ?_); (· kernel_rfl); (· kernel_rfl)) | ((with_reducible refine at_dst 12 ?_); go_simp; (generalize hX12 : Array.size (World.heap _) = X12); refine new_block hX12 ?_; intro wn bb hx; (try (have z12 := Nat.le_trans E.size (Nat.le_of_eq hX12))); (try (have mr0_12 := r0.notin (Nat.le_of_eq hX12))); (try (have mr1_12 := r1.notin (Nat.le_of_eq hX12))); (try (have mr2_12 := r2.notin (Nat.le_of_eq hX12))); (try (have mr3_12 := r3.notin (Nat.le_of_eq hX12))); (try (have mhS_12 := hS.notin (Nat.le_of_eq hX12))); have b12 := Loc.new bb E hX12; clear bb hX12; (try replace E := E.ext hx); (try replace r0 := r0.ext hx); (try replace r1 := r1.ext hx); (try replace r2 := r2.ext hx); (try replace r3 := r3.ext hx); (try replace hS := hS.ext hx); (try (clear hcE hfE)); (try (have hcf := bcell E.low; obtain ⟨hcE, hfE⟩ := hcf)); (try (clear c12 f12)); (try (have c12 := b12.cell; have f12 := b12.free))) | ((with_reducible refine at_dst 50 ?_); (refine wp_all b12.blk rfl rfl ?_ ?_ ?_); (· kernel_rfl); (· kernel_rfl)) | ((with_reducible refine at_dst 51 ?_); go_simp; (generalize hX51 : Array.size (World.heap _) = X51); refine new_block hX51 ?_; intro wn bb hx; (try (have n12_51 := (b12.ne hX51).1; have n51_12 := (b12.ne hX51).2)); (try (have z51 := Nat.le_trans E.size (Nat.le_of_eq hX51))); (try (have mr0_51 := r0.notin (Nat.le_of_eq hX51))); (try (have mr1_51 := r1.notin (Nat.le_of_eq hX51))); (try (have mr2_51 := r2.notin (Nat.le_of_eq hX51))); (try (have mr3_51 := r3.notin (Nat.le_of_eq hX51))); (try (have mhS_51 := hS.notin (Nat.le_of_eq hX51))); have b51 := bb; have g51 := Loc.new bb E hX51; clear bb hX51; (try replace E := E.ext hx); (try replace b12 := b12.ext hx); (try replace r0 := r0.ext hx); (try replace r1 := r1.ext hx); (try replace r2 := r2.ext hx); (try replace r3 := r3.ext hx); (try replace hS := hS.ext hx); (try (clear hcE hfE)); (try (have hcf := bcell E.low; obtain ⟨hcE, hfE⟩ := hcf)); (try (clear c12 f12)); (try (have c12 := b12.cell; have f12 := b12.free))) | ((with_reducible refine at_dst 52 ?_); refine wp_own (.tmp 49) (.tmp 51) rfl info_sy und_sys rfl (by decide) syC_len syC_ones r3 E (RRow.blk (xs := [x.un]) syC_len b51 rfl (show 1 ≤ maxLen by decide)) rfl rfl ?_ ?_ ?_; (· (simp only [List.length_cons, List.length_nil]; (try unfold maxLen); omega)); (· (simp only [List.length_cons, List.length_nil]; (try unfold maxLen); omega)); intro L52 hL52 s52 v52 wn r4 E2 hA; replace hL52 := Lib.hid hL52; (try replace b12 := b12.grow r3 hA (of_decide_eq_true rfl)); (try replace r0 := r0.grow r3 hA (of_decide_eq_true rfl)); (try replace r1 := r1.grow r3 hA (of_decide_eq_true rfl)); (try replace r2 := r2.grow r3 hA (of_decide_eq_true rfl)); (try replace hS := hS.grow r3 hA (of_decide_eq_true rfl)); clear E; have E := E2; clear E2; obtain ⟨o52, k52, rfl, l52, m52⟩ := ORow.len r4.row; (try (clear hcE hfE)); (try (have hcf := bcell E.low; obtain ⟨hcE, hfE⟩ := hcf)); (try (clear c12 f12)); (try (have c12 := b12.cell; have f12 := b12.free)); (try simp only [Act.put, List.setIfInBounds_toArray, List.set_cons_zero, List.set_cons_succ])) | ((with_reducible refine at_store 12 ?_); (refine wp_put b12 rfl rfl ?_ ?_ ?_ ?_; (· kernel_rfl); (· first | rfl | kernel_rfl); (· first | decide | exact Nat.le_refl _ | simp [Act.eval, Value.cells] | (simp [Act.eval, Act.put, Value.cells]; done)); intro wn bn hb; have E2 := E.put b12 hb; (first | (replace r0 := r0.but hb b12.blk (of_decide_eq_true rfl)) | (replace r0 := r0.but0 hb mr0_12) | skip); (first | (replace r1 := r1.but hb b12.blk (of_decide_eq_true rfl)) | (replace r1 := r1.but0 hb mr1_12) | skip); (first | (replace r2 := r2.but hb b12.blk (of_decide_eq_true rfl)) | (replace r2 := r2.but0 hb mr2_12) | skip); (first | (replace r3 := r3.but hb b12.blk (of_decide_eq_true rfl)) | (replace r3 := r3.but0 hb mr3_12) | skip); (first | (replace hS := hS.but hb b12.blk (of_decide_eq_true rfl)) | (replace hS := hS.but0 hb mhS_12) | skip); clear E b12; have E := E2; clear E2; have b12 := bn; clear bn hb; dsimp only [Act.put]; simp only [putA, Act.eval, Array.getD_eq_getD_getElem?, List.getElem?_toArray, List.getElem?_cons_succ, List.getElem?_cons_zero, Option.getD_some, Value.cells, List.toList_toArray, List.size_toArray, List.length_cons, List.length_nil, Nat.reduceAdd, List.take_succ_cons, List.take_zero, List.drop_succ_cons, List.drop_zero, List.drop_nil, List.cons_append, List.nil_append, List.append_nil, syC_size, stC_size, exC_size, nsC_size, lvC_size, rgC_size, cxC_size, spanC_size] at b12; (try (clear hcE hfE)); (try (have hcf := bcell E.low; obtain ⟨hcE, hfE⟩ := hcf)); (try (clear c12 f12)); (try (have c12 := b12.cell; have f12 := b12.free)))) | ((with_reducible refine at_store 48 ?_); (refine wp_put_to (cs' := (syC x.un).toArray) b12 rfl rfl ?_ ?_ ?_ ?_ ?_; (· kernel_rfl); (· first | rfl | kernel_rfl); (· first | decide | exact Nat.le_refl _ | simp [Act.eval, Value.cells] | (simp [Act.eval, Act.put, Value.cells]; done)); (· kernel_rfl); intro wn bn hb; have E2 := E.put b12 hb; (first | (replace r0 := r0.but hb b12.blk (of_decide_eq_true rfl)) | (replace r0 := r0.but0 hb mr0_12) | skip); (first | (replace r1 := r1.but hb b12.blk (of_decide_eq_true rfl)) | (replace r1 := r1.but0 hb mr1_12) | skip); (first | (replace r2 := r2.but hb b12.blk (of_decide_eq_true rfl)) | (replace r2 := r2.but0 hb mr2_12) | skip); (first | (replace r3 := r3.but hb b12.blk (of_decide_eq_true rfl)) | (replace r3 := r3.but0 hb mr3_12) | skip); (first | (replace hS := hS.but hb b12.blk (of_decide_eq_true rfl)) | (replace hS := hS.but0 hb mhS_12) | skip); clear E b12; have E := E2; clear E2; have b12 := bn; clear bn hb; dsimp only [Act.put]; (try (clear hcE hfE)); (try (have hcf := bcell E.low; obtain ⟨hcE, hfE⟩ := hcf)); (try (clear c12 f12)); (try (have c12 := b12.cell; have f12 := b12.free)))))
        go_roundw
        case rel => exact ⟨j + 1, L52, _, _, by go_num, by omega, rfl, hL52.out ▸ HS.out, by rw [← hL52.out, List.length_append]; simp only [List.length_cons, List.length_nil]; omega, r4, E⟩
        case measure => simp [intOf]; omega
      · have hLn : L = need.map Sy.un := by rw [HL.out, List.take_of_length_le (by omega)]
        have hz : missN (need.map Sy.ps) (L.map Sy.ps) = 0 := by rw [hLn, un_ps]; exact missN_all _
        have hS32 : wtU (L.map Sy.ps) ≤ 1000000000000 := by rw [hLn, un_ps, wtU_un]; omega
        have hS : Syms wr (.slice so L.length sc) L := ⟨r3.rsy, fun x hx => by
          rw [hLn] at hx
          obtain ⟨y, hy, rfl⟩ := List.mem_map.1 hx
          exact (hn.perms y hy).ext E.low⟩
        have HZ := Lib.hid hz
        clear hz hLn r3 HL
        go_upto_region 9999 with (first | (go_at_call 7; ((refine (alive10_true _).mono ?_)); unfold BPost; rintro e wn ⟨rfl, hx⟩; (try replace E := E.ext hx); (try replace b12 := b12.ext hx); (try replace r0 := r0.ext hx); (try replace r1 := r1.ext hx); (try replace r2 := r2.ext hx); (try replace r3 := r3.ext hx); (try replace hS := hS.ext hx); (try (clear hcE hfE)); (try (have hcf := bcell E.low; obtain ⟨hcE, hfE⟩ := hcf)); (try (clear c12 f12)); (try (have c12 := b12.cell; have f12 := b12.free))) | (go_at_call 11; ((refine (missing_any (hn.ext E.low) hS (by omega) hS32).mono ?_)); unfold MPost; rw [HZ.out]; rintro e wn ⟨me, mf, rfl, hx⟩; (try replace E := E.ext hx); (try replace b12 := b12.ext hx); (try replace r0 := r0.ext hx); (try replace r1 := r1.ext hx); (try replace r2 := r2.ext hx); (try replace r3 := r3.ext hx); (try replace hS := hS.ext hx); (try (clear hcE hfE)); (try (have hcf := bcell E.low; obtain ⟨hcE, hfE⟩ := hcf)); (try (clear c12 f12)); (try (have c12 := b12.cell; have f12 := b12.free))))
        refine bodyPost_ret (v := .bool true) (by simp [results, Try.f5, go_sem]) rfl ⟨rfl, E.low⟩
  · have hbig' : 60 < need.length ∨ (need.length ≤ 60 ∧ 60 < hv.length) ∨ (need.length ≤ 60 ∧ hv.length ≤ 60 ∧ 60 < mo.length) := by omega
    clear hbig
    rcases hbig' with h1 | ⟨h1, h2⟩ | ⟨h1, h2, h3⟩
    all_goals
      go_enter Try.func5, Try.ntmps5
      have E := Only.refl [] w
      go_upto_region 9999 with (first | (go_at_call 7; ((refine (alive10_true _).mono ?_)); unfold BPost; rintro e wn ⟨rfl, hx⟩; (try replace E := E.ext hx); (try replace b12 := b12.ext hx); (try replace r0 := r0.ext hx); (try replace r1 := r1.ext hx); (try replace r2 := r2.ext hx); (try replace r3 := r3.ext hx); (try replace hS := hS.ext hx); (try (clear hcE hfE)); (try (have hcf := bcell E.low; obtain ⟨hcE, hfE⟩ := hcf)); (try (clear c12 f12)); (try (have c12 := b12.cell; have f12 := b12.free))))
      go_ret
      exact ⟨rfl, E.low⟩
end Go.Proofs.Ytnifgkgdphlleaa
