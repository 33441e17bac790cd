/- Vg -/
import Derived.Test.YtnifgkgdphlleaaS8
set_option linter.unusedSimpArgs false
set_option linter.unusedVariables false
namespace Go.Proofs.Ytnifgkgdphlleaa
open Go.RowKit Tk
theorem new_map {K : Act → World → Prop} {a : Act} {w : World} {X : Nat} (hX : w.heap.size = X) (h : ∀ w', KMap w' X [] → Ext w w' → K a w') : K a (w.alloc (.map #[] 0)) := h _ (hX ▸ KMap.made w) (Ext.alloc w _)
/-- a slice of symbols that a call returns -/
def YPost (w : World) (P : List PS) (e : Ending) (w' : World) : Prop := ∃ (a : Option Addr) (c : Nat) (xs : List Sy), e = .returned (.slice a xs.length c) ∧ xs.map Sy.ps = P ∧ Syms w' (.slice a xs.length c) xs ∧ Ext w w'
theorem OwnR.rsy {w0 w : World} {v : Value} {xs : List Sy} (h : OwnR w0 w 57 6 syC v xs) : RRow w 6 syC v xs := h.row.reads syC_len
set_option maxHeartbeats 2000000 in
set_option maxRecDepth 100000 in
theorem uses_any {w : World} {a : Option Addr} {n c : Nat} {l : List St} (hl : RRow w 55 stC (.slice a n c) l) (hok : St.oks w l) (hfl : St.fewls l) (hw : wtU [] + wtE (evSts l) ≤ 1900000000000) :
    Calls Try.prog 35 #[.slice a n c] w (YPost w (adds [] (evSts l))) := by
  go_enter Try.func35, Try.ntmps35
  have E := Only.refl [] w
  go_upto_region 9999 with (first | ((with_reducible refine at_dst 4 ?_); go_simp; (generalize hX4 : Array.size (World.heap _) = X4); refine new_map hX4 ?_; intro wn hM hx; have zm : w.heap.size ≤ X4 := Nat.le_trans E.size (Nat.le_of_eq hX4); clear hX4; (try replace E := E.ext hx); (try (have hcf := bcell E.low; obtain ⟨hcE, hfE⟩ := hcf))) | ((with_reducible refine at_dst 3 ?_); go_simp; (generalize hX3 : Array.size (World.heap _) = X3); refine new_block hX3 ?_; intro wn bb hx; (try (have z3 := Nat.le_trans E.size (Nat.le_of_eq hX3))); (try (have mhM_3 := hM.notin (Nat.le_of_eq hX3))); have b3 := Loc.new bb E hX3; clear bb hX3; (try replace E := E.ext hx); (try replace hM := hM.ext hx); (try (clear hcE hfE)); (try (have hcf := bcell E.low; obtain ⟨hcE, hfE⟩ := hcf)); (try (have c3 := b3.cell; have f3 := b3.free))) | ((with_reducible refine at_dst 7 ?_); go_simp; (have hu : UAt w wn X3 X4 [] (0, 0) := ⟨E, ⟨[], none, 0, rfl, b3, OwnR.nil w wn 57 6 syC, (fun x hx => by cases hx)⟩, hM, zm, (fun x hx => by cases hx)⟩); ((with_reducible refine (sustatements_any _ _ l hu hl hok hfl (Nat.lt_succ_self _) hw).mono ?_)); unfold UPostE; rintro e wn ⟨rfl, p1, hu2, hF⟩; clear hu b3 E hM c3 f3 hcE hfE; obtain ⟨E, ⟨xs, sa, sc, hU, b3, hr, hP⟩, hM, -, -⟩ := hu2; have c3 := b3.cell; replace hU := Lib.hid hU) | ((with_reducible refine at_store 3 ?_); (refine wp_put b3 rfl rfl ?_ ?_ ?_ ?_; (· kernel_rfl); (· first | rfl | kernel_rfl); (· first | decide | exact Nat.le_refl _ | simp [Act.eval, Value.cells] | (simp [Act.eval, Act.put, Value.cells]; done)); intro wn bn hb; have E2 := E.put b3 hb; (first | (replace hM := hM.butB hb b3.blk) | (replace hM := hM.but0 hb mhM_3) | skip); clear E b3; have E := E2; clear E2; have b3 := bn; clear bn hb; dsimp only [Act.put]; simp only [putA, Act.eval, Value.cells, Nat.reduceAdd, putL, sizL] at b3; (try (clear hcE hfE)); (try (have hcf := bcell E.low; obtain ⟨hcE, hfE⟩ := hcf)); (try (clear c3 f3)); (try (have c3 := b3.cell; have f3 := b3.free)))))
  go_ret
  exact ⟨sa, sc, xs, rfl, hU.out, ⟨hr.rsy, fun x hx => (hP x hx).reads strC_l⟩, E.low⟩
/-! ### what fits -/
structure FS where
  seen : Bool
  same : Bool
  perms : List ByteArray
def fitStep (x : PS) (s : FS) (y : PS) : FS :=
  if spC y.kind ≠ spC x.kind ∨ y.name ≠ x.name then s
  else if y.kind = x.kind ∨ x.kind = 0 then ⟨true, true, s.perms ++ y.perms⟩ else ⟨true, s.same, s.perms⟩
def fitEnd (x : PS) (s : FS) : Int × ByteArray :=
  if s.seen = false then (14, x.name) else if s.same = false then (13, x.name)
  else match x.perms.find? (fun q => decide (¬ q ∈ s.perms)) with
    | some q => (21, q)
    | none => (0, ⟨#[]⟩)
def fitsC (x : PS) (vis : List PS) : Int × ByteArray := fitEnd x (vis.foldl (fitStep x) ⟨false, false, []⟩)
theorem fold_take {α β : Type} (f : β → α → β) (b : β) {l : List α} {j : Nat} {y : α} (h : l[j]? = some y) : (l.take (j + 1)).foldl f b = f ((l.take j).foldl f b) y := by
  rw [take_at h, List.foldl_append]; rfl
theorem fitStep_len (x : PS) (s : FS) (y : PS) : (fitStep x s y).perms.length ≤ s.perms.length + y.perms.length := by
  unfold fitStep
  split
  · omega
  · split
    · simp
    · dsimp only; omega
theorem fit_len (x : PS) : ∀ (l : List PS) (s : FS), (l.foldl (fitStep x) s).perms.length ≤ s.perms.length + wtU l
  | [], s => by simp [wtU]
  | y :: l, s => by
    have h1 := fit_len x l (fitStep x s y)
    have h2 := fitStep_len x s y
    have h3 : wtU (y :: l) = (1 + y.perms.length) + wtU l := by simp [wtU]
    rw [List.foldl_cons, h3]; omega
theorem wtU_take (l : List PS) (j : Nat) : wtU (l.take j) ≤ wtU l := by
  have := congrArg wtU (List.take_append_drop j l)
  rw [wtU_app] at this; omega
def SIPost (r : Int × ByteArray) (w : World) (e : Ending) (w' : World) : Prop := e = .returned (.tuple #[.int .i64 r.1, .string r.2]) ∧ Ext w w'
theorem sipost {r : Int × ByteArray} {i : Int} {s : ByteArray} {w w' : World} (h : r = (i, s)) (hx : Ext w w') : SIPost r w (.returned (.tuple #[.int .i64 i, .string s])) w' := by subst h; exact ⟨rfl, hx⟩
theorem map_at {α β : Type} {f : α → β} {l : List α} {j : Nat} {y : α} (h : l[j]? = some y) : (l.map f)[j]? = some (f y) := by rw [List.getElem?_map, h]; rfl
theorem find_none {q : ByteArray → Bool} {l : List ByteArray} (h : ∀ k (_ : k < l.length) (hk : k < l.length), ¬ q l[k] = true) : l.find? q = none := by
  rw [List.find?_eq_none]
  intro x hx
  obtain ⟨k, hk, rfl⟩ := List.getElem_of_mem hx
  exact h k hk hk
theorem find_first {q : ByteArray → Bool} : ∀ {l : List ByteArray} {j : Nat} (hj : j < l.length), (∀ k (_ : k < j) (hk : k < l.length), ¬ q l[k] = true) → q l[j] = true → l.find? q = some l[j]
  | x :: l, 0, _, _, h => by rw [List.find?_cons_of_pos (by simpa using h)]; rfl
  | x :: l, j + 1, hj, hn, h => by
    have h0 := hn 0 (by omega) (by simp)
    rw [List.find?_cons_of_neg (by simpa using h0)]
    exact find_first (l := l) (j := j) (by simpa using hj) (fun k hk hk2 => by
      have := hn (k + 1) (by omega) (by simpa using hk2)
      simpa using this) (by simpa using h)
set_option maxHeartbeats 8000000 in
set_option maxRecDepth 100000 in
theorem fits_any {w : World} {a : Option Addr} {n c : Nat} {vs : List Sy} (hv : Syms w (.slice a n c) vs) (x : Sy) (hx : Reads w (.slice x.hp.a x.perms.length x.hp.c) x.perms) (hw : wtU (vs.map Sy.ps) ≤ 1900000000000) :
    Calls Try.prog 36 #[.agg (syC x).toArray, .slice a n c] w (SIPost (fitsC x.ps (vs.map Sy.ps)) w) := by
  have hxp := hx
  clear hx
  obtain ⟨rfl, n2⟩ := hv.lens
  have n3 := (Reads.lens hxp).2
  obtain ⟨R, hR⟩ : ∃ R, fitsC x.ps (vs.map Sy.ps) = R := ⟨_, rfl⟩
  rw [hR]
  have HR := Lib.hid hR
  clear hR
  go_enter Try.func36, Try.ntmps36
  have E := Only.refl [] w
  go_upto_region 4 with (first | ((with_reducible refine at_dst 2 ?_); go_simp; (generalize hX2 : Array.size (World.heap _) = X2); refine new_block hX2 ?_; intro wn bb hx; (try (have z2 := Nat.le_trans E.size (Nat.le_of_eq hX2))); have b2 := Loc.new bb E hX2; clear bb hX2; (try replace E := E.ext hx); (try (have hcf := bcell E.low; obtain ⟨hcE, hfE⟩ := hcf)); (try (have c2 := b2.cell; have f2 := b2.free))))
  have r0 := OwnR.nil w wn 9 1 strC
  go_loopw [6, 7, 8, 15] (fun pv se sa i wr => ∃ (j : Nat) (S : FS) (so : Option Addr) (sc : Nat), i = .int .i64 j ∧ j ≤ vs.length ∧ se = .bool S.seen ∧ sa = .bool S.same ∧ pv = .slice so S.perms.length sc ∧ Hid (((vs.map Sy.ps).take j).foldl (fitStep x.ps) ⟨false, false, []⟩ = S) ∧ OwnR w wr 9 1 strC (.slice so S.perms.length sc) S.perms ∧ Only [] w wr ∧ Loc [] w wr X2 57 (syC x).toArray) (fun _ _ _ i _ => vs.length - (intOf i).toNat)
  case atStart => exact ⟨0, ⟨false, false, []⟩, none, 0, rfl, Nat.zero_le _, rfl, rfl, rfl, rfl, r0, E, b2⟩
  case round =>
    clear r0 E b2 c2 f2 hcE hfE
    obtain ⟨j, S, so, sc, rfl, hj, rfl, rfl, rfl, HS, r0, E, b2⟩ := hrel
    have c2 := b2.cell
    have f2 := b2.free
    obtain ⟨hcE, hfE⟩ := bcell E.low
    have hSl : S.perms.length ≤ 1900000000000 := by
      have h1 := fit_len x.ps ((vs.map Sy.ps).take j) ⟨false, false, []⟩
      have h2 := wtU_take (vs.map Sy.ps) j
      rw [HS.out] at h1
      dsimp only [List.length_nil] at h1
      omega
    by_cases hlt : j < vs.length
    · obtain ⟨y, hy⟩ := at_some hlt
      have hym : y ∈ vs := List.mem_of_getElem? hy
      have hyl : y.perms.length ≤ 1900000000000 := by
        have := wtU_mem (List.mem_map_of_mem (f := Sy.ps) hym)
        dsimp only [Sy.ps] at this
        omega
      have HY := Lib.hid hy
      obtain ⟨g, o, rfl, hg, -⟩ := hv.at hy
      have hvc := hv.row
      have hs := fold_take (fitStep x.ps) ⟨false, false, []⟩ (map_at (f := Sy.ps) hy)
      rw [HS.out] at hs
      rw [show fitStep x.ps S y.ps = (if spC y.kind ≠ spC x.kind ∨ y.name ≠ x.name then S else if y.kind = x.kind ∨ x.kind = 0 then ⟨true, true, S.perms ++ y.perms⟩ else ⟨true, S.same, S.perms⟩) from rfl] at hs
      clear hy
      by_cases h1 : spC y.kind = spC x.kind
      · by_cases h2 : y.name = x.name
        · rw [if_neg (by rintro (h | h); exact h h1; exact h h2)] at hs
          obtain ⟨g1, g2⟩ := kd_t h1
          have g3 := txt_t h2
          have H1 := Lib.hid h1
          have H2 := Lib.hid h2
          clear h1 h2
          by_cases h3 : y.kind = x.kind
          · rw [if_pos (.inl h3)] at hs
            obtain ⟨g4, g5⟩ := kd_t h3
            have HS2 := Lib.hid hs
            have H3 := Lib.hid h3
            clear h3 hs
            go_upto_region 9999 with (first | ((with_reducible refine at_dst 18 ?_); (refine wp_rec2 ((hvc.ext E.low)) (HY.out) syC_len rfl rfl ?_ ?_ ?_); (· kernel_rfl); (· kernel_rfl)) | ((with_reducible refine at_dst 10 ?_); go_simp; (generalize hX10 : Array.size (World.heap _) = X10); refine new_block hX10 ?_; intro wn bb hx; (try (have n2_10 := (b2.ne hX10).1; have n10_2 := (b2.ne hX10).2)); (try (have z10 := Nat.le_trans E.size (Nat.le_of_eq hX10))); (try (have mr0_10 := r0.notin (Nat.le_of_eq hX10))); have b10 := Loc.new bb E hX10; clear bb hX10; (try replace E := E.ext hx); (try replace b2 := b2.ext hx); (try replace r0 := r0.ext hx); (try (clear hcE hfE)); (try (have hcf := bcell E.low; obtain ⟨hcE, hfE⟩ := hcf)); (try (clear c2 f2)); (try (have c2 := b2.cell; have f2 := b2.free)); (try (have c10 := b10.cell; have f10 := b10.free))) | ((with_reducible refine at_dst 21 ?_); go_simp; ((with_reducible refine (space_any _ _).mono ?_)); unfold IPost; rintro e wn ⟨rfl, hx⟩; (try replace E := E.ext hx); (try replace b2 := b2.ext hx); (try replace b10 := b10.ext hx); (try replace r0 := r0.ext hx); (try (clear hcE hfE)); (try (have hcf := bcell E.low; obtain ⟨hcE, hfE⟩ := hcf)); (try (clear c2 f2)); (try (have c2 := b2.cell; have f2 := b2.free)); (try (clear c10 f10)); (try (have c10 := b10.cell; have f10 := b10.free))) | ((with_reducible refine at_dst 24 ?_); go_simp; ((with_reducible refine (space_any _ _).mono ?_)); unfold IPost; rintro e wn ⟨rfl, hx⟩; (try replace E := E.ext hx); (try replace b2 := b2.ext hx); (try replace b10 := b10.ext hx); (try replace r0 := r0.ext hx); (try (clear hcE hfE)); (try (have hcf := bcell E.low; obtain ⟨hcE, hfE⟩ := hcf)); (try (clear c2 f2)); (try (have c2 := b2.cell; have f2 := b2.free)); (try (clear c10 f10)); (try (have c10 := b10.cell; have f10 := b10.free))) | ((with_reducible refine at_dst 46 ?_); refine wp_own (.tmp 43) (.tmp 45) rfl info_str und_strs rfl (by decide) strC_l strC_one r0 E ((hv.perms y hym).ext E.low) rfl rfl ?_ ?_ ?_; (· ((try unfold maxLen); omega)); (· (omega)); intro L46 hL46 s46 v46 wn r1 E2 hA; replace hL46 := Lib.hid hL46; (try replace b2 := b2.grow r0 hA (of_decide_eq_true rfl)); (try replace b10 := b10.grow r0 hA (of_decide_eq_true rfl)); clear E; have E := E2; clear E2; obtain ⟨o46, k46, rfl, l46, m46⟩ := ORow.len r1.row; (try (clear hcE hfE)); (try (have hcf := bcell E.low; obtain ⟨hcE, hfE⟩ := hcf)); (try (clear c2 f2)); (try (have c2 := b2.cell; have f2 := b2.free)); (try (clear c10 f10)); (try (have c10 := b10.cell; have f10 := b10.free)); (try simp only [Act.put, actL])) | ((with_reducible refine at_store 10 ?_); (refine wp_put b10 rfl rfl ?_ ?_ ?_ ?_; (· kernel_rfl); (· first | rfl | kernel_rfl); (· first | decide | exact Nat.le_refl _ | simp [Act.eval, Value.cells] | (simp [Act.eval, Act.put, Value.cells]; done)); intro wn bn hb; have E2 := E.put b10 hb; (try replace b2 := b2.but hb n2_10); (first | (replace r0 := r0.but hb b10.blk (of_decide_eq_true rfl)) | (replace r0 := r0.but0 hb mr0_10) | skip); clear E b10; have E := E2; clear E2; have b10 := bn; clear bn hb; dsimp only [Act.put]; simp only [putA, Act.eval, Value.cells, Nat.reduceAdd, putL, sizL] at b10; (try (clear hcE hfE)); (try (have hcf := bcell E.low; obtain ⟨hcE, hfE⟩ := hcf)); (try (clear c2 f2)); (try (have c2 := b2.cell; have f2 := b2.free)); (try (clear c10 f10)); (try (have c10 := b10.cell; have f10 := b10.free)))) | ((with_reducible refine at_reg 6 ?_); (refine wp_region_s (id := 6) [2, 2, 2, 2, 3, 3, 2, 0, 2, 2, 2, 2, 2, 2] [0, 1, 3, 4, 2, 5, 6, 7, 8, 9, 10, 11, 12, 13] mixed ?_ ?_); (· decide +kernel); intro K hK wn hx; (try replace E := E.ext hx); (try replace b2 := b2.ext hx); (try replace b10 := b10.ext hx); (try replace r0 := r0.ext hx); (try (clear hcE hfE)); (try (have hcf := bcell E.low; obtain ⟨hcE, hfE⟩ := hcf)); (try (clear c2 f2)); (try (have c2 := b2.cell; have f2 := b2.free)); (try (clear c10 f10)); (try (have c10 := b10.cell; have f10 := b10.free)); dsimp only [pickL, List.getElem?_cons_succ, List.getElem?_cons_zero]) | ((with_reducible refine at_tag 0 ?_); (first | ((with_reducible refine wpTag_q ?_ ?_ ?_); rfl; rfl; intro _ _) | ((with_reducible refine wpTag_w ?_ ?_ ?_); rfl; rfl; intro _ _) | ((with_reducible refine wpTag_no ?_ ?_); (· first | rfl | (go_simp; done))) | ((with_reducible refine wpTag_s ?_ ?_); rfl; intro _ _; go_simp))) | ((with_reducible refine at_tag 2 ?_); (first | ((with_reducible refine wpTag_no ?_ ?_); (· first | rfl | (go_simp; done))) | (apply wpTag_2; (· rfl); (· first | rfl | go_simp); (· intro wq hq; (try (have hcf := bcell (E.ext hq).low; obtain ⟨hcE, hfE⟩ := hcf)); (try (have c2 := (b2.ext hq).cell; have f2 := (b2.ext hq).free)); (try (have c10 := (b10.ext hq).cell; have f10 := (b10.ext hq).free)); go_simp <;> rfl); (try simp only [Act.put, actL])))) | ((with_reducible refine at_tag 3 ?_); (first | ((with_reducible refine wpTag_no ?_ ?_); (· first | rfl | (go_simp; done))) | ((refine wpTag_3 ?_ ?_ (fun K2 hK2 => ?_)); (· rfl); (· first | rfl | go_simp)))) | ((with_reducible refine at_and ?_ ?_); (· first | exact hx | exact Ext.refl _)) | ((with_reducible refine at_tagn ?_); (with_reducible refine wpTag_nil ?_)))
            go_roundw
            case rel => exact ⟨j + 1, ⟨true, true, L46⟩, _, _, by go_num, by omega, rfl, rfl, rfl, by rw [← hL46.out]; exact HS2.out, r1, E, b2⟩
            case measure => simp [intOf]; omega
          · by_cases h4 : x.kind = 0
            · rw [if_pos (.inr h4)] at hs
              obtain ⟨g4, g5⟩ := kd_f h3
              obtain ⟨g6, g7⟩ := kd_t h4
              have HS2 := Lib.hid hs
              have H3 := Lib.hid h3
              have H4 := Lib.hid h4
              clear h3 hs h4
              go_upto_region 9999 with (first | ((with_reducible refine at_dst 18 ?_); (refine wp_rec2 ((hvc.ext E.low)) (HY.out) syC_len rfl rfl ?_ ?_ ?_); (· kernel_rfl); (· kernel_rfl)) | ((with_reducible refine at_dst 10 ?_); go_simp; (generalize hX10 : Array.size (World.heap _) = X10); refine new_block hX10 ?_; intro wn bb hx; (try (have n2_10 := (b2.ne hX10).1; have n10_2 := (b2.ne hX10).2)); (try (have z10 := Nat.le_trans E.size (Nat.le_of_eq hX10))); (try (have mr0_10 := r0.notin (Nat.le_of_eq hX10))); have b10 := Loc.new bb E hX10; clear bb hX10; (try replace E := E.ext hx); (try replace b2 := b2.ext hx); (try replace r0 := r0.ext hx); (try (clear hcE hfE)); (try (have hcf := bcell E.low; obtain ⟨hcE, hfE⟩ := hcf)); (try (clear c2 f2)); (try (have c2 := b2.cell; have f2 := b2.free)); (try (have c10 := b10.cell; have f10 := b10.free))) | ((with_reducible refine at_dst 21 ?_); go_simp; ((with_reducible refine (space_any _ _).mono ?_)); unfold IPost; rintro e wn ⟨rfl, hx⟩; (try replace E := E.ext hx); (try replace b2 := b2.ext hx); (try replace b10 := b10.ext hx); (try replace r0 := r0.ext hx); (try (clear hcE hfE)); (try (have hcf := bcell E.low; obtain ⟨hcE, hfE⟩ := hcf)); (try (clear c2 f2)); (try (have c2 := b2.cell; have f2 := b2.free)); (try (clear c10 f10)); (try (have c10 := b10.cell; have f10 := b10.free))) | ((with_reducible refine at_dst 24 ?_); go_simp; ((with_reducible refine (space_any _ _).mono ?_)); unfold IPost; rintro e wn ⟨rfl, hx⟩; (try replace E := E.ext hx); (try replace b2 := b2.ext hx); (try replace b10 := b10.ext hx); (try replace r0 := r0.ext hx); (try (clear hcE hfE)); (try (have hcf := bcell E.low; obtain ⟨hcE, hfE⟩ := hcf)); (try (clear c2 f2)); (try (have c2 := b2.cell; have f2 := b2.free)); (try (clear c10 f10)); (try (have c10 := b10.cell; have f10 := b10.free))) | ((with_reducible refine at_dst 46 ?_); refine wp_own (.tmp 43) (.tmp 45) rfl info_str und_strs rfl (by decide) strC_l strC_one r0 E ((hv.perms y hym).ext E.low) rfl rfl ?_ ?_ ?_; (· ((try unfold maxLen); omega)); (· (omega)); intro L46 hL46 s46 v46 wn r1 E2 hA; replace hL46 := Lib.hid hL46; (try replace b2 := b2.grow r0 hA (of_decide_eq_true rfl)); (try replace b10 := b10.grow r0 hA (of_decide_eq_true rfl)); clear E; have E := E2; clear E2; obtain ⟨o46, k46, rfl, l46, m46⟩ := ORow.len r1.row; (try (clear hcE hfE)); (try (have hcf := bcell E.low; obtain ⟨hcE, hfE⟩ := hcf)); (try (clear c2 f2)); (try (have c2 := b2.cell; have f2 := b2.free)); (try (clear c10 f10)); (try (have c10 := b10.cell; have f10 := b10.free)); (try simp only [Act.put, actL])) | ((with_reducible refine at_store 10 ?_); (refine wp_put b10 rfl rfl ?_ ?_ ?_ ?_; (· kernel_rfl); (· first | rfl | kernel_rfl); (· first | decide | exact Nat.le_refl _ | simp [Act.eval, Value.cells] | (simp [Act.eval, Act.put, Value.cells]; done)); intro wn bn hb; have E2 := E.put b10 hb; (try replace b2 := b2.but hb n2_10); (first | (replace r0 := r0.but hb b10.blk (of_decide_eq_true rfl)) | (replace r0 := r0.but0 hb mr0_10) | skip); clear E b10; have E := E2; clear E2; have b10 := bn; clear bn hb; dsimp only [Act.put]; simp only [putA, Act.eval, Value.cells, Nat.reduceAdd, putL, sizL] at b10; (try (clear hcE hfE)); (try (have hcf := bcell E.low; obtain ⟨hcE, hfE⟩ := hcf)); (try (clear c2 f2)); (try (have c2 := b2.cell; have f2 := b2.free)); (try (clear c10 f10)); (try (have c10 := b10.cell; have f10 := b10.free)))) | ((with_reducible refine at_reg 6 ?_); (refine wp_region_s (id := 6) [2, 2, 2, 2, 3, 3, 2, 0, 2, 2, 2, 2, 2, 2] [0, 1, 3, 4, 2, 5, 6, 7, 8, 9, 10, 11, 12, 13] mixed ?_ ?_); (· decide +kernel); intro K hK wn hx; (try replace E := E.ext hx); (try replace b2 := b2.ext hx); (try replace b10 := b10.ext hx); (try replace r0 := r0.ext hx); (try (clear hcE hfE)); (try (have hcf := bcell E.low; obtain ⟨hcE, hfE⟩ := hcf)); (try (clear c2 f2)); (try (have c2 := b2.cell; have f2 := b2.free)); (try (clear c10 f10)); (try (have c10 := b10.cell; have f10 := b10.free)); dsimp only [pickL, List.getElem?_cons_succ, List.getElem?_cons_zero]) | ((with_reducible refine at_tag 0 ?_); (first | ((with_reducible refine wpTag_q ?_ ?_ ?_); rfl; rfl; intro _ _) | ((with_reducible refine wpTag_w ?_ ?_ ?_); rfl; rfl; intro _ _) | ((with_reducible refine wpTag_no ?_ ?_); (· first | rfl | (go_simp; done))) | ((with_reducible refine wpTag_s ?_ ?_); rfl; intro _ _; go_simp))) | ((with_reducible refine at_tag 2 ?_); (first | ((with_reducible refine wpTag_no ?_ ?_); (· first | rfl | (go_simp; done))) | (apply wpTag_2; (· rfl); (· first | rfl | go_simp); (· intro wq hq; (try (have hcf := bcell (E.ext hq).low; obtain ⟨hcE, hfE⟩ := hcf)); (try (have c2 := (b2.ext hq).cell; have f2 := (b2.ext hq).free)); (try (have c10 := (b10.ext hq).cell; have f10 := (b10.ext hq).free)); go_simp <;> rfl); (try simp only [Act.put, actL])))) | ((with_reducible refine at_tag 3 ?_); (first | ((with_reducible refine wpTag_no ?_ ?_); (· first | rfl | (go_simp; done))) | ((refine wpTag_3 ?_ ?_ (fun K2 hK2 => ?_)); (· rfl); (· first | rfl | go_simp)))) | ((with_reducible refine at_and ?_ ?_); (· first | exact hx | exact Ext.refl _)) | ((with_reducible refine at_tagn ?_); (with_reducible refine wpTag_nil ?_)))
              go_roundw
              case rel => exact ⟨j + 1, ⟨true, true, L46⟩, _, _, by go_num, by omega, rfl, rfl, rfl, by rw [← hL46.out]; exact HS2.out, r1, E, b2⟩
              case measure => simp [intOf]; omega
            · rw [if_neg (by omega)] at hs
              obtain ⟨g4, g5⟩ := kd_f h3
              obtain ⟨g6, g7⟩ := kd_f h4
              have HS2 := Lib.hid hs
              have H3 := Lib.hid h3
              have H4 := Lib.hid h4
              clear h3 hs h4
              go_upto_region 9999 with (first | ((with_reducible refine at_dst 18 ?_); (refine wp_rec2 ((hvc.ext E.low)) (HY.out) syC_len rfl rfl ?_ ?_ ?_); (· kernel_rfl); (· kernel_rfl)) | ((with_reducible refine at_dst 10 ?_); go_simp; (generalize hX10 : Array.size (World.heap _) = X10); refine new_block hX10 ?_; intro wn bb hx; (try (have n2_10 := (b2.ne hX10).1; have n10_2 := (b2.ne hX10).2)); (try (have z10 := Nat.le_trans E.size (Nat.le_of_eq hX10))); (try (have mr0_10 := r0.notin (Nat.le_of_eq hX10))); have b10 := Loc.new bb E hX10; clear bb hX10; (try replace E := E.ext hx); (try replace b2 := b2.ext hx); (try replace r0 := r0.ext hx); (try (clear hcE hfE)); (try (have hcf := bcell E.low; obtain ⟨hcE, hfE⟩ := hcf)); (try (clear c2 f2)); (try (have c2 := b2.cell; have f2 := b2.free)); (try (have c10 := b10.cell; have f10 := b10.free))) | ((with_reducible refine at_dst 21 ?_); go_simp; ((with_reducible refine (space_any _ _).mono ?_)); unfold IPost; rintro e wn ⟨rfl, hx⟩; (try replace E := E.ext hx); (try replace b2 := b2.ext hx); (try replace b10 := b10.ext hx); (try replace r0 := r0.ext hx); (try (clear hcE hfE)); (try (have hcf := bcell E.low; obtain ⟨hcE, hfE⟩ := hcf)); (try (clear c2 f2)); (try (have c2 := b2.cell; have f2 := b2.free)); (try (clear c10 f10)); (try (have c10 := b10.cell; have f10 := b10.free))) | ((with_reducible refine at_dst 24 ?_); go_simp; ((with_reducible refine (space_any _ _).mono ?_)); unfold IPost; rintro e wn ⟨rfl, hx⟩; (try replace E := E.ext hx); (try replace b2 := b2.ext hx); (try replace b10 := b10.ext hx); (try replace r0 := r0.ext hx); (try (clear hcE hfE)); (try (have hcf := bcell E.low; obtain ⟨hcE, hfE⟩ := hcf)); (try (clear c2 f2)); (try (have c2 := b2.cell; have f2 := b2.free)); (try (clear c10 f10)); (try (have c10 := b10.cell; have f10 := b10.free))) | ((with_reducible refine at_store 10 ?_); (refine wp_put b10 rfl rfl ?_ ?_ ?_ ?_; (· kernel_rfl); (· first | rfl | kernel_rfl); (· first | decide | exact Nat.le_refl _ | simp [Act.eval, Value.cells] | (simp [Act.eval, Act.put, Value.cells]; done)); intro wn bn hb; have E2 := E.put b10 hb; (try replace b2 := b2.but hb n2_10); (first | (replace r0 := r0.but hb b10.blk (of_decide_eq_true rfl)) | (replace r0 := r0.but0 hb mr0_10) | skip); clear E b10; have E := E2; clear E2; have b10 := bn; clear bn hb; dsimp only [Act.put]; simp only [putA, Act.eval, Value.cells, Nat.reduceAdd, putL, sizL] at b10; (try (clear hcE hfE)); (try (have hcf := bcell E.low; obtain ⟨hcE, hfE⟩ := hcf)); (try (clear c2 f2)); (try (have c2 := b2.cell; have f2 := b2.free)); (try (clear c10 f10)); (try (have c10 := b10.cell; have f10 := b10.free)))) | ((with_reducible refine at_reg 6 ?_); (refine wp_region_s (id := 6) [2, 2, 2, 2, 3, 3, 2, 0, 2, 2, 2, 2, 2, 2] [0, 1, 3, 4, 2, 5, 6, 7, 8, 9, 10, 11, 12, 13] mixed ?_ ?_); (· decide +kernel); intro K hK wn hx; (try replace E := E.ext hx); (try replace b2 := b2.ext hx); (try replace b10 := b10.ext hx); (try replace r0 := r0.ext hx); (try (clear hcE hfE)); (try (have hcf := bcell E.low; obtain ⟨hcE, hfE⟩ := hcf)); (try (clear c2 f2)); (try (have c2 := b2.cell; have f2 := b2.free)); (try (clear c10 f10)); (try (have c10 := b10.cell; have f10 := b10.free)); dsimp only [pickL, List.getElem?_cons_succ, List.getElem?_cons_zero]) | ((with_reducible refine at_tag 0 ?_); (first | ((with_reducible refine wpTag_q ?_ ?_ ?_); rfl; rfl; intro _ _) | ((with_reducible refine wpTag_w ?_ ?_ ?_); rfl; rfl; intro _ _) | ((with_reducible refine wpTag_no ?_ ?_); (· first | rfl | (go_simp; done))) | ((with_reducible refine wpTag_s ?_ ?_); rfl; intro _ _; go_simp))) | ((with_reducible refine at_tag 2 ?_); (first | ((with_reducible refine wpTag_no ?_ ?_); (· first | rfl | (go_simp; done))) | (apply wpTag_2; (· rfl); (· first | rfl | go_simp); (· intro wq hq; (try (have hcf := bcell (E.ext hq).low; obtain ⟨hcE, hfE⟩ := hcf)); (try (have c2 := (b2.ext hq).cell; have f2 := (b2.ext hq).free)); (try (have c10 := (b10.ext hq).cell; have f10 := (b10.ext hq).free)); go_simp <;> rfl); (try simp only [Act.put, actL])))) | ((with_reducible refine at_tag 3 ?_); (first | ((with_reducible refine wpTag_no ?_ ?_); (· first | rfl | (go_simp; done))) | ((refine wpTag_3 ?_ ?_ (fun K2 hK2 => ?_)); (· rfl); (· first | rfl | go_simp)))) | ((with_reducible refine at_and ?_ ?_); (· first | exact hx | exact Ext.refl _)) | ((with_reducible refine at_tagn ?_); (with_reducible refine wpTag_nil ?_)))
              go_roundw
              case rel => exact ⟨j + 1, ⟨true, S.same, S.perms⟩, _, _, by go_num, by omega, rfl, rfl, rfl, HS2.out, r0, E, b2⟩
              case measure => simp [intOf]; omega
        · rw [if_pos (.inr h2)] at hs
          obtain ⟨g1, g2⟩ := kd_t h1
          have g3 := txt_f h2
          have HS2 := Lib.hid hs
          have H1 := Lib.hid h1
          have H2 := Lib.hid h2
          clear h1 h2 hs
          go_upto_region 9999 with (first | ((with_reducible refine at_dst 18 ?_); (refine wp_rec2 ((hvc.ext E.low)) (HY.out) syC_len rfl rfl ?_ ?_ ?_); (· kernel_rfl); (· kernel_rfl)) | ((with_reducible refine at_dst 10 ?_); go_simp; (generalize hX10 : Array.size (World.heap _) = X10); refine new_block hX10 ?_; intro wn bb hx; (try (have n2_10 := (b2.ne hX10).1; have n10_2 := (b2.ne hX10).2)); (try (have z10 := Nat.le_trans E.size (Nat.le_of_eq hX10))); (try (have mr0_10 := r0.notin (Nat.le_of_eq hX10))); have b10 := Loc.new bb E hX10; clear bb hX10; (try replace E := E.ext hx); (try replace b2 := b2.ext hx); (try replace r0 := r0.ext hx); (try (clear hcE hfE)); (try (have hcf := bcell E.low; obtain ⟨hcE, hfE⟩ := hcf)); (try (clear c2 f2)); (try (have c2 := b2.cell; have f2 := b2.free)); (try (have c10 := b10.cell; have f10 := b10.free))) | ((with_reducible refine at_dst 21 ?_); go_simp; ((with_reducible refine (space_any _ _).mono ?_)); unfold IPost; rintro e wn ⟨rfl, hx⟩; (try replace E := E.ext hx); (try replace b2 := b2.ext hx); (try replace b10 := b10.ext hx); (try replace r0 := r0.ext hx); (try (clear hcE hfE)); (try (have hcf := bcell E.low; obtain ⟨hcE, hfE⟩ := hcf)); (try (clear c2 f2)); (try (have c2 := b2.cell; have f2 := b2.free)); (try (clear c10 f10)); (try (have c10 := b10.cell; have f10 := b10.free))) | ((with_reducible refine at_dst 24 ?_); go_simp; ((with_reducible refine (space_any _ _).mono ?_)); unfold IPost; rintro e wn ⟨rfl, hx⟩; (try replace E := E.ext hx); (try replace b2 := b2.ext hx); (try replace b10 := b10.ext hx); (try replace r0 := r0.ext hx); (try (clear hcE hfE)); (try (have hcf := bcell E.low; obtain ⟨hcE, hfE⟩ := hcf)); (try (clear c2 f2)); (try (have c2 := b2.cell; have f2 := b2.free)); (try (clear c10 f10)); (try (have c10 := b10.cell; have f10 := b10.free))) | ((with_reducible refine at_store 10 ?_); (refine wp_put b10 rfl rfl ?_ ?_ ?_ ?_; (· kernel_rfl); (· first | rfl | kernel_rfl); (· first | decide | exact Nat.le_refl _ | simp [Act.eval, Value.cells] | (simp [Act.eval, Act.put, Value.cells]; done)); intro wn bn hb; have E2 := E.put b10 hb; (try replace b2 := b2.but hb n2_10); (first | (replace r0 := r0.but hb b10.blk (of_decide_eq_true rfl)) | (replace r0 := r0.but0 hb mr0_10) | skip); clear E b10; have E := E2; clear E2; have b10 := bn; clear bn hb; dsimp only [Act.put]; simp only [putA, Act.eval, Value.cells, Nat.reduceAdd, putL, sizL] at b10; (try (clear hcE hfE)); (try (have hcf := bcell E.low; obtain ⟨hcE, hfE⟩ := hcf)); (try (clear c2 f2)); (try (have c2 := b2.cell; have f2 := b2.free)); (try (clear c10 f10)); (try (have c10 := b10.cell; have f10 := b10.free)))) | ((with_reducible refine at_reg 6 ?_); (refine wp_region_s (id := 6) [2, 2, 2, 2, 3, 3, 2, 0, 2, 2, 2, 2, 2, 2] [0, 1, 3, 4, 2, 5, 6, 7, 8, 9, 10, 11, 12, 13] mixed ?_ ?_); (· decide +kernel); intro K hK wn hx; (try replace E := E.ext hx); (try replace b2 := b2.ext hx); (try replace b10 := b10.ext hx); (try replace r0 := r0.ext hx); (try (clear hcE hfE)); (try (have hcf := bcell E.low; obtain ⟨hcE, hfE⟩ := hcf)); (try (clear c2 f2)); (try (have c2 := b2.cell; have f2 := b2.free)); (try (clear c10 f10)); (try (have c10 := b10.cell; have f10 := b10.free)); dsimp only [pickL, List.getElem?_cons_succ, List.getElem?_cons_zero]) | ((with_reducible refine at_tag 0 ?_); (first | ((with_reducible refine wpTag_q ?_ ?_ ?_); rfl; rfl; intro _ _) | ((with_reducible refine wpTag_w ?_ ?_ ?_); rfl; rfl; intro _ _) | ((with_reducible refine wpTag_no ?_ ?_); (· first | rfl | (go_simp; done))) | ((with_reducible refine wpTag_s ?_ ?_); rfl; intro _ _; go_simp))) | ((with_reducible refine at_tag 2 ?_); (first | ((with_reducible refine wpTag_no ?_ ?_); (· first | rfl | (go_simp; done))) | (apply wpTag_2; (· rfl); (· first | rfl | go_simp); (· intro wq hq; (try (have hcf := bcell (E.ext hq).low; obtain ⟨hcE, hfE⟩ := hcf)); (try (have c2 := (b2.ext hq).cell; have f2 := (b2.ext hq).free)); (try (have c10 := (b10.ext hq).cell; have f10 := (b10.ext hq).free)); go_simp <;> rfl); (try simp only [Act.put, actL])))) | ((with_reducible refine at_tag 3 ?_); (first | ((with_reducible refine wpTag_no ?_ ?_); (· first | rfl | (go_simp; done))) | ((refine wpTag_3 ?_ ?_ (fun K2 hK2 => ?_)); (· rfl); (· first | rfl | go_simp)))) | ((with_reducible refine at_and ?_ ?_); (· first | exact hx | exact Ext.refl _)) | ((with_reducible refine at_tagn ?_); (with_reducible refine wpTag_nil ?_)))
          go_roundw
          case rel => exact ⟨j + 1, S, _, _, by go_num, by omega, rfl, rfl, rfl, HS2.out, r0, E, b2⟩
          case measure => simp [intOf]; omega
      · rw [if_pos (.inl h1)] at hs
        obtain ⟨g1, g2⟩ := kd_f h1
        have HS2 := Lib.hid hs
        have H1 := Lib.hid h1
        clear h1 hs
        go_upto_region 9999 with (first | ((with_reducible refine at_dst 18 ?_); (refine wp_rec2 ((hvc.ext E.low)) (HY.out) syC_len rfl rfl ?_ ?_ ?_); (· kernel_rfl); (· kernel_rfl)) | ((with_reducible refine at_dst 10 ?_); go_simp; (generalize hX10 : Array.size (World.heap _) = X10); refine new_block hX10 ?_; intro wn bb hx; (try (have n2_10 := (b2.ne hX10).1; have n10_2 := (b2.ne hX10).2)); (try (have z10 := Nat.le_trans E.size (Nat.le_of_eq hX10))); (try (have mr0_10 := r0.notin (Nat.le_of_eq hX10))); have b10 := Loc.new bb E hX10; clear bb hX10; (try replace E := E.ext hx); (try replace b2 := b2.ext hx); (try replace r0 := r0.ext hx); (try (clear hcE hfE)); (try (have hcf := bcell E.low; obtain ⟨hcE, hfE⟩ := hcf)); (try (clear c2 f2)); (try (have c2 := b2.cell; have f2 := b2.free)); (try (have c10 := b10.cell; have f10 := b10.free))) | ((with_reducible refine at_dst 21 ?_); go_simp; ((with_reducible refine (space_any _ _).mono ?_)); unfold IPost; rintro e wn ⟨rfl, hx⟩; (try replace E := E.ext hx); (try replace b2 := b2.ext hx); (try replace b10 := b10.ext hx); (try replace r0 := r0.ext hx); (try (clear hcE hfE)); (try (have hcf := bcell E.low; obtain ⟨hcE, hfE⟩ := hcf)); (try (clear c2 f2)); (try (have c2 := b2.cell; have f2 := b2.free)); (try (clear c10 f10)); (try (have c10 := b10.cell; have f10 := b10.free))) | ((with_reducible refine at_dst 24 ?_); go_simp; ((with_reducible refine (space_any _ _).mono ?_)); unfold IPost; rintro e wn ⟨rfl, hx⟩; (try replace E := E.ext hx); (try replace b2 := b2.ext hx); (try replace b10 := b10.ext hx); (try replace r0 := r0.ext hx); (try (clear hcE hfE)); (try (have hcf := bcell E.low; obtain ⟨hcE, hfE⟩ := hcf)); (try (clear c2 f2)); (try (have c2 := b2.cell; have f2 := b2.free)); (try (clear c10 f10)); (try (have c10 := b10.cell; have f10 := b10.free))) | ((with_reducible refine at_store 10 ?_); (refine wp_put b10 rfl rfl ?_ ?_ ?_ ?_; (· kernel_rfl); (· first | rfl | kernel_rfl); (· first | decide | exact Nat.le_refl _ | simp [Act.eval, Value.cells] | (simp [Act.eval, Act.put, Value.cells]; done)); intro wn bn hb; have E2 := E.put b10 hb; (try replace b2 := b2.but hb n2_10); (first | (replace r0 := r0.but hb b10.blk (of_decide_eq_true rfl)) | (replace r0 := r0.but0 hb mr0_10) | skip); clear E b10; have E := E2; clear E2; have b10 := bn; clear bn hb; dsimp only [Act.put]; simp only [putA, Act.eval, Value.cells, Nat.reduceAdd, putL, sizL] at b10; (try (clear hcE hfE)); (try (have hcf := bcell E.low; obtain ⟨hcE, hfE⟩ := hcf)); (try (clear c2 f2)); (try (have c2 := b2.cell; have f2 := b2.free)); (try (clear c10 f10)); (try (have c10 := b10.cell; have f10 := b10.free)))) | ((with_reducible refine at_reg 6 ?_); (refine wp_region_s (id := 6) [2, 2, 2, 2, 3, 3, 2, 0, 2, 2, 2, 2, 2, 2] [0, 1, 3, 4, 2, 5, 6, 7, 8, 9, 10, 11, 12, 13] mixed ?_ ?_); (· decide +kernel); intro K hK wn hx; (try replace E := E.ext hx); (try replace b2 := b2.ext hx); (try replace b10 := b10.ext hx); (try replace r0 := r0.ext hx); (try (clear hcE hfE)); (try (have hcf := bcell E.low; obtain ⟨hcE, hfE⟩ := hcf)); (try (clear c2 f2)); (try (have c2 := b2.cell; have f2 := b2.free)); (try (clear c10 f10)); (try (have c10 := b10.cell; have f10 := b10.free)); dsimp only [pickL, List.getElem?_cons_succ, List.getElem?_cons_zero]) | ((with_reducible refine at_tag 0 ?_); (first | ((with_reducible refine wpTag_q ?_ ?_ ?_); rfl; rfl; intro _ _) | ((with_reducible refine wpTag_w ?_ ?_ ?_); rfl; rfl; intro _ _) | ((with_reducible refine wpTag_no ?_ ?_); (· first | rfl | (go_simp; done))) | ((with_reducible refine wpTag_s ?_ ?_); rfl; intro _ _; go_simp))) | ((with_reducible refine at_tag 2 ?_); (first | ((with_reducible refine wpTag_no ?_ ?_); (· first | rfl | (go_simp; done))) | (apply wpTag_2; (· rfl); (· first | rfl | go_simp); (· intro wq hq; (try (have hcf := bcell (E.ext hq).low; obtain ⟨hcE, hfE⟩ := hcf)); (try (have c2 := (b2.ext hq).cell; have f2 := (b2.ext hq).free)); (try (have c10 := (b10.ext hq).cell; have f10 := (b10.ext hq).free)); go_simp <;> rfl); (try simp only [Act.put, actL])))) | ((with_reducible refine at_tag 3 ?_); (first | ((with_reducible refine wpTag_no ?_ ?_); (· first | rfl | (go_simp; done))) | ((refine wpTag_3 ?_ ?_ (fun K2 hK2 => ?_)); (· rfl); (· first | rfl | go_simp)))) | ((with_reducible refine at_and ?_ ?_); (· first | exact hx | exact Ext.refl _)) | ((with_reducible refine at_tagn ?_); (with_reducible refine wpTag_nil ?_)))
        go_roundw
        case rel => exact ⟨j + 1, S, _, _, by go_num, by omega, rfl, rfl, rfl, HS2.out, r0, E, b2⟩
        case measure => simp [intOf]; omega
    · have hT : (vs.map Sy.ps).foldl (fitStep x.ps) ⟨false, false, []⟩ = S := by rw [← HS.out, List.take_of_length_le (by rw [List.length_map]; omega)]
      have HF : Hid (fitEnd x.ps S = R) := by
        have := HR.out
        unfold fitsC at this
        rw [hT] at this; exact this
      clear hT HS HR
      obtain ⟨se, sa, L⟩ := S
      dsimp only at r0 hSl ⊢
      rcases (show se = false ∨ (se = true ∧ sa = false) ∨ (se = true ∧ sa = true) by cases se <;> cases sa <;> simp) with rfl | ⟨rfl, rfl⟩ | ⟨rfl, rfl⟩
      · go_upto_region 9999 with (first | ((with_reducible refine at_reg 13 ?_); (refine wp_region_x (id := 13) (spOf []) [0, 1, 2, 3] [] [] mixed ?_ ?_); (· decide +kernel); intro K ws hx hK; (try replace E := E.ext hx); (try replace b2 := b2.ext hx); (try replace r0 := r0.ext hx); (try (clear hcE hfE)); (try (have hcf := bcell E.low; obtain ⟨hcE, hfE⟩ := hcf)); (try (clear c2 f2)); (try (have c2 := b2.cell; have f2 := b2.free)); dsimp only [pickE, pickL, List.getElem?_cons_succ, List.getElem?_cons_zero] at hK ⊢) | ((with_reducible refine wpE_q ?_ ?_ ?_); rfl; rfl; intro wq hq _ _; (try (clear hcE hfE)); (try (have hcf := bcell (E.ext hq).low; obtain ⟨hcE, hfE⟩ := hcf)); (try (clear c2 f2)); (try (have c2 := (b2.ext hq).cell; have f2 := (b2.ext hq).free))) | ((with_reducible refine at_nil 0 ?_); refine wpE_nil (fun wn hx hΦ hfp hdis => ?_); (try replace E := E.ext hx); (try replace b2 := b2.ext hx); (try replace r0 := r0.ext hx); (try (clear hcE hfE)); (try (have hcf := bcell E.low; obtain ⟨hcE, hfE⟩ := hcf)); (try (clear c2 f2)); (try (have c2 := b2.cell; have f2 := b2.free)); clear hΦ hfp hdis; refine hK _ _ ?_; clear hK) | ((with_reducible refine wpE_q ?_ ?_ ?_); rfl; rfl; intro wq hq _ _; (try (clear hcE hfE)); (try (have hcf := bcell (E.ext hq).low; obtain ⟨hcE, hfE⟩ := hcf)); (try (clear c2 f2)); (try (have c2 := (b2.ext hq).cell; have f2 := (b2.ext hq).free))) | ((with_reducible refine at_nil 0 ?_); refine wpE_nil (fun wn hx hΦ hfp hdis => ?_); (try replace E := E.ext hx); (try replace b2 := b2.ext hx); (try replace r0 := r0.ext hx); (try (clear hcE hfE)); (try (have hcf := bcell E.low; obtain ⟨hcE, hfE⟩ := hcf)); (try (clear c2 f2)); (try (have c2 := b2.cell; have f2 := b2.free)); clear hΦ hfp hdis; refine hK _ _ ?_; clear hK) | (with_reducible refine wpTxt_nil ?_))
        refine bodyPost_ret (v := .tuple #[.int .i64 14, .string x.name]) (by simp [results, Try.f36, go_sem]) rfl (sipost (by rw [← HF.out]; simp [fitEnd, Sy.ps]) E.low)
      · go_upto_region 9999 with (first | ((with_reducible refine wpE_q ?_ ?_ ?_); rfl; rfl; intro wq hq _ _; (try (clear hcE hfE)); (try (have hcf := bcell (E.ext hq).low; obtain ⟨hcE, hfE⟩ := hcf)); (try (clear c2 f2)); (try (have c2 := (b2.ext hq).cell; have f2 := (b2.ext hq).free))) | ((with_reducible refine at_nil 0 ?_); refine wpE_nil (fun wn hx hΦ hfp hdis => ?_); (try replace E := E.ext hx); (try replace b2 := b2.ext hx); (try replace r0 := r0.ext hx); (try (clear hcE hfE)); (try (have hcf := bcell E.low; obtain ⟨hcE, hfE⟩ := hcf)); (try (clear c2 f2)); (try (have c2 := b2.cell; have f2 := b2.free)); clear hΦ hfp hdis; refine hK _ _ ?_; clear hK) | ((with_reducible refine at_reg 15 ?_); (refine wp_region_x (id := 15) (spOf []) [0, 1, 2, 3] [] [] mixed ?_ ?_); (· decide +kernel); intro K ws hx hK; (try replace E := E.ext hx); (try replace b2 := b2.ext hx); (try replace r0 := r0.ext hx); (try (clear hcE hfE)); (try (have hcf := bcell E.low; obtain ⟨hcE, hfE⟩ := hcf)); (try (clear c2 f2)); (try (have c2 := b2.cell; have f2 := b2.free)); dsimp only [pickE, pickL, List.getElem?_cons_succ, List.getElem?_cons_zero] at hK ⊢) | ((with_reducible refine wpE_q ?_ ?_ ?_); rfl; rfl; intro wq hq _ _; (try (clear hcE hfE)); (try (have hcf := bcell (E.ext hq).low; obtain ⟨hcE, hfE⟩ := hcf)); (try (clear c2 f2)); (try (have c2 := (b2.ext hq).cell; have f2 := (b2.ext hq).free))) | ((with_reducible refine at_nil 0 ?_); refine wpE_nil (fun wn hx hΦ hfp hdis => ?_); (try replace E := E.ext hx); (try replace b2 := b2.ext hx); (try replace r0 := r0.ext hx); (try (clear hcE hfE)); (try (have hcf := bcell E.low; obtain ⟨hcE, hfE⟩ := hcf)); (try (clear c2 f2)); (try (have c2 := b2.cell; have f2 := b2.free)); clear hΦ hfp hdis; refine hK _ _ ?_; clear hK) | (with_reducible refine wpTxt_nil ?_))
        refine bodyPost_ret (v := .tuple #[.int .i64 13, .string x.name]) (by simp [results, Try.f36, go_sem]) rfl (sipost (by rw [← HF.out]; simp [fitEnd, Sy.ps]) E.low)
      · have HF2 : Hid ((match x.perms.find? (fun q => decide (¬ q ∈ L)) with | some q => (21, q) | none => ((0 : Int), (⟨#[]⟩ : ByteArray))) = R) := by
          have := HF.out
          unfold fitEnd at this
          rw [if_neg (by simp), if_neg (by simp)] at this
          exact this
        clear HF
        go_upto_region 17 with (first | fail)
        go_loopw [61] (fun i wr => ∃ j : Nat, i = .int .i64 j ∧ j ≤ x.perms.length ∧ Hid (∀ k (_ : k < j) (hk : k < x.perms.length), ¬ decide (¬ x.perms[k] ∈ L) = true) ∧ OwnR w wr 9 1 strC (.slice so L.length sc) L ∧ Only [] w wr) (fun i _ => x.perms.length - (intOf i).toNat)
        case atStart => exact ⟨0, rfl, Nat.zero_le _, fun k hk => by omega, r0, E⟩
        case round =>
          clear r0 E hcE hfE b2 c2 f2
          obtain ⟨j, rfl, hj, hA, r0, E⟩ := hrel
          obtain ⟨hcE, hfE⟩ := bcell E.low
          by_cases hlt : j < x.perms.length
          · obtain ⟨g, o, hgo, hg, k0⟩ := hxp.cells hlt
            by_cases hm : x.perms[j] ∈ L
            · have g1 := mem_dt hm
              have HM := Lib.hid hm
              clear hm
              go_upto_region 9999 with (first | ((with_reducible refine at_dst 67 ?_); go_simp; ((with_reducible refine (contains_any r0.reads _).mono ?_)); unfold BPost; rintro e wn ⟨rfl, hx⟩; (try replace E := E.ext hx); (try replace r0 := r0.ext hx); (try (clear hcE hfE)); (try (have hcf := bcell E.low; obtain ⟨hcE, hfE⟩ := hcf))))
              simp only [← hgo]
              clear hgo
              go_roundw
              case rel => exact ⟨j + 1, by go_num, by omega, none_snoc (p := fun x => decide (¬ x ∈ L) = true) hA.out hlt (by simp [HM.out]), r0, E⟩
              case measure => simp [intOf]; omega
            · have g1 := mem_df hm
              have HM := Lib.hid hm
              clear hm
              go_upto_region 9999 with (first | ((with_reducible refine at_dst 67 ?_); go_simp; ((with_reducible refine (contains_any r0.reads _).mono ?_)); unfold BPost; rintro e wn ⟨rfl, hx⟩; (try replace E := E.ext hx); (try replace r0 := r0.ext hx); (try (clear hcE hfE)); (try (have hcf := bcell E.low; obtain ⟨hcE, hfE⟩ := hcf))))
              refine bodyPost_ret (v := .tuple #[.int .i64 21, .string x.perms[j]]) (by simp [results, Try.f36, go_sem]) rfl (sipost (by rw [← HF2.out, find_first hlt hA.out (by simp [HM.out])]) E.low)
          · go_upto_region 9999 with (first | fail)
            refine bodyPost_ret (v := .tuple #[.int .i64 0, .string ⟨#[]⟩]) (by simp [results, Try.f36, go_sem]) rfl (sipost (by rw [← HF2.out, find_none (fun k h1 h2 => hA.out k (by omega) h2)]) E.low)
end Go.Proofs.Ytnifgkgdphlleaa
