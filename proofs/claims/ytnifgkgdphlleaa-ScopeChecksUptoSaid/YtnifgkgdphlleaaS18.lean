/- Vn, Vo, Qk -/
import Derived.Test.YtnifgkgdphlleaaS17
import Derived.Test.YtnifgkgdphlleaaS16
set_option linter.unusedSimpArgs false
set_option linter.unusedVariables false
namespace Go.Proofs.Ytnifgkgdphlleaa
open Go.RowKit Tk
@[go_sem] theorem nil_sys (a : Option Addr) (n c : Nat) (w : World) : (binOp BinOp.eql 54 (.slice a n c) (.slice none 0 0)).run Try.prog w = .ok (.bool a.isNone) w := eql_nil w a n c und_sys
theorem RRow.none_nil {α : Type} {k : Nat} {f : α → List Value} {w : World} {n c : Nat} {xs : List α} (h : RRow w k f (.slice Option.none n c) xs) : xs = [] ∧ n = 0 := by
  obtain ⟨rfl, -⟩ := RRow.lens h
  rcases Nat.eq_zero_or_pos xs.length with h0 | h0
  · exact ⟨List.length_eq_zero_iff.1 h0, h0⟩
  · obtain ⟨g, o, e, -⟩ := RRow.cells h h0
    cases e
def CYPost (w : World) (xs : List Sy) (e : Ending) (w' : World) : Prop := ∃ a c, e = .returned (.slice a xs.length c) ∧ OwnR w w' 57 6 syC (.slice a xs.length c) xs ∧ Ext w w'
set_option maxRecDepth 100000 in
theorem cloneSy_any {w : World} {a : Option Addr} {n c : Nat} {xs : List Sy} (h : RRow w 6 syC (.slice a n c) xs) (hf : xs.length ≤ 1900000000000) :
    Calls Try.prog 25 #[.slice a n c] w (CYPost w xs) := by
  rcases a with _ | p
  · obtain ⟨rfl, rfl⟩ := RRow.none_nil h
    go_enter Try.func25, Try.ntmps25
    have E := Only.refl [] w
    go_upto_region 9999 with (first | fail)
    go_ret
    exact ⟨none, 0, rfl, OwnR.nil w w 57 6 syC, E.low⟩
  · obtain ⟨rfl, n2⟩ := RRow.lens h
    go_enter Try.func25, Try.ntmps25
    have E := Only.refl [] w
    go_upto_region 9999 with (first | ((with_reducible refine at_dst 5 ?_); go_simp; (generalize hX5 : Array.size (World.heap _) = X5); refine new_block hX5 ?_; intro wn bb hx; (try (have z5 := Nat.le_trans E.size (Nat.le_of_eq hX5))); have b5 := bb; have g5 := Loc.new bb E hX5; clear bb hX5; (try replace E := E.ext hx); (try (clear hcE hfE)); (try (have hcf := bcell E.low; obtain ⟨hcE, hfE⟩ := hcf))) | ((with_reducible refine at_dst 7 ?_); refine wp_own (.tmp 5) (.tmp 6) rfl info_sy und_sys rfl (by decide) syC_len syC_ones (OwnR.ofBlk (xs := ([] : List Sy)) g5 rfl syC_len rfl (by decide)) E (RRow.ext h E.low) rfl rfl ?_ ?_ ?_; (· (simp only [List.length_nil]; (try unfold maxLen); omega)); (· (simp only [List.length_nil]; (try unfold maxLen); omega)); intro L7 hL7 s7 v7 wn r7 E2 hA; replace hL7 := Lib.hid hL7; skip; clear E; have E := E2; clear E2; have hz := hL7.out; rw [List.nil_append] at hz; rw [← hz] at r7; clear hz; obtain ⟨o7, k7, rfl, l7, m7⟩ := ORow.len r7.row; (try (clear hcE hfE)); (try (have hcf := bcell E.low; obtain ⟨hcE, hfE⟩ := hcf)); (try simp only [Act.put, actL])))
    go_ret
    exact ⟨_, _, rfl, r7, E.low⟩
/-! ### Check -/
def firstClash (sp : Int → Int) (out : List PS) : List PS → Option (Int × PS)
  | [] => none
  | x :: l => if clashPS sp out x ≠ 0 then some (clashPS sp out x, x) else firstClash sp out l
def firstFit (vis : List PS) : List PS → FT
  | [] => FT.zero
  | x :: l => if (fitsC x vis).1 ≠ 0 then ⟨(fitsC x vis).1, x.line, x.col, (fitsC x vis).2⟩ else firstFit vis l
/-- statements examined, the rest of the work handed in -/
def headL (all out : List PS) (k : List PS → FT) : FT :=
  if (blockB spC all).2.code ≠ 0 then (blockB spC all).2
  else match firstClash spC out (blockB spC all).1 with
    | some (e, x) => ⟨e, x.line, x.col, x.name⟩
    | none => k (out ++ (blockB spC all).1)
mutual
def exOne : St → List PS → FT
  | .mk h t e, vis =>
    if h.kind = 18 then
      (if (headL (allS t) vis fun v => exSts t v).code ≠ 0 then headL (allS t) vis fun v => exSts t v else headL (allS e) vis fun v => exSts e v)
    else firstFit vis (adds [] (if h.kind = 17 then evEx h.pos h.cond ++ (evSts t ++ evSts e) else evStH h))
def exSts : List St → List PS → FT
  | [], _ => FT.zero
  | s :: l, vis => if (exOne s vis).code ≠ 0 then exOne s vis else exSts l vis
end
def exList (l : List St) (out : List PS) : FT := headL (allS l) out fun v => exSts l v
theorem exOne_eq (s : St) (vis : List PS) : exOne s vis = if s.h.kind = 18 then (if (exList s.thn vis).code ≠ 0 then exList s.thn vis else exList s.els vis) else firstFit vis (adds [] (evSt s)) := by
  cases s with
  | mk h t e => rw [exOne, evSt_eq]; rfl
end Go.Proofs.Ytnifgkgdphlleaa
set_option linter.unusedSimpArgs false
set_option linter.unusedVariables false
namespace Go.Proofs.Ytnifgkgdphlleaa
open Go.RowKit Tk
mutual
def St.wt : St → Nat
  | .mk h t e => wtU (symsP h) + St.wts t + St.wts e
def St.wts : List St → Nat
  | [] => 0
  | s :: l => s.wt + St.wts l
end
theorem St.wt_eq (s : St) : s.wt = wtU (symsP s.h) + St.wts s.thn + St.wts s.els := by cases s; rw [St.wt]; rfl
theorem St.wts_all : ∀ l : List St, wtU (allS l) ≤ St.wts l
  | [] => Nat.zero_le _
  | s :: l => by
    have ih := St.wts_all l
    have e : allS (s :: l) = symsP s.h ++ allS l := rfl
    rw [e, wtU_app, St.wts, St.wt_eq]; omega
theorem St.wts_mem : ∀ {l : List St} {s : St}, s ∈ l → wtU (allS l) + St.wts s.thn + St.wts s.els ≤ St.wts l
  | x :: l, s, h => by
    have e : allS (x :: l) = symsP x.h ++ allS l := rfl
    rw [e, wtU_app, St.wts, St.wt_eq x]
    have h0 := St.wts_all l
    rcases List.mem_cons.1 h with rfl | h
    · omega
    · have ih := St.wts_mem h
      omega
mutual
def St.evf : St → Prop
  | .mk h t e => wtE (evSt (.mk h t e)) ≤ 1800000000000 ∧ St.evfs t ∧ St.evfs e
def St.evfs : List St → Prop
  | [] => True
  | s :: l => s.evf ∧ St.evfs l
end
theorem St.evf.self {s : St} (h : s.evf) : wtE (evSt s) ≤ 1800000000000 := by cases s; unfold St.evf at h; exact h.1
theorem St.evf.thn {s : St} (h : s.evf) : St.evfs s.thn := by cases s; unfold St.evf at h; exact h.2.1
theorem St.evf.els {s : St} (h : s.evf) : St.evfs s.els := by cases s; unfold St.evf at h; exact h.2.2
theorem St.evfs.mem : ∀ {l : List St}, St.evfs l → ∀ {s : St}, s ∈ l → s.evf
  | x :: l, h, s, hm => by
    unfold St.evfs at h
    rcases List.mem_cons.1 hm with rfl | hm
    · exact h.1
    · exact St.evfs.mem h.2 hm
theorem St.oks.mem {w : World} : ∀ {l : List St}, St.oks w l → ∀ {s : St}, s ∈ l → s.ok w
  | x :: l, h, s, hm => by
    unfold St.oks at h
    rcases List.mem_cons.1 hm with rfl | hm
    · exact h.1
    · exact St.oks.mem h.2 hm
theorem St.fewls.mem : ∀ {l : List St}, St.fewls l → ∀ {s : St}, s ∈ l → s.fewl
  | x :: l, h, s, hm => by
    unfold St.fewls at h
    rcases List.mem_cons.1 hm with rfl | hm
    · exact h.1
    · exact St.fewls.mem h.2 hm
theorem merge_wt (all : List PS) : wtU (blockB spC all).1 ≤ wtU all := by
  unfold blockB
  split
  · exact Nat.zero_le _
  · have := fold_wt all all []
    have h0 : wtU [] = 0 := rfl
    show wtU (mergeB all) ≤ _
    unfold mergeB; omega
def FPost (f : FT) (w : World) (e : Ending) (w' : World) : Prop := e = .returned f.v ∧ Ext w w'
theorem fpost {f : FT} {c l k : Int} {s : ByteArray} {w w' : World} (h : f = ⟨c, l, k, s⟩) (hx : Ext w w') : FPost f w (.returned (.agg #[.int .i64 c, .int .i64 l, .int .i64 k, .string s])) w' := by subst h; exact ⟨rfl, hx⟩
@[reducible] def ExmOk (N : Nat) : Prop := ∀ (l : List St) (os : List Sy) {w : World} {a a' : Option Addr} {n c n' c' : Nat}, RRow w 55 stC (.slice a n c) l → St.oks w l → St.fewls l → St.evfs l → Syms w (.slice a' n' c') os → St.szs l < N → wtU (os.map Sy.ps) + St.wts l ≤ 1000000000000 →
    Calls Try.prog 15 #[.slice a n c, .slice a' n' c'] w (FPost (exList l (os.map Sy.ps)) w)
set_option maxHeartbeats 8000000 in
set_option maxRecDepth 100000 in
theorem one_opt {w : World} {N : Nat} {s : St} {vs : List Sy} {a : Option Addr} {n c : Nat} (IH : Hid (ExmOk N)) (hk : s.h.kind = 18) (hs : s.ok w) (hfs : s.fewl) (hev : s.evf) (hv : Syms w (.slice a n c) vs) (hz : s.sz ≤ N) (hw1 : wtU (vs.map Sy.ps) + St.wts s.thn ≤ 1000000000000) (hw2 : wtU (vs.map Sy.ps) + St.wts s.els ≤ 1000000000000) :
    Calls Try.prog 26 #[.agg (stC s).toArray, .slice a n c] w (FPost (exOne s (vs.map Sy.ps)) w) := by
  rw [St.sz_kids] at hz
  have hz1 : St.szs s.thn < N := by omega
  have hz2 : St.szs s.els < N := by omega
  obtain ⟨R, hR⟩ : ∃ R, exOne s (vs.map Sy.ps) = R := ⟨_, rfl⟩
  rw [hR]
  rw [exOne_eq, if_pos hk] at hR
  obtain ⟨⟨q1, q2, q3, q4⟩, hF⟩ : ∃ F, exList s.thn (vs.map Sy.ps) = F := ⟨_, rfl⟩
  obtain ⟨⟨p1, p2, p3, p4⟩, hG⟩ : ∃ F, exList s.els (vs.map Sy.ps) = F := ⟨_, rfl⟩
  rw [hF, hG] at hR
  dsimp only at hR
  obtain ⟨g1, -⟩ := kd_t hk
  have HF := Lib.hid hF
  have HG := Lib.hid hG
  clear hF hG
  go_enter Try.func26, Try.ntmps26
  have E := Only.refl [] w
  by_cases hc : q1 = 0
  · rw [if_neg (by simpa using hc)] at hR
    obtain ⟨g3, g4⟩ := kd_t hc
    have HR := Lib.hid hR
    have HC := Lib.hid hc
    clear hR hc
    go_upto_region 9999 with (first | ((with_reducible refine at_dst 2 ?_); go_simp; (generalize hX2 : Array.size (World.heap _) = X2); refine new_block hX2 ?_; intro wn bb hx; (try (have n4_2 := (b4.ne hX2).1; have n2_4 := (b4.ne hX2).2)); (try (have n5_2 := (b5.ne hX2).1; have n2_5 := (b5.ne hX2).2)); (try (have n7_2 := (b7.ne hX2).1; have n2_7 := (b7.ne hX2).2)); (try (have z2 := Nat.le_trans E.size (Nat.le_of_eq hX2))); have b2 := Loc.new bb E hX2; clear bb hX2; (try replace E := E.ext hx); (try replace b4 := b4.ext hx); (try replace b5 := b5.ext hx); (try replace b7 := b7.ext hx); (try (clear hcE hfE)); (try (have hcf := bcell E.low; obtain ⟨hcE, hfE⟩ := hcf)); (try (clear c2 f2)); (try (have c2 := b2.cell; have f2 := b2.free)); (try (clear c4 f4)); (try (have c4 := b4.cell; have f4 := b4.free)); (try (clear c5 f5)); (try (have c5 := b5.cell; have f5 := b5.free)); (try (clear c7 f7)); (try (have c7 := b7.cell; have f7 := b7.free))) | ((with_reducible refine at_dst 4 ?_); go_simp; (generalize hX4 : Array.size (World.heap _) = X4); refine new_block hX4 ?_; intro wn bb hx; (try (have n2_4 := (b2.ne hX4).1; have n4_2 := (b2.ne hX4).2)); (try (have n5_4 := (b5.ne hX4).1; have n4_5 := (b5.ne hX4).2)); (try (have n7_4 := (b7.ne hX4).1; have n4_7 := (b7.ne hX4).2)); (try (have z4 := Nat.le_trans E.size (Nat.le_of_eq hX4))); have b4 := Loc.new bb E hX4; clear bb hX4; (try replace E := E.ext hx); (try replace b2 := b2.ext hx); (try replace b5 := b5.ext hx); (try replace b7 := b7.ext hx); (try (clear hcE hfE)); (try (have hcf := bcell E.low; obtain ⟨hcE, hfE⟩ := hcf)); (try (clear c2 f2)); (try (have c2 := b2.cell; have f2 := b2.free)); (try (clear c4 f4)); (try (have c4 := b4.cell; have f4 := b4.free)); (try (clear c5 f5)); (try (have c5 := b5.cell; have f5 := b5.free)); (try (clear c7 f7)); (try (have c7 := b7.cell; have f7 := b7.free))) | ((with_reducible refine at_dst 16 ?_); go_simp; ((refine (IH.out s.thn vs (hs.thn.ext E.low) (hs.thns.ext E.low) hfs.thn hev.thn (hv.ext E.low) hz1 hw1).mono ?_)); unfold FPost FT.v; rw [HF.out]; dsimp only; rintro e wn ⟨rfl, hx⟩; (try replace E := E.ext hx); (try replace b2 := b2.ext hx); (try replace b4 := b4.ext hx); (try replace b5 := b5.ext hx); (try replace b7 := b7.ext hx); (try (clear hcE hfE)); (try (have hcf := bcell E.low; obtain ⟨hcE, hfE⟩ := hcf)); (try (clear c2 f2)); (try (have c2 := b2.cell; have f2 := b2.free)); (try (clear c4 f4)); (try (have c4 := b4.cell; have f4 := b4.free)); (try (clear c5 f5)); (try (have c5 := b5.cell; have f5 := b5.free)); (try (clear c7 f7)); (try (have c7 := b7.cell; have f7 := b7.free))) | ((with_reducible refine at_dst 5 ?_); go_simp; (generalize hX5 : Array.size (World.heap _) = X5); refine new_block hX5 ?_; intro wn bb hx; (try (have n2_5 := (b2.ne hX5).1; have n5_2 := (b2.ne hX5).2)); (try (have n4_5 := (b4.ne hX5).1; have n5_4 := (b4.ne hX5).2)); (try (have n7_5 := (b7.ne hX5).1; have n5_7 := (b7.ne hX5).2)); (try (have z5 := Nat.le_trans E.size (Nat.le_of_eq hX5))); have b5 := Loc.new bb E hX5; clear bb hX5; (try replace E := E.ext hx); (try replace b2 := b2.ext hx); (try replace b4 := b4.ext hx); (try replace b7 := b7.ext hx); (try (clear hcE hfE)); (try (have hcf := bcell E.low; obtain ⟨hcE, hfE⟩ := hcf)); (try (clear c2 f2)); (try (have c2 := b2.cell; have f2 := b2.free)); (try (clear c4 f4)); (try (have c4 := b4.cell; have f4 := b4.free)); (try (clear c5 f5)); (try (have c5 := b5.cell; have f5 := b5.free)); (try (clear c7 f7)); (try (have c7 := b7.cell; have f7 := b7.free))) | ((with_reducible refine at_dst 24 ?_); go_simp; ((refine (IH.out s.els vs (hs.els.ext E.low) (hs.elss.ext E.low) hfs.els hev.els (hv.ext E.low) hz2 hw2).mono ?_)); unfold FPost FT.v; rw [HG.out]; dsimp only; rintro e wn ⟨rfl, hx⟩; (try replace E := E.ext hx); (try replace b2 := b2.ext hx); (try replace b4 := b4.ext hx); (try replace b5 := b5.ext hx); (try replace b7 := b7.ext hx); (try (clear hcE hfE)); (try (have hcf := bcell E.low; obtain ⟨hcE, hfE⟩ := hcf)); (try (clear c2 f2)); (try (have c2 := b2.cell; have f2 := b2.free)); (try (clear c4 f4)); (try (have c4 := b4.cell; have f4 := b4.free)); (try (clear c5 f5)); (try (have c5 := b5.cell; have f5 := b5.free)); (try (clear c7 f7)); (try (have c7 := b7.cell; have f7 := b7.free))) | ((with_reducible refine at_store 5 ?_); (refine wp_put b5 rfl rfl ?_ ?_ ?_ ?_; (· kernel_rfl); (· first | rfl | kernel_rfl); (· first | decide | exact Nat.le_refl _ | simp [Act.eval, Value.cells] | (simp [Act.eval, Act.put, Value.cells]; done)); intro wn bn hb; have E2 := E.put b5 hb; (try replace b2 := b2.but hb n2_5); (try replace b4 := b4.but hb n4_5); (try replace b7 := b7.but hb n7_5); clear E b5; have E := E2; clear E2; have b5 := bn; clear bn hb; dsimp only [Act.put]; simp only [putA, Act.eval, Value.cells, Nat.reduceAdd, putL, sizL] at b5; (try (clear hcE hfE)); (try (have hcf := bcell E.low; obtain ⟨hcE, hfE⟩ := hcf)); (try (clear c2 f2)); (try (have c2 := b2.cell; have f2 := b2.free)); (try (clear c4 f4)); (try (have c4 := b4.cell; have f4 := b4.free)); (try (clear c5 f5)); (try (have c5 := b5.cell; have f5 := b5.free)); (try (clear c7 f7)); (try (have c7 := b7.cell; have f7 := b7.free)))) | ((with_reducible refine at_store 4 ?_); (refine wp_put b4 rfl rfl ?_ ?_ ?_ ?_; (· kernel_rfl); (· first | rfl | kernel_rfl); (· first | decide | exact Nat.le_refl _ | simp [Act.eval, Value.cells] | (simp [Act.eval, Act.put, Value.cells]; done)); intro wn bn hb; have E2 := E.put b4 hb; (try replace b2 := b2.but hb n2_4); (try replace b5 := b5.but hb n5_4); (try replace b7 := b7.but hb n7_4); clear E b4; have E := E2; clear E2; have b4 := bn; clear bn hb; dsimp only [Act.put]; simp only [putA, Act.eval, Value.cells, Nat.reduceAdd, putL, sizL] at b4; (try (clear hcE hfE)); (try (have hcf := bcell E.low; obtain ⟨hcE, hfE⟩ := hcf)); (try (clear c2 f2)); (try (have c2 := b2.cell; have f2 := b2.free)); (try (clear c4 f4)); (try (have c4 := b4.cell; have f4 := b4.free)); (try (clear c5 f5)); (try (have c5 := b5.cell; have f5 := b5.free)); (try (clear c7 f7)); (try (have c7 := b7.cell; have f7 := b7.free)))) | ((with_reducible refine at_store 4 ?_); (refine wp_put b4 rfl rfl ?_ ?_ ?_ ?_; (· kernel_rfl); (· first | rfl | kernel_rfl); (· first | decide | exact Nat.le_refl _ | simp [Act.eval, Value.cells] | (simp [Act.eval, Act.put, Value.cells]; done)); intro wn bn hb; have E2 := E.put b4 hb; (try replace b2 := b2.but hb n2_4); (try replace b5 := b5.but hb n5_4); (try replace b7 := b7.but hb n7_4); clear E b4; have E := E2; clear E2; have b4 := bn; clear bn hb; dsimp only [Act.put]; simp only [putA, Act.eval, Value.cells, Nat.reduceAdd, putL, sizL] at b4; (try (clear hcE hfE)); (try (have hcf := bcell E.low; obtain ⟨hcE, hfE⟩ := hcf)); (try (clear c2 f2)); (try (have c2 := b2.cell; have f2 := b2.free)); (try (clear c4 f4)); (try (have c4 := b4.cell; have f4 := b4.free)); (try (clear c5 f5)); (try (have c5 := b5.cell; have f5 := b5.free)); (try (clear c7 f7)); (try (have c7 := b7.cell; have f7 := b7.free)))) | ((with_reducible refine at_store 4 ?_); (refine wp_put b4 rfl rfl ?_ ?_ ?_ ?_; (· kernel_rfl); (· first | rfl | kernel_rfl); (· first | decide | exact Nat.le_refl _ | simp [Act.eval, Value.cells] | (simp [Act.eval, Act.put, Value.cells]; done)); intro wn bn hb; have E2 := E.put b4 hb; (try replace b2 := b2.but hb n2_4); (try replace b5 := b5.but hb n5_4); (try replace b7 := b7.but hb n7_4); clear E b4; have E := E2; clear E2; have b4 := bn; clear bn hb; dsimp only [Act.put]; simp only [putA, Act.eval, Value.cells, Nat.reduceAdd, putL, sizL] at b4; (try (clear hcE hfE)); (try (have hcf := bcell E.low; obtain ⟨hcE, hfE⟩ := hcf)); (try (clear c2 f2)); (try (have c2 := b2.cell; have f2 := b2.free)); (try (clear c4 f4)); (try (have c4 := b4.cell; have f4 := b4.free)); (try (clear c5 f5)); (try (have c5 := b5.cell; have f5 := b5.free)); (try (clear c7 f7)); (try (have c7 := b7.cell; have f7 := b7.free)))) | ((with_reducible refine at_store 4 ?_); (refine wp_put b4 rfl rfl ?_ ?_ ?_ ?_; (· kernel_rfl); (· first | rfl | kernel_rfl); (· first | decide | exact Nat.le_refl _ | simp [Act.eval, Value.cells] | (simp [Act.eval, Act.put, Value.cells]; done)); intro wn bn hb; have E2 := E.put b4 hb; (try replace b2 := b2.but hb n2_4); (try replace b5 := b5.but hb n5_4); (try replace b7 := b7.but hb n7_4); clear E b4; have E := E2; clear E2; have b4 := bn; clear bn hb; dsimp only [Act.put]; simp only [putA, Act.eval, Value.cells, Nat.reduceAdd, putL, sizL] at b4; (try (clear hcE hfE)); (try (have hcf := bcell E.low; obtain ⟨hcE, hfE⟩ := hcf)); (try (clear c2 f2)); (try (have c2 := b2.cell; have f2 := b2.free)); (try (clear c4 f4)); (try (have c4 := b4.cell; have f4 := b4.free)); (try (clear c5 f5)); (try (have c5 := b5.cell; have f5 := b5.free)); (try (clear c7 f7)); (try (have c7 := b7.cell; have f7 := b7.free)))))
    refine bodyPost_ret (v := .agg #[.int .i64 p1, .int .i64 p2, .int .i64 p3, .string p4]) (by simp [results, Try.f26, go_sem, c4]) rfl ?_
    exact fpost HR.out.symm E.low
  · rw [if_pos hc] at hR
    obtain ⟨g3, g4⟩ := kd_f hc
    have HR := Lib.hid hR
    clear hR hc
    go_upto_region 9999 with (first | ((with_reducible refine at_dst 2 ?_); go_simp; (generalize hX2 : Array.size (World.heap _) = X2); refine new_block hX2 ?_; intro wn bb hx; (try (have n4_2 := (b4.ne hX2).1; have n2_4 := (b4.ne hX2).2)); (try (have n5_2 := (b5.ne hX2).1; have n2_5 := (b5.ne hX2).2)); (try (have n7_2 := (b7.ne hX2).1; have n2_7 := (b7.ne hX2).2)); (try (have z2 := Nat.le_trans E.size (Nat.le_of_eq hX2))); have b2 := Loc.new bb E hX2; clear bb hX2; (try replace E := E.ext hx); (try replace b4 := b4.ext hx); (try replace b5 := b5.ext hx); (try replace b7 := b7.ext hx); (try (clear hcE hfE)); (try (have hcf := bcell E.low; obtain ⟨hcE, hfE⟩ := hcf)); (try (clear c2 f2)); (try (have c2 := b2.cell; have f2 := b2.free)); (try (clear c4 f4)); (try (have c4 := b4.cell; have f4 := b4.free)); (try (clear c5 f5)); (try (have c5 := b5.cell; have f5 := b5.free)); (try (clear c7 f7)); (try (have c7 := b7.cell; have f7 := b7.free))) | ((with_reducible refine at_dst 4 ?_); go_simp; (generalize hX4 : Array.size (World.heap _) = X4); refine new_block hX4 ?_; intro wn bb hx; (try (have n2_4 := (b2.ne hX4).1; have n4_2 := (b2.ne hX4).2)); (try (have n5_4 := (b5.ne hX4).1; have n4_5 := (b5.ne hX4).2)); (try (have n7_4 := (b7.ne hX4).1; have n4_7 := (b7.ne hX4).2)); (try (have z4 := Nat.le_trans E.size (Nat.le_of_eq hX4))); have b4 := Loc.new bb E hX4; clear bb hX4; (try replace E := E.ext hx); (try replace b2 := b2.ext hx); (try replace b5 := b5.ext hx); (try replace b7 := b7.ext hx); (try (clear hcE hfE)); (try (have hcf := bcell E.low; obtain ⟨hcE, hfE⟩ := hcf)); (try (clear c2 f2)); (try (have c2 := b2.cell; have f2 := b2.free)); (try (clear c4 f4)); (try (have c4 := b4.cell; have f4 := b4.free)); (try (clear c5 f5)); (try (have c5 := b5.cell; have f5 := b5.free)); (try (clear c7 f7)); (try (have c7 := b7.cell; have f7 := b7.free))) | ((with_reducible refine at_dst 16 ?_); go_simp; ((refine (IH.out s.thn vs (hs.thn.ext E.low) (hs.thns.ext E.low) hfs.thn hev.thn (hv.ext E.low) hz1 hw1).mono ?_)); unfold FPost FT.v; rw [HF.out]; dsimp only; rintro e wn ⟨rfl, hx⟩; (try replace E := E.ext hx); (try replace b2 := b2.ext hx); (try replace b4 := b4.ext hx); (try replace b5 := b5.ext hx); (try replace b7 := b7.ext hx); (try (clear hcE hfE)); (try (have hcf := bcell E.low; obtain ⟨hcE, hfE⟩ := hcf)); (try (clear c2 f2)); (try (have c2 := b2.cell; have f2 := b2.free)); (try (clear c4 f4)); (try (have c4 := b4.cell; have f4 := b4.free)); (try (clear c5 f5)); (try (have c5 := b5.cell; have f5 := b5.free)); (try (clear c7 f7)); (try (have c7 := b7.cell; have f7 := b7.free))) | ((with_reducible refine at_dst 5 ?_); go_simp; (generalize hX5 : Array.size (World.heap _) = X5); refine new_block hX5 ?_; intro wn bb hx; (try (have n2_5 := (b2.ne hX5).1; have n5_2 := (b2.ne hX5).2)); (try (have n4_5 := (b4.ne hX5).1; have n5_4 := (b4.ne hX5).2)); (try (have n7_5 := (b7.ne hX5).1; have n5_7 := (b7.ne hX5).2)); (try (have z5 := Nat.le_trans E.size (Nat.le_of_eq hX5))); have b5 := Loc.new bb E hX5; clear bb hX5; (try replace E := E.ext hx); (try replace b2 := b2.ext hx); (try replace b4 := b4.ext hx); (try replace b7 := b7.ext hx); (try (clear hcE hfE)); (try (have hcf := bcell E.low; obtain ⟨hcE, hfE⟩ := hcf)); (try (clear c2 f2)); (try (have c2 := b2.cell; have f2 := b2.free)); (try (clear c4 f4)); (try (have c4 := b4.cell; have f4 := b4.free)); (try (clear c5 f5)); (try (have c5 := b5.cell; have f5 := b5.free)); (try (clear c7 f7)); (try (have c7 := b7.cell; have f7 := b7.free))) | ((with_reducible refine at_dst 20 ?_); (refine wp_all b5.blk rfl rfl ?_ ?_ ?_); (· kernel_rfl); (· kernel_rfl)) | ((with_reducible refine at_store 5 ?_); (refine wp_put b5 rfl rfl ?_ ?_ ?_ ?_; (· kernel_rfl); (· first | rfl | kernel_rfl); (· first | decide | exact Nat.le_refl _ | simp [Act.eval, Value.cells] | (simp [Act.eval, Act.put, Value.cells]; done)); intro wn bn hb; have E2 := E.put b5 hb; (try replace b2 := b2.but hb n2_5); (try replace b4 := b4.but hb n4_5); (try replace b7 := b7.but hb n7_5); clear E b5; have E := E2; clear E2; have b5 := bn; clear bn hb; dsimp only [Act.put]; simp only [putA, Act.eval, Value.cells, Nat.reduceAdd, putL, sizL] at b5; (try (clear hcE hfE)); (try (have hcf := bcell E.low; obtain ⟨hcE, hfE⟩ := hcf)); (try (clear c2 f2)); (try (have c2 := b2.cell; have f2 := b2.free)); (try (clear c4 f4)); (try (have c4 := b4.cell; have f4 := b4.free)); (try (clear c5 f5)); (try (have c5 := b5.cell; have f5 := b5.free)); (try (clear c7 f7)); (try (have c7 := b7.cell; have f7 := b7.free)))) | ((with_reducible refine at_store 4 ?_); (refine wp_put b4 rfl rfl ?_ ?_ ?_ ?_; (· kernel_rfl); (· first | rfl | kernel_rfl); (· first | decide | exact Nat.le_refl _ | simp [Act.eval, Value.cells] | (simp [Act.eval, Act.put, Value.cells]; done)); intro wn bn hb; have E2 := E.put b4 hb; (try replace b2 := b2.but hb n2_4); (try replace b5 := b5.but hb n5_4); (try replace b7 := b7.but hb n7_4); clear E b4; have E := E2; clear E2; have b4 := bn; clear bn hb; dsimp only [Act.put]; simp only [putA, Act.eval, Value.cells, Nat.reduceAdd, putL, sizL] at b4; (try (clear hcE hfE)); (try (have hcf := bcell E.low; obtain ⟨hcE, hfE⟩ := hcf)); (try (clear c2 f2)); (try (have c2 := b2.cell; have f2 := b2.free)); (try (clear c4 f4)); (try (have c4 := b4.cell; have f4 := b4.free)); (try (clear c5 f5)); (try (have c5 := b5.cell; have f5 := b5.free)); (try (clear c7 f7)); (try (have c7 := b7.cell; have f7 := b7.free)))) | ((with_reducible refine at_store 4 ?_); (refine wp_put b4 rfl rfl ?_ ?_ ?_ ?_; (· kernel_rfl); (· first | rfl | kernel_rfl); (· first | decide | exact Nat.le_refl _ | simp [Act.eval, Value.cells] | (simp [Act.eval, Act.put, Value.cells]; done)); intro wn bn hb; have E2 := E.put b4 hb; (try replace b2 := b2.but hb n2_4); (try replace b5 := b5.but hb n5_4); (try replace b7 := b7.but hb n7_4); clear E b4; have E := E2; clear E2; have b4 := bn; clear bn hb; dsimp only [Act.put]; simp only [putA, Act.eval, Value.cells, Nat.reduceAdd, putL, sizL] at b4; (try (clear hcE hfE)); (try (have hcf := bcell E.low; obtain ⟨hcE, hfE⟩ := hcf)); (try (clear c2 f2)); (try (have c2 := b2.cell; have f2 := b2.free)); (try (clear c4 f4)); (try (have c4 := b4.cell; have f4 := b4.free)); (try (clear c5 f5)); (try (have c5 := b5.cell; have f5 := b5.free)); (try (clear c7 f7)); (try (have c7 := b7.cell; have f7 := b7.free)))) | ((with_reducible refine at_store 4 ?_); (refine wp_put b4 rfl rfl ?_ ?_ ?_ ?_; (· kernel_rfl); (· first | rfl | kernel_rfl); (· first | decide | exact Nat.le_refl _ | simp [Act.eval, Value.cells] | (simp [Act.eval, Act.put, Value.cells]; done)); intro wn bn hb; have E2 := E.put b4 hb; (try replace b2 := b2.but hb n2_4); (try replace b5 := b5.but hb n5_4); (try replace b7 := b7.but hb n7_4); clear E b4; have E := E2; clear E2; have b4 := bn; clear bn hb; dsimp only [Act.put]; simp only [putA, Act.eval, Value.cells, Nat.reduceAdd, putL, sizL] at b4; (try (clear hcE hfE)); (try (have hcf := bcell E.low; obtain ⟨hcE, hfE⟩ := hcf)); (try (clear c2 f2)); (try (have c2 := b2.cell; have f2 := b2.free)); (try (clear c4 f4)); (try (have c4 := b4.cell; have f4 := b4.free)); (try (clear c5 f5)); (try (have c5 := b5.cell; have f5 := b5.free)); (try (clear c7 f7)); (try (have c7 := b7.cell; have f7 := b7.free)))) | ((with_reducible refine at_store 4 ?_); (refine wp_put b4 rfl rfl ?_ ?_ ?_ ?_; (· kernel_rfl); (· first | rfl | kernel_rfl); (· first | decide | exact Nat.le_refl _ | simp [Act.eval, Value.cells] | (simp [Act.eval, Act.put, Value.cells]; done)); intro wn bn hb; have E2 := E.put b4 hb; (try replace b2 := b2.but hb n2_4); (try replace b5 := b5.but hb n5_4); (try replace b7 := b7.but hb n7_4); clear E b4; have E := E2; clear E2; have b4 := bn; clear bn hb; dsimp only [Act.put]; simp only [putA, Act.eval, Value.cells, Nat.reduceAdd, putL, sizL] at b4; (try (clear hcE hfE)); (try (have hcf := bcell E.low; obtain ⟨hcE, hfE⟩ := hcf)); (try (clear c2 f2)); (try (have c2 := b2.cell; have f2 := b2.free)); (try (clear c4 f4)); (try (have c4 := b4.cell; have f4 := b4.free)); (try (clear c5 f5)); (try (have c5 := b5.cell; have f5 := b5.free)); (try (clear c7 f7)); (try (have c7 := b7.cell; have f7 := b7.free)))))
    refine bodyPost_ret (v := .agg #[.int .i64 q1, .int .i64 q2, .int .i64 q3, .string q4]) (by simp [results, Try.f26, go_sem, c4]) rfl ?_
    exact fpost HR.out.symm E.low
end Go.Proofs.Ytnifgkgdphlleaa
set_option linter.unusedSimpArgs false
set_option linter.unusedVariables false
namespace Go.Proofs.Ytnifgkgdphlleaa
open Go.RowKit Tk
section
variable {α β : Type} {w0 w w' : World} {t t2 : TypeId} {k k2 : Nat} {f : α → List Value} {f2 : β → List Value} {v u v' : Value} {xs : List α} {zs : List β}
theorem ORow.growD (h : ORow w t k f v xs) (hd : ∀ g ∈ ownB v, g ∉ ownB u) (hA : AppPost w w' t2 k2 f2 u v' zs) : ORow w' t k f v xs :=
  h.kept fun x hx => hA.grown.block x (h.lt hx) fun e => hd x (mem_ownB.2 hx) (mem_ownB.2 e.symm)
theorem ORow.growD_apart (h : ORow w t k f v xs) (hd : ∀ g ∈ ownB v, g ∉ ownB u) (hA : AppPost w w' t2 k2 f2 u v' zs) : ∀ g ∈ ownB v, g ∉ ownB v' := fun g hg hm => by
  have hm' := mem_ownB.1 hm
  rcases hA.lies with h1 | h1
  · exact hd g hg (mem_ownB.2 (h1 ▸ hm'))
  · rw [h1] at hm'
    injection hm' with e
    have := h.lt (mem_ownB.1 hg)
    omega
theorem OwnR.growD (h : OwnR w0 w t k f v xs) (hd : ∀ g ∈ ownB v, g ∉ ownB u) (hA : AppPost w w' t2 k2 f2 u v' zs) : OwnR w0 w' t k f v xs := ⟨h.row.growD hd hA, h.new⟩
theorem OwnR.later_apart {ys : List β} (h : OwnR w w' t k f v xs) (r : ORow w t2 k2 f2 u ys) : ∀ g ∈ ownB v, g ∉ ownB u := fun g hg hm => by
  have h1 := h.new g hg
  have h2 := r.lt (mem_ownB.1 hm)
  omega
end
theorem PermsNew.old {w0 w1 w : World} {xs : List Sy} (h : PermsNew w1 w xs) (E : Only [] w0 w1) : PermsNew w0 w xs := fun x hx => (h x hx).old E
theorem OwnR.at145 {w0 w : World} {g n c i : Nat} {xs : List Sy} {y : Sy} (h : OwnR w0 w 57 6 syC (.slice (some ⟨g, 0, none⟩) n c) xs) (hy : xs[i]? = some y) : w.cell? ⟨g, i * 6 + 1, none⟩ = some (.string y.name) ∧ w.cell? ⟨g, i * 6 + 4, none⟩ = some (.int .i64 y.line) ∧ w.cell? ⟨g, i * 6 + 4 + 1, none⟩ = some (.int .i64 y.col) := by
  obtain ⟨hi, e⟩ := List.getElem?_eq_some_iff.1 hy
  subst e
  obtain ⟨g', cap, e, -, -, -, hc⟩ := ORow.at syC_len h.row (by omega)
  injection e with e1 _ _
  injection e1 with e1
  injection e1 with e1 _ _
  subst e1
  exact ⟨hc i hi 1 (by omega), hc i hi 4 (by omega), hc i hi 5 (by omega)⟩
def allR (all : List PS) : List PS × FT :=
  match scanB spR [] all with
  | some (e, x) => ([], ⟨e, x.line, x.col, x.name⟩)
  | none => (all, FT.zero)
def BPostR (w : World) (r : List PS × FT) (e : Ending) (w' : World) : Prop := ∃ (a : Option Addr) (c : Nat) (xs : List Sy), e = .returned (.tuple #[.slice a xs.length c, r.2.v]) ∧ xs.map Sy.ps = r.1 ∧ YRow w w' (.slice a xs.length c) xs ∧ Ext w w'
theorem yrow_nil (w0 w : World) : YRow w0 w (.slice none ([] : List Sy).length 0) [] := ⟨OwnR.nil w0 w _ _ _, fun x hx => by cases hx⟩
set_option maxHeartbeats 8000000 in
set_option maxRecDepth 100000 in
theorem qall_any {w : World} {a : Option Addr} {n c : Nat} {l : List St} (hl : RRow w 55 stC (.slice a n c) l) (hok : St.oks w l) (hfl : St.fewls l) (hw : wtU (allS l) ≤ 1000000000000) :
    Calls Try.prog 37 #[.slice a n c] w (BPostR w (allR (allS l))) := by
  obtain ⟨rfl, n2⟩ := RRow.lens hl
  go_enter Try.func37, Try.ntmps37
  have E := Only.refl [] w
  go_upto_region 3 with (first | ((with_reducible refine at_dst 3 ?_); go_simp; (generalize hX3 : Array.size (World.heap _) = X3); refine new_block hX3 ?_; intro wn bb hx; (try (have z3 := Nat.le_trans E.size (Nat.le_of_eq hX3))); (try (have mr0_3 := r0.notin (Nat.le_of_eq hX3))); (try (have mhP_3 := hP.notin (Nat.le_of_eq hX3))); (try (have mrx_3 := rx.notin (Nat.le_of_eq hX3))); (try (have mhPx_3 := hPx.notin (Nat.le_of_eq hX3))); have b3 := Loc.new bb E hX3; clear bb hX3; (try replace E := E.ext hx); (try replace r0 := r0.ext hx); (try replace hP := hP.ext hx); (try replace rx := rx.ext hx); (try replace hPx := hPx.ext hx); (try (clear hcE hfE)); (try (have hcf := bcell E.low; obtain ⟨hcE, hfE⟩ := hcf)); (try (clear c3 f3)); (try (have c3 := b3.cell; have f3 := b3.free)); (try (clear k1 k4 k5)); (try (have kk := (rx).at145 HZ.out; obtain ⟨k1, k4, k5⟩ := kk))))
  have r0 := OwnR.nil w wn 57 6 syC
  have hP : PermsNew w wn [] := fun x hx => by cases hx
  go_loopw [4, 5] (fun v i wr => ∃ (j : Nat) (L : List Sy) (so : Option Addr) (sc : Nat), i = .int .i64 j ∧ j ≤ l.length ∧ v = .slice so L.length sc ∧ Hid (L.map Sy.ps = allS (l.take j)) ∧ Hid (scanB spR [] (L.map Sy.ps) = none) ∧ OwnR w wr 57 6 syC (.slice so L.length sc) L ∧ PermsNew w wr L ∧ Only [] w wr ∧ Loc [] w wr X3 31 #[.int .i64 0, .int .i64 0, .int .i64 0, .string ⟨#[]⟩]) (fun _ i _ => l.length - (intOf i).toNat)
  case atStart => exact ⟨0, [], none, 0, rfl, Nat.zero_le _, rfl, rfl, rfl, r0, hP, E, b3⟩
  case round =>
    clear r0 E hcE hfE b3 c3 f3 hP
    obtain ⟨j, L, so, sc, rfl, hj, rfl, HL, HS, r0, hP, E, b3⟩ := hrel
    have c3 := b3.cell
    have f3 := b3.free
    obtain ⟨hcE, hfE⟩ := bcell E.low
    by_cases hlt : j < l.length
    · obtain ⟨z, hz⟩ := at_some hlt
      have hzm := List.mem_of_getElem? hz
      have HY := Lib.hid hz
      obtain ⟨g, o, rfl, hg, -⟩ := RRow.cells hl hlt
      have hyo := hok.mem hzm
      have hyf := hfl.mem hzm
      have hlast := allS_take hz
      have HLAST := Lib.hid hlast
      clear hz hlast
      go_upto_region 7 with (first | ((with_reducible refine at_dst 18 ?_); (refine wp_rec2 ((RRow.ext hl E.low)) (HY.out) stC_len rfl rfl ?_ ?_ ?_); (· kernel_rfl); (· kernel_rfl)) | ((with_reducible refine at_dst 19 ?_); go_simp; (have hc := qwritten_any ((hyo.ext E.low).hd) hyf.hd; (refine hc.mono ?_)); clear hc; unfold WPost; rintro e wn ⟨xa, xc, xs, rfl, HX, hX, hx⟩; replace HX := Lib.hid HX; have hd := hX.row.later_apart r0.row; have rx := hX.row.old E; have hPx := hX.perms.old E; clear hX; (try replace E := E.ext hx); (try replace b3 := b3.ext hx); (try replace r0 := r0.ext hx); (try replace hP := hP.ext hx); (try replace rx := rx.ext hx); (try replace hPx := hPx.ext hx); (try (clear hcE hfE)); (try (have hcf := bcell E.low; obtain ⟨hcE, hfE⟩ := hcf)); (try (clear c3 f3)); (try (have c3 := b3.cell; have f3 := b3.free)); (try (clear k1 k4 k5)); (try (have kk := (rx).at145 HZ.out; obtain ⟨k1, k4, k5⟩ := kk))))
      obtain ⟨wo, hwo⟩ : ∃ wo, wo = wn := ⟨_, rfl⟩
      subst hwo
      have hLx : Hid (L.map Sy.ps = allS (l.take j) ++ (xs.map Sy.ps).take 0) := Lib.hid (by rw [List.take_zero, List.append_nil]; exact HL.out)
      clear HL
      go_loopw [4, 7] (fun v i wr => ∃ (p : Nat) (L : List Sy) (so : Option Addr) (sc : Nat), i = .int .i64 p ∧ p ≤ xs.length ∧ v = .slice so L.length sc ∧ Hid (L.map Sy.ps = allS (l.take j) ++ (xs.map Sy.ps).take p) ∧ Hid (scanB spR [] (L.map Sy.ps) = none) ∧ OwnR w wr 57 6 syC (.slice so L.length sc) L ∧ PermsNew w wr L ∧ OwnR w wr 57 6 syC (.slice xa xs.length xc) xs ∧ PermsNew w wr xs ∧ (∀ g ∈ ownB (.slice xa xs.length xc), g ∉ ownB (.slice so L.length sc)) ∧ Only [] w wr ∧ Loc [] w wr X3 31 #[.int .i64 0, .int .i64 0, .int .i64 0, .string ⟨#[]⟩]) (fun _ i _ => xs.length - (intOf i).toNat)
      case atStart => exact ⟨0, L, so, sc, rfl, Nat.zero_le _, rfl, hLx, HS, r0, hP, rx, hPx, hd, E, b3⟩
      case round =>
        clear r0 E hcE hfE b3 c3 f3 hP rx hPx hd HS hLx
        obtain ⟨p, L, so, sc, rfl, hp, rfl, HL, HS, r0, hP, rx, hPx, hd, E, b3⟩ := hrel
        have c3 := b3.cell
        have f3 := b3.free
        obtain ⟨hcE, hfE⟩ := bcell E.low
        have hxl := (RRow.lens rx.rsy).2
        by_cases hlp : p < xs.length
        · obtain ⟨y, hy⟩ := at_some hlp
          have hym := List.mem_of_getElem? hy
          have HZ := Lib.hid hy
          obtain ⟨g, rfl⟩ := rx.own_at hy
          have hyp := map_at (f := Sy.ps) hy
          have hsn : (L ++ [y]).map Sy.ps = allS (l.take j) ++ (xs.map Sy.ps).take (p + 1) := by
            rw [List.map_append, HL.out, take_at hyp, List.append_assoc]; rfl
          have hpre : (L ++ [y]).map Sy.ps <+: allS l := pre_of HY.out (k := p + 1) (by rw [hsn, HX.out])
          have HSN := Lib.hid hsn
          have HPRE := Lib.hid hpre
          have hll : L.length ≤ 1000000000000 := by
            have h1 := hpre.length_le
            have h2 := wtU_len (allS l)
            rw [List.length_map, List.length_append] at h1
            omega
          obtain ⟨e, he⟩ : ∃ e, clashP spR L y = e := ⟨_, rfl⟩
          have HE := Lib.hid he
          clear hy hyp hsn hpre he
          by_cases hz0 : e = 0
          · obtain ⟨g1, g2⟩ := kd_t hz0
            have hs2 : scanB spR [] ((L ++ [y]).map Sy.ps) = none := by
              have h1 := scan_snoc (x := y.ps) HS.out
              rw [List.nil_append, ← clash_ps, HE.out, if_neg (by simpa using hz0)] at h1
              rw [List.map_append]
              exact h1
            have HS2 := Lib.hid hs2
            have HZ0 := Lib.hid hz0
            clear hz0 hs2
            go_upto_region 9999 with (first | ((with_reducible refine at_dst 30 ?_); (refine wp_rec0 (rx.rsy) (HZ.out) syC_len rfl rfl ?_ ?_ ?_); (· kernel_rfl); (· kernel_rfl)) | ((with_reducible refine at_dst 31 ?_); go_simp; ((refine (qclash_any (Syms.mk r0.rsy (fun x hx => (hP x hx).row.reads strC_l)) y).mono ?_)); unfold IPost; rw [HE.out]; rintro e' wn ⟨rfl, hx⟩; (try replace E := E.ext hx); (try replace b3 := b3.ext hx); (try replace r0 := r0.ext hx); (try replace hP := hP.ext hx); (try replace rx := rx.ext hx); (try replace hPx := hPx.ext hx); (try (clear hcE hfE)); (try (have hcf := bcell E.low; obtain ⟨hcE, hfE⟩ := hcf)); (try (clear c3 f3)); (try (have c3 := b3.cell; have f3 := b3.free)); (try (clear k1 k4 k5)); (try (have kk := (rx).at145 HZ.out; obtain ⟨k1, k4, k5⟩ := kk))) | ((with_reducible refine at_dst 50 ?_); (refine wp_rec0 (rx.rsy) (HZ.out) syC_len rfl rfl ?_ ?_ ?_); (· kernel_rfl); (· kernel_rfl)) | ((with_reducible refine at_dst 51 ?_); go_simp; (generalize hX51 : Array.size (World.heap _) = X51); refine new_block hX51 ?_; intro wn bb hx; (try (have n3_51 := (b3.ne hX51).1; have n51_3 := (b3.ne hX51).2)); (try (have z51 := Nat.le_trans E.size (Nat.le_of_eq hX51))); (try (have mr0_51 := r0.notin (Nat.le_of_eq hX51))); (try (have mhP_51 := hP.notin (Nat.le_of_eq hX51))); (try (have mrx_51 := rx.notin (Nat.le_of_eq hX51))); (try (have mhPx_51 := hPx.notin (Nat.le_of_eq hX51))); have b51 := bb; have g51 := Loc.new bb E hX51; clear bb hX51; (try replace E := E.ext hx); (try replace b3 := b3.ext hx); (try replace r0 := r0.ext hx); (try replace hP := hP.ext hx); (try replace rx := rx.ext hx); (try replace hPx := hPx.ext hx); (try (clear hcE hfE)); (try (have hcf := bcell E.low; obtain ⟨hcE, hfE⟩ := hcf)); (try (clear c3 f3)); (try (have c3 := b3.cell; have f3 := b3.free)); (try (clear k1 k4 k5)); (try (have kk := (rx).at145 HZ.out; obtain ⟨k1, k4, k5⟩ := kk))) | ((with_reducible refine at_dst 52 ?_); refine wp_own (.tmp 46) (.tmp 51) rfl info_sy und_sys rfl (by decide) syC_len syC_ones r0 E (RRow.blk (xs := [y]) syC_len b51 rfl (show 1 ≤ maxLen by decide)) rfl rfl ?_ ?_ ?_; (· (simp only [List.length_cons, List.length_nil]; (try unfold maxLen); omega)); (· (simp only [List.length_cons, List.length_nil]; (try unfold maxLen); omega)); intro L52 hL52 s52 v52 wn r1 E2 hA; replace hL52 := Lib.hid hL52; (try replace b3 := b3.grow r0 hA (of_decide_eq_true rfl)); (try replace hP := hP.grow r0 hA (of_decide_eq_true rfl)); (try replace rx := rx.grow r0 hA (of_decide_eq_true rfl)); (try replace hPx := hPx.grow r0 hA (of_decide_eq_true rfl)); clear E; have E := E2; clear E2; replace hP := hP.grow r0 hA; replace hPx := hPx.grow r0 hA; have hd2 := rx.row.growD_apart hd hA; replace rx := rx.growD hd hA; obtain ⟨o52, k52, rfl, l52, m52⟩ := ORow.len r1.row; (try (clear hcE hfE)); (try (have hcf := bcell E.low; obtain ⟨hcE, hfE⟩ := hcf)); (try (clear c3 f3)); (try (have c3 := b3.cell; have f3 := b3.free)); (try (clear k1 k4 k5)); (try (have kk := (rx).at145 HZ.out; obtain ⟨k1, k4, k5⟩ := kk)); (try simp only [Act.put, actL])))
            have hL := hL52.out
            subst hL
            have hPn := hP.snoc (hPx y hym)
            go_roundw
            case rel => exact ⟨p + 1, L ++ [y], _, _, by go_num, by omega, rfl, HSN, HS2, r1, hPn, rx, hPx, hd2, E, b3⟩
            case measure => simp [intOf]; omega
          · obtain ⟨g1, g2⟩ := kd_f hz0
            have hs2 : allR (allS l) = ([], ⟨e, y.line, y.col, y.name⟩) := by
              have h1 := scan_snoc (x := y.ps) HS.out
              rw [List.nil_append, ← clash_ps, HE.out, if_pos hz0] at h1
              obtain ⟨m, hm⟩ := HPRE.out
              unfold allR
              rw [← hm, List.map_append]
              rw [show L.map Sy.ps ++ [y].map Sy.ps = L.map Sy.ps ++ [y.ps] from rfl, scan_pre h1]
              rfl
            have HS2 := Lib.hid hs2
            have HZ0 := Lib.hid hz0
            clear hz0 hs2
            go_upto_region 9999 with (first | ((with_reducible refine at_dst 30 ?_); (refine wp_rec0 (rx.rsy) (HZ.out) syC_len rfl rfl ?_ ?_ ?_); (· kernel_rfl); (· kernel_rfl)) | ((with_reducible refine at_dst 31 ?_); go_simp; ((refine (qclash_any (Syms.mk r0.rsy (fun x hx => (hP x hx).row.reads strC_l)) y).mono ?_)); unfold IPost; rw [HE.out]; rintro e' wn ⟨rfl, hx⟩; (try replace E := E.ext hx); (try replace b3 := b3.ext hx); (try replace r0 := r0.ext hx); (try replace hP := hP.ext hx); (try replace rx := rx.ext hx); (try replace hPx := hPx.ext hx); (try (clear hcE hfE)); (try (have hcf := bcell E.low; obtain ⟨hcE, hfE⟩ := hcf)); (try (clear c3 f3)); (try (have c3 := b3.cell; have f3 := b3.free)); (try (clear k1 k4 k5)); (try (have kk := (rx).at145 HZ.out; obtain ⟨k1, k4, k5⟩ := kk))) | ((with_reducible refine at_store 3 ?_); (refine wp_put b3 rfl rfl ?_ ?_ ?_ ?_; (· kernel_rfl); (· first | rfl | kernel_rfl); (· first | decide | exact Nat.le_refl _ | simp [Act.eval, Value.cells] | (simp [Act.eval, Act.put, Value.cells]; done)); intro wn bn hb; have E2 := E.put b3 hb; (first | (replace r0 := r0.but hb b3.blk (of_decide_eq_true rfl)) | (replace r0 := r0.but0 hb mr0_3) | skip); (first | (replace hP := hP.but hb b3.blk (of_decide_eq_true rfl)) | (replace hP := hP.but0 hb mhP_3) | skip); (first | (replace rx := rx.but hb b3.blk (of_decide_eq_true rfl)) | (replace rx := rx.but0 hb mrx_3) | skip); (first | (replace hPx := hPx.but hb b3.blk (of_decide_eq_true rfl)) | (replace hPx := hPx.but0 hb mhPx_3) | skip); clear E b3; have E := E2; clear E2; have b3 := bn; clear bn hb; dsimp only [Act.put]; simp only [putA, Act.eval, Value.cells, Nat.reduceAdd, putL, sizL] at b3; (try (clear hcE hfE)); (try (have hcf := bcell E.low; obtain ⟨hcE, hfE⟩ := hcf)); (try (clear c3 f3)); (try (have c3 := b3.cell; have f3 := b3.free)); (try (clear k1 k4 k5)); (try (have kk := (rx).at145 HZ.out; obtain ⟨k1, k4, k5⟩ := kk)))) | ((with_reducible refine at_store 3 ?_); (refine wp_put b3 rfl rfl ?_ ?_ ?_ ?_; (· kernel_rfl); (· first | rfl | kernel_rfl); (· first | decide | exact Nat.le_refl _ | simp [Act.eval, Value.cells] | (simp [Act.eval, Act.put, Value.cells]; done)); intro wn bn hb; have E2 := E.put b3 hb; (first | (replace r0 := r0.but hb b3.blk (of_decide_eq_true rfl)) | (replace r0 := r0.but0 hb mr0_3) | skip); (first | (replace hP := hP.but hb b3.blk (of_decide_eq_true rfl)) | (replace hP := hP.but0 hb mhP_3) | skip); (first | (replace rx := rx.but hb b3.blk (of_decide_eq_true rfl)) | (replace rx := rx.but0 hb mrx_3) | skip); (first | (replace hPx := hPx.but hb b3.blk (of_decide_eq_true rfl)) | (replace hPx := hPx.but0 hb mhPx_3) | skip); clear E b3; have E := E2; clear E2; have b3 := bn; clear bn hb; dsimp only [Act.put]; simp only [putA, Act.eval, Value.cells, Nat.reduceAdd, putL, sizL] at b3; (try (clear hcE hfE)); (try (have hcf := bcell E.low; obtain ⟨hcE, hfE⟩ := hcf)); (try (clear c3 f3)); (try (have c3 := b3.cell; have f3 := b3.free)); (try (clear k1 k4 k5)); (try (have kk := (rx).at145 HZ.out; obtain ⟨k1, k4, k5⟩ := kk)))) | ((with_reducible refine at_reg 11 ?_); (refine wp_region_x (id := 11) (spOf []) [0, 1, 2, 3, 4, 5, 6, 7, 8, 9, 10, 11, 12] [] [13] mixed ?_ ?_); (· decide +kernel); intro K ws hx hK; (try replace E := E.ext hx); (try replace b3 := b3.ext hx); (try replace r0 := r0.ext hx); (try replace hP := hP.ext hx); (try replace rx := rx.ext hx); (try replace hPx := hPx.ext hx); (try (clear hcE hfE)); (try (have hcf := bcell E.low; obtain ⟨hcE, hfE⟩ := hcf)); (try (clear c3 f3)); (try (have c3 := b3.cell; have f3 := b3.free)); (try (clear k1 k4 k5)); (try (have kk := (rx).at145 HZ.out; obtain ⟨k1, k4, k5⟩ := kk)); dsimp only [pickE, pickL, List.getElem?_cons_succ, List.getElem?_cons_zero] at hK ⊢) | ((with_reducible refine wpE_q ?_ ?_ ?_); rfl; rfl; intro wq hq _ _; (try (clear hcE hfE)); (try (have hcf := bcell (E.ext hq).low; obtain ⟨hcE, hfE⟩ := hcf)); (try (clear c3 f3)); (try (have c3 := (b3.ext hq).cell; have f3 := (b3.ext hq).free)); (try (clear k1 k4 k5)); (try (have kk := ((rx.ext hq)).at145 HZ.out; obtain ⟨k1, k4, k5⟩ := kk))) | ((with_reducible refine at_nil 0 ?_); refine wpE_nil (fun wn hx hΦ hfp hdis => ?_); (try replace E := E.ext hx); (try replace b3 := b3.ext hx); (try replace r0 := r0.ext hx); (try replace hP := hP.ext hx); (try replace rx := rx.ext hx); (try replace hPx := hPx.ext hx); (try (clear hcE hfE)); (try (have hcf := bcell E.low; obtain ⟨hcE, hfE⟩ := hcf)); (try (clear c3 f3)); (try (have c3 := b3.cell; have f3 := b3.free)); (try (clear k1 k4 k5)); (try (have kk := (rx).at145 HZ.out; obtain ⟨k1, k4, k5⟩ := kk)); clear hΦ hfp hdis; refine hK _ _ ?_; clear hK; (try simp only [Act.put, actL])) | ((with_reducible refine wpTxt_w0 ?_ ?_ ?_); rfl; rfl; intro _ _) | (with_reducible refine wpTxt_nil ?_))
            refine bodyPost_ret (v := .tuple #[.slice none 0 0, .agg #[.int .i64 e, .int .i64 y.line, .int .i64 y.col, .string y.name]]) (by simp [results, Try.f37, go_sem, c3]) rfl ⟨none, 0, [], by rw [HS2.out]; rfl, by rw [HS2.out]; rfl, yrow_nil _ _, E.low⟩
        · have hpx : L.map Sy.ps = allS (l.take (j + 1)) := by
            rw [HLAST.out, HL.out, List.take_of_length_le (l := xs.map Sy.ps) (by rw [List.length_map]; omega), HX.out]
          have HPX := Lib.hid hpx
          clear hpx
          go_upto_region 9999 with (first | fail)
          go_roundw
          case rel => exact ⟨j + 1, L, so, sc, by go_num, by omega, rfl, HPX, HS, r0, hP, E, b3⟩
          case measure => simp [intOf]; omega
    · have hal : L.map Sy.ps = allS l := by rw [HL.out, List.take_of_length_le (by omega)]
      have hs2 : allR (allS l) = (allS l, FT.zero) := by
        unfold allR
        rw [← hal, HS.out]
      have HAL := Lib.hid hal
      have HS2 := Lib.hid hs2
      clear hal hs2
      go_upto_region 9999 with (first | ((with_reducible refine at_store 3 ?_); (refine wp_put b3 rfl rfl ?_ ?_ ?_ ?_; (· kernel_rfl); (· first | rfl | kernel_rfl); (· first | decide | exact Nat.le_refl _ | simp [Act.eval, Value.cells] | (simp [Act.eval, Act.put, Value.cells]; done)); intro wn bn hb; have E2 := E.put b3 hb; (first | (replace r0 := r0.but hb b3.blk (of_decide_eq_true rfl)) | (replace r0 := r0.but0 hb mr0_3) | skip); (first | (replace hP := hP.but hb b3.blk (of_decide_eq_true rfl)) | (replace hP := hP.but0 hb mhP_3) | skip); (first | (replace rx := rx.but hb b3.blk (of_decide_eq_true rfl)) | (replace rx := rx.but0 hb mrx_3) | skip); (first | (replace hPx := hPx.but hb b3.blk (of_decide_eq_true rfl)) | (replace hPx := hPx.but0 hb mhPx_3) | skip); clear E b3; have E := E2; clear E2; have b3 := bn; clear bn hb; dsimp only [Act.put]; simp only [putA, Act.eval, Value.cells, Nat.reduceAdd, putL, sizL] at b3; (try (clear hcE hfE)); (try (have hcf := bcell E.low; obtain ⟨hcE, hfE⟩ := hcf)); (try (clear c3 f3)); (try (have c3 := b3.cell; have f3 := b3.free)); (try (clear k1 k4 k5)); (try (have kk := (rx).at145 HZ.out; obtain ⟨k1, k4, k5⟩ := kk)))) | ((with_reducible refine at_store 3 ?_); (refine wp_put b3 rfl rfl ?_ ?_ ?_ ?_; (· kernel_rfl); (· first | rfl | kernel_rfl); (· first | decide | exact Nat.le_refl _ | simp [Act.eval, Value.cells] | (simp [Act.eval, Act.put, Value.cells]; done)); intro wn bn hb; have E2 := E.put b3 hb; (first | (replace r0 := r0.but hb b3.blk (of_decide_eq_true rfl)) | (replace r0 := r0.but0 hb mr0_3) | skip); (first | (replace hP := hP.but hb b3.blk (of_decide_eq_true rfl)) | (replace hP := hP.but0 hb mhP_3) | skip); (first | (replace rx := rx.but hb b3.blk (of_decide_eq_true rfl)) | (replace rx := rx.but0 hb mrx_3) | skip); (first | (replace hPx := hPx.but hb b3.blk (of_decide_eq_true rfl)) | (replace hPx := hPx.but0 hb mhPx_3) | skip); clear E b3; have E := E2; clear E2; have b3 := bn; clear bn hb; dsimp only [Act.put]; simp only [putA, Act.eval, Value.cells, Nat.reduceAdd, putL, sizL] at b3; (try (clear hcE hfE)); (try (have hcf := bcell E.low; obtain ⟨hcE, hfE⟩ := hcf)); (try (clear c3 f3)); (try (have c3 := b3.cell; have f3 := b3.free)); (try (clear k1 k4 k5)); (try (have kk := (rx).at145 HZ.out; obtain ⟨k1, k4, k5⟩ := kk)))))
      refine bodyPost_ret (v := .tuple #[.slice so L.length sc, .agg #[.int .i64 0, .int .i64 0, .int .i64 0, .string ⟨#[]⟩]]) (by simp [results, Try.f37, go_sem, c3]) rfl ⟨so, sc, L, by rw [HS2.out]; rfl, by rw [HS2.out]; exact HAL.out, ⟨r0, hP⟩, E.low⟩
end Go.Proofs.Ytnifgkgdphlleaa
