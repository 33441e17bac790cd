/- Qn, Vp -/
import Derived.Test.YtnifgkgdphlleaaS19
import Derived.Test.YtnifgkgdphlleaaS20
import Derived.Test.YtnifgkgdphlleaaS18
set_option linter.unusedSimpArgs false
set_option linter.unusedVariables false
namespace Go.Proofs.Ytnifgkgdphlleaa
open Go.RowKit Tk
def firstVis (vis : List PS) : List PS → FT
  | [] => FT.zero
  | x :: l => if (visR x vis).1 ≠ 0 then ⟨(visR x vis).1, x.line, x.col, (visR x vis).2⟩ else firstVis vis l
def headR (all out : List PS) (k : List PS → FT) : FT :=
  if (blockR all).2.code ≠ 0 then (blockR all).2
  else match firstClash spR out (blockR all).1 with
    | some (e, x) => ⟨e, x.line, x.col, x.name⟩
    | none => k (out ++ (blockR all).1)
mutual
def exOneR : St → List PS → FT
  | .mk h t e, vis =>
    if h.kind = 18 then
      (if (headR (allS t) vis fun v => exStsR t v).code ≠ 0 then headR (allS t) vis fun v => exStsR t v else headR (allS e) vis fun v => exStsR e v)
    else firstVis vis (adds [] (if h.kind = 17 then evEx h.pos h.cond ++ (evSts t ++ evSts e) else evStH h))
def exStsR : List St → List PS → FT
  | [], _ => FT.zero
  | s :: l, vis => if (exOneR s vis).code ≠ 0 then exOneR s vis else exStsR l vis
end
def exListR (l : List St) (out : List PS) : FT := headR (allS l) out fun v => exStsR l v
theorem exOneR_eq (s : St) (vis : List PS) : exOneR s vis = if s.h.kind = 18 then (if (exListR s.thn vis).code ≠ 0 then exListR s.thn vis else exListR s.els vis) else firstVis vis (adds [] (evSt s)) := by
  cases s with
  | mk h t e => rw [exOneR, evSt_eq]; rfl
/-! ### kinds are not 0; no clash -/
def KOK (l : List PS) : Prop := ∀ x ∈ l, x.kind ≠ 0
def NC (l : List PS) : Prop := ∀ x ∈ l, ∀ y ∈ l, spR x.kind = spR y.kind → x.name = y.name → x.kind = y.kind
theorem sp_eq {k : Int} (h : k ≠ 0) : spC k = spR k := by unfold spC spR; split <;> split <;> omega
theorem symsP_kok (h : StH) : KOK (symsP h) := by
  intro x hx
  unfold symsP at hx
  split at hx
  · rename_i hk
    rcases List.mem_cons.1 hx with rfl | hx
    · exact hk
    · split at hx
      · obtain ⟨a, _, rfl⟩ := List.mem_map.1 hx
        exact (show (2 : Int) ≠ 0 by decide)
      · cases hx
  · split at hx
    · rw [List.mem_singleton.1 hx]
      show (1 : Int) ≠ 0
      decide
    · split at hx
      · rename_i h2
        obtain ⟨a, _, rfl⟩ := List.mem_map.1 hx
        show h.op ≠ 0
        omega
      · cases hx
theorem allS_kok (l : List St) : KOK (allS l) := fun x hx => by
  obtain ⟨s, _, h⟩ := List.mem_flatMap.1 hx
  exact symsP_kok _ x h
theorem clashGP_eq {x : PS} (hx : x.kind ≠ 0) : ∀ {l : List PS} (t : Bool), KOK l → clashGP spR x l t = clashGP spC x l t
  | [], t, _ => rfl
  | y :: l, t, h => by
    have hy := h y (by simp)
    have ih : ∀ t, clashGP spR x l t = clashGP spC x l t := fun t => clashGP_eq hx t (fun z hz => h z (by simp [hz]))
    unfold clashGP
    rw [sp_eq hx, sp_eq hy]
    simp only [ih]
theorem clashPS_eq {x : PS} {l : List PS} (hx : x.kind ≠ 0) (h : KOK l) : clashPS spR l x = clashPS spC l x := clashGP_eq hx _ h
theorem scanB_eq : ∀ {l pre : List PS}, KOK pre → KOK l → scanB spR pre l = scanB spC pre l
  | [], pre, _, _ => rfl
  | x :: l, pre, hp, h => by
    have hx := h x (by simp)
    unfold scanB
    rw [clashPS_eq hx hp, scanB_eq (l := l) (pre := pre ++ [x]) (fun z hz => by
      rcases List.mem_append.1 hz with hz | hz
      · exact hp z hz
      · rw [List.mem_singleton.1 hz]; exact hx) (fun z hz => h z (by simp [hz]))]
theorem firstClash_eq {out : List PS} (ho : KOK out) : ∀ {l : List PS}, KOK l → firstClash spR out l = firstClash spC out l
  | [], _ => rfl
  | x :: l, h => by
    unfold firstClash
    rw [clashPS_eq (h x (by simp)) ho, firstClash_eq ho (fun z hz => h z (by simp [hz]))]
theorem clashGP_zero {sp : Int → Int} {x : PS} : ∀ {l : List PS} {t : Bool}, clashGP sp x l t = 0 → ∀ y ∈ l, sp y.kind = sp x.kind → y.name = x.name → y.kind = x.kind
  | y :: l, t, h, z, hz, h1, h2 => by
    unfold clashGP at h
    rcases List.mem_cons.1 hz with rfl | hz
    · rw [if_neg (by rintro (h | h); exact h h1; exact h h2)] at h
      split at h
      · cases h
      · rename_i hk; exact Classical.not_not.1 hk
    · split at h
      · exact clashGP_zero h z hz h1 h2
      · split at h
        · cases h
        · exact clashGP_zero h z hz h1 h2
theorem NC.snoc {pre : List PS} {x : PS} (h : NC pre) (hx : clashPS spR pre x = 0) : NC (pre ++ [x]) := by
  have key := clashGP_zero (show clashGP spR x pre (!x.req && isObj x.kind x.name) = 0 from hx)
  intro a ha b hb h1 h2
  rcases List.mem_append.1 ha with ha | ha <;> rcases List.mem_append.1 hb with hb | hb
  · exact h a ha b hb h1 h2
  · rw [List.mem_singleton.1 hb] at h1 h2 ⊢; exact key a ha h1 h2
  · rw [List.mem_singleton.1 ha] at h1 h2 ⊢; exact (key b hb h1.symm h2.symm).symm
  · rw [List.mem_singleton.1 ha, List.mem_singleton.1 hb]
theorem scan_nc : ∀ {l pre : List PS}, NC pre → scanB spR pre l = none → NC (pre ++ l)
  | [], pre, h, _ => by rwa [List.append_nil]
  | x :: l, pre, h, hs => by
    unfold scanB at hs
    split at hs
    · cases hs
    · rename_i hc
      have := scan_nc (l := l) (h.snoc (by simpa using hc)) hs
      simpa using this
theorem clash_nc {out : List PS} (ho : NC out) : ∀ {l : List PS}, NC l → firstClash spR out l = none → NC (out ++ l) := by
  have key : ∀ {l : List PS}, firstClash spR out l = none → ∀ x ∈ l, ∀ y ∈ out, spR y.kind = spR x.kind → y.name = x.name → y.kind = x.kind := by
    intro l
    induction l with
    | nil => intro _ x hx; cases hx
    | cons z l ih =>
      intro h x hx
      unfold firstClash at h
      split at h
      · cases h
      · rename_i hc
        rcases List.mem_cons.1 hx with rfl | hx
        · exact clashGP_zero (show clashGP spR _ out _ = 0 by simpa [clashPS] using hc)
        · exact ih h x hx
  intro l hl hf a ha b hb h1 h2
  rcases List.mem_append.1 ha with ha | ha <;> rcases List.mem_append.1 hb with hb | hb
  · exact ho a ha b hb h1 h2
  · exact key hf b hb a ha h1 h2
  · exact (key hf a ha b hb h1.symm h2.symm).symm
  · exact hl a ha b hb h1 h2
/-! ### merging -/
theorem find_decl (k : Int) (n : ByteArray) : ∀ l : List PS, (findI k n false l).isSome = declB l (k, n)
  | [] => rfl
  | x :: l => by
    have ih := find_decl k n l
    unfold findI declB
    rw [List.any_cons]
    by_cases h : x.kind = k ∧ x.name = n ∧ x.req = false
    · rw [if_pos h]
      simp [PS.key, h.1, h.2.1, h.2.2]
    · rw [if_neg h, Option.isSome_map, ih]
      have : (!x.req && decide (x.key = (k, n))) = false := by
        simp only [PS.key, Prod.mk.injEq]
        cases hr : x.req
        · simp only [Bool.not_false, Bool.true_and, decide_eq_false_iff_not]
          exact fun hh => h ⟨hh.1, hh.2, hr⟩
        · rfl
      rw [this, Bool.false_or]
      rfl
theorem find_req {k : Int} {n : ByteArray} : ∀ {out : List PS}, (∀ z ∈ out, z.key = (k, n) → z.req = true) → findI k n true out = idxP (k, n) out
  | [], _ => rfl
  | x :: l, h => by
    have ih := find_req (out := l) fun z hz => h z (by simp [hz])
    unfold findI idxP
    rw [ih]
    by_cases hk : x.key = (k, n)
    · have hk1 : x.kind = k := congrArg Prod.fst hk
      have hk2 : x.name = n := congrArg Prod.snd hk
      rw [if_pos ⟨hk1, hk2, h x (by simp) hk⟩, if_pos hk]
    · rw [if_neg (fun hh => hk (by unfold PS.key; rw [hh.1, hh.2.1])), if_neg hk]
theorem step_eq {all out : List PS} {j : Nat} {x : PS} (hk : KeptB all j out) : stepR all out x = stepB all out x := by
  unfold stepR stepB
  rw [find_decl, Bool.or_comm]
  show (if _ then _ else _) = (if (x.req && (declB all (x.kind, x.name) || _)) = true then _ else _)
  by_cases hc : (x.req && (declB all (x.kind, x.name) || isObj x.kind x.name)) = true
  · rw [if_pos hc, if_pos hc]
  · rw [if_neg hc, if_neg hc]
    cases hr : x.req with
    | false =>
      simp only [Bool.false_eq_true, if_false]
      split <;> split <;> rfl
    | true =>
      rw [hr] at hc
      have hd : declB all (x.kind, x.name) = false := by
        cases h : declB all (x.kind, x.name)
        · rfl
        · rw [h] at hc; simp at hc
      rw [find_req (k := x.kind) (n := x.name) (fun z hz hzk => by
        obtain ⟨z0, h1, h2, h3, h4, h5⟩ := hk z hz
        cases hzr : z.req
        · exfalso
          have : declB all (x.kind, x.name) = true := by
            unfold declB
            rw [List.any_eq_true]
            refine ⟨z0, List.mem_of_mem_take h1, ?_⟩
            rw [h4, hzr, ← hzk]
            simp [PS.key, h2, h3]
          rw [hd] at this; cases this
        · rfl)]
      rfl
theorem merge_eq {all : List PS} : all.foldl (stepR all) [] = mergeB all := by
  have key : ∀ j ≤ all.length, (all.take j).foldl (stepR all) [] = (all.take j).foldl (stepB all) [] ∧ KeptB all j ((all.take j).foldl (stepB all) []) := by
    intro j
    induction j with
    | zero => intro _; exact ⟨rfl, fun z hz => by cases hz⟩
    | succ j ih =>
      intro hj
      obtain ⟨h1, h2⟩ := ih (by omega)
      obtain ⟨y, hy⟩ := at_some (show j < all.length by omega)
      rw [fold_take _ _ hy, fold_take _ _ hy, h1]
      exact ⟨step_eq h2, h2.step hy⟩
  have := (key all.length (Nat.le_refl _)).1
  rw [List.take_length] at this
  exact this
theorem block_eq {all : List PS} (h : KOK all) : blockR all = blockB spC all := by
  unfold blockR blockB
  rw [scanB_eq (fun x hx => by cases hx) h]
  cases scanB spC [] all with
  | none => rw [merge_eq]
  | some q => rfl
theorem merge_kept (all : List PS) : ∀ z ∈ mergeB all, ∃ z0 ∈ all, z0.kind = z.kind ∧ z0.name = z.name := by
  have key : ∀ j ≤ all.length, KeptB all j ((all.take j).foldl (stepB all) []) := by
    intro j
    induction j with
    | zero => intro _ z hz; cases hz
    | succ j ih =>
      intro hj
      obtain ⟨y, hy⟩ := at_some (show j < all.length by omega)
      rw [fold_take _ _ hy]
      exact (ih (by omega)).step hy
  have h := key all.length (Nat.le_refl _)
  rw [List.take_length] at h
  intro z hz
  obtain ⟨z0, h1, h2, h3, -⟩ := h z hz
  exact ⟨z0, List.mem_of_mem_take h1, h2, h3⟩
/-! ### what fits -/
theorem space_cond {x y : PS} (hy : y.kind ≠ 0) : (spC y.kind ≠ spC x.kind ∨ y.name ≠ x.name) ↔ visSkip x y := by
  unfold visSkip
  rw [sp_eq hy]
  by_cases hx : x.kind = 0
  · rw [hx]
    have h0 : spC 0 = 2 := rfl
    have h1 : spR 0 = 0 := rfl
    rw [h0, h1]
    have h2 : spR y.kind ≠ 0 := by unfold spR; split <;> omega
    constructor
    · rintro (h | h)
      · exact .inr ⟨h2, .inr h⟩
      · exact .inl h
    · rintro (h | ⟨h, h3 | h3⟩)
      · exact .inr h
      · exact absurd rfl h3
      · exact .inl h3
  · rw [sp_eq hx]
    constructor
    · rintro (h | h)
      · exact .inr ⟨h, .inl hx⟩
      · exact .inl h
    · rintro (h | ⟨h, -⟩)
      · exact .inr h
      · exact .inl h
theorem vis_fits {x : PS} : ∀ {vis : List PS} {s : FS} {p : List ByteArray}, KOK vis → NC vis → s.seen = s.same → (∀ q, q ∈ p ↔ q ∈ s.perms) →
    (s.same = true → ∃ k, (k ≠ x.kind → x.kind = 0) ∧ ∀ y ∈ vis, ¬ visSkip x y → y.kind = k) →
    (visG x vis s.seen p).1 = (fitEnd x (vis.foldl (fitStep x) s)).1 ∧ ((visG x vis s.seen p).1 ≠ 0 → (visG x vis s.seen p).2 = (fitEnd x (vis.foldl (fitStep x) s)).2)
  | [], s, p, _, _, hs, hp, _ => by
    unfold visG visEnd fitEnd
    rw [List.foldl_nil, ← hs]
    cases s.seen with
    | false => exact ⟨rfl, fun _ => rfl⟩
    | true =>
      have : (fun q => decide (¬ q ∈ p)) = (fun q => decide (¬ q ∈ s.perms)) := by funext q; rw [decide_eq_decide]; rw [hp]
      simp only [Bool.true_eq_false, if_false]
      rw [this]
      cases List.find? _ x.perms with
      | none => exact ⟨rfl, fun h => absurd rfl h⟩
      | some q => exact ⟨rfl, fun _ => rfl⟩
  | y :: vis, s, p, hk, hn, hs, hp, hI => by
    have hky := hk y (by simp)
    have hk' : KOK vis := fun z hz => hk z (by simp [hz])
    have hn' : NC vis := fun a ha b hb => hn a (by simp [ha]) b (by simp [hb])
    have hI' : s.same = true → ∃ k, (k ≠ x.kind → x.kind = 0) ∧ ∀ z ∈ vis, ¬ visSkip x z → z.kind = k := fun h => by
      obtain ⟨k, h1, h2⟩ := hI h
      exact ⟨k, h1, fun z hz => h2 z (by simp [hz])⟩
    rw [List.foldl_cons]
    by_cases hsk : visSkip x y
    · rw [visG_skip hsk, show fitStep x s y = s from if_pos ((space_cond hky).2 hsk)]
      exact vis_fits hk' hn' hs hp hI'
    · have hst : fitStep x s y = if y.kind = x.kind ∨ x.kind = 0 then ⟨true, true, s.perms ++ y.perms⟩ else ⟨true, s.same, s.perms⟩ := if_neg (fun h => hsk ((space_cond hky).1 h))
      have hsame : ∀ z ∈ vis, ¬ visSkip x z → z.kind = y.kind := fun z hz hzs => by
        have hkz := hk z (by simp [hz])
        have h1 : ¬ (spC y.kind ≠ spC x.kind ∨ y.name ≠ x.name) := fun h => hsk ((space_cond hky).1 h)
        have h2 : ¬ (spC z.kind ≠ spC x.kind ∨ z.name ≠ x.name) := fun h => hzs ((space_cond hkz).1 h)
        simp only [not_or, Classical.not_not] at h1 h2
        rw [sp_eq hky] at h1
        rw [sp_eq hkz] at h2
        exact hn z (by simp [hz]) y (by simp) (h2.1.trans h1.1.symm) (h2.2.trans h1.2.symm)
      by_cases hkk : x.kind ≠ 0 ∧ y.kind ≠ x.kind
      · rw [visG_bad hsk hkk, hst, if_neg (by rintro (h | h); exact hkk.2 h; exact hkk.1 h)]
        have hsf : s.same = false := by
          cases hss : s.same
          · rfl
          · exfalso
            obtain ⟨k, h1, h2⟩ := hI hss
            have h3 := h2 y (by simp) hsk
            rw [h3] at hkk
            exact hkk.1 (h1 hkk.2)
        have hbad : ∀ (l : List PS) (s : FS), s.seen = true → s.same = false → (∀ z ∈ l, z.kind ≠ 0) → (∀ z ∈ l, ¬ visSkip x z → z.kind = y.kind) → fitEnd x (l.foldl (fitStep x) s) = (13, x.name) := by
          intro l
          induction l with
          | nil =>
            intro s h1 h2 _ _
            unfold fitEnd
            rw [List.foldl_nil, h1, h2]; rfl
          | cons z l ih =>
            intro s h1 h2 h3 h4
            rw [List.foldl_cons]
            have hz0 := h3 z (by simp)
            by_cases hz : visSkip x z
            · rw [show fitStep x s z = s from if_pos ((space_cond hz0).2 hz)]
              exact ih s h1 h2 (fun q hq => h3 q (by simp [hq])) (fun q hq => h4 q (by simp [hq]))
            · have hzy := h4 z (by simp) hz
              rw [show fitStep x s z = _ from if_neg (fun h => hz ((space_cond hz0).1 h)), if_neg (by rw [hzy]; rintro (h | h); exact hkk.2 h; exact hkk.1 h)]
              exact ih _ rfl h2 (fun q hq => h3 q (by simp [hq])) (fun q hq => h4 q (by simp [hq]))
        rw [hbad vis ⟨true, s.same, s.perms⟩ rfl hsf hk' hsame]
        exact ⟨rfl, fun _ => rfl⟩
      · have hor : y.kind = x.kind ∨ x.kind = 0 := by
          by_cases h0 : x.kind = 0
          · exact .inr h0
          · by_cases h1 : y.kind = x.kind
            · exact .inl h1
            · exact absurd ⟨h0, h1⟩ hkk
        rw [visG_hit hsk hkk, hst, if_pos hor]
        exact vis_fits (s := ⟨true, true, s.perms ++ y.perms⟩) hk' hn' rfl (fun q => by rw [joinN_mem, hp, List.mem_append]) (fun _ => ⟨y.kind, fun h => hor.resolve_left h, hsame⟩)
theorem vis_eq {x : PS} {vis : List PS} (hk : KOK vis) (hn : NC vis) : (visR x vis).1 = (fitsC x vis).1 ∧ ((visR x vis).1 ≠ 0 → (visR x vis).2 = (fitsC x vis).2) :=
  vis_fits (s := ⟨false, false, []⟩) hk hn rfl (fun q => Iff.rfl) (fun h => by cases h)
theorem firstVis_eq {vis : List PS} (hk : KOK vis) (hn : NC vis) : ∀ l : List PS, firstVis vis l = firstFit vis l
  | [] => rfl
  | x :: l => by
    obtain ⟨h1, h2⟩ := vis_eq (x := x) hk hn
    unfold firstVis firstFit
    rw [firstVis_eq hk hn l]
    by_cases hc : (visR x vis).1 = 0
    · rw [if_neg (by simpa using hc), if_neg (by rw [← h1]; simpa using hc)]
    · rw [if_pos hc, if_pos (by rw [← h1]; exact hc), h2 hc, h1]
theorem head_eq {all out : List PS} (ha : KOK all) (ho : KOK out) (hn : NC out) {k1 k2 : List PS → FT} (h : ∀ vis, KOK vis → NC vis → k1 vis = k2 vis) : headR all out k1 = headL all out k2 := by
  unfold headR headL
  rw [block_eq ha]
  split
  · rfl
  · rename_i hc
    have hb : (blockB spC all).1 = mergeB all ∧ scanB spR [] all = none := by
      rw [scanB_eq (fun x hx => by cases hx) ha]
      unfold blockB at hc ⊢
      cases hs : scanB spC [] all with
      | none => exact ⟨rfl, rfl⟩
      | some q =>
        exfalso
        rw [hs] at hc
        have : ∀ (l pre : List PS) (q : Int × PS), scanB spC pre l = some q → q.1 ≠ 0 := by
          intro l
          induction l with
          | nil => intro pre q hq; cases hq
          | cons x l ih =>
            intro pre q hq
            rw [scanB] at hq
            split at hq
            · rename_i hc
              injection hq with hq
              subst hq; exact hc
            · exact ih _ _ hq
        exact hc (this _ _ _ hs)
    rw [hb.1]
    have hkm : KOK (mergeB all) := fun z hz => by
      obtain ⟨z0, h1, h2, -⟩ := merge_kept all z hz
      rw [← h2]; exact ha z0 h1
    have hnm : NC (mergeB all) := fun a ha' b hb' h1 h2 => by
      obtain ⟨a0, a1, a2, a3⟩ := merge_kept all a ha'
      obtain ⟨b0, b1, b2, b3⟩ := merge_kept all b hb'
      have hall := scan_nc (l := all) (pre := []) (fun x hx => by cases hx) hb.2
      rw [← a2, ← b2]
      exact hall a0 (by simpa using a1) b0 (by simpa using b1) (by rw [a2, b2]; exact h1) (by rw [a3, b3]; exact h2)
    rw [firstClash_eq ho hkm]
    cases hf : firstClash spC out (mergeB all) with
    | some q => rfl
    | none =>
      refine h _ (fun x hx => ?_) ?_
      · rcases List.mem_append.1 hx with hx | hx
        · exact ho x hx
        · exact hkm x hx
      · exact clash_nc hn hnm (by rw [firstClash_eq ho hkm]; exact hf)
mutual
theorem exOne_same : ∀ (s : St) (vis : List PS), KOK vis → NC vis → exOneR s vis = exOne s vis
  | .mk h t e, vis, hk, hn => by
    have h1 : headR (allS t) vis (fun v => exStsR t v) = headL (allS t) vis (fun v => exSts t v) := head_eq (allS_kok t) hk hn fun v k n => exSts_same t v k n
    have h2 : headR (allS e) vis (fun v => exStsR e v) = headL (allS e) vis (fun v => exSts e v) := head_eq (allS_kok e) hk hn fun v k n => exSts_same e v k n
    rw [exOneR, exOne, h1, h2, firstVis_eq hk hn]
theorem exSts_same : ∀ (l : List St) (vis : List PS), KOK vis → NC vis → exStsR l vis = exSts l vis
  | [], vis, _, _ => by rw [exStsR, exSts]
  | s :: l, vis, hk, hn => by rw [exStsR, exSts, exOne_same s vis hk hn, exSts_same l vis hk hn]
end
theorem exList_same (l : List St) : exListR l [] = exList l [] := head_eq (allS_kok l) (fun x hx => by cases hx) (fun x hx => by cases hx) fun v k n => exSts_same l v k n
end Go.Proofs.Ytnifgkgdphlleaa
set_option linter.unusedSimpArgs false
set_option linter.unusedVariables false
namespace Go.Proofs.Ytnifgkgdphlleaa
open Go.RowKit Tk
theorem alloc_eq {K : Act → World → Prop} {a : Act} {w : World} {cs cs' : Array Value} {t : TypeId} {z : Nat × Nat} (h : cs = cs') (k : K a (w.alloc (.cells cs' t z))) : K a (w.alloc (.cells cs t z)) := h ▸ k
theorem Ext_oks {w : World} {s : St} (h : s.ok w) : St.oks w [s] := by unfold St.oks St.oks; exact ⟨h, trivial⟩
theorem few_one {s : St} (h : s.fewl) : St.fewls [s] := by unfold St.fewls St.fewls; exact ⟨h, trivial⟩
theorem evSts_one {s : St} (h : ¬ s.h.kind = 18) : evSts [s] = evSt s := by rw [evSts, evSts, if_neg h, List.append_nil]
theorem row_one {w0 w : World} {F : List Nat} {X : Nat} {s : St} (b : Blk w X 51 (stC s).toArray) : RRow w 55 stC (.slice (some ⟨X, 0, none⟩) 1 1) [s] := RRow.blk (xs := [s]) stC_len b (by simp) (show 1 ≤ maxLen by decide)
theorem fit_step {vis : List PS} {l : List PS} {j : Nat} {y : PS} {R : FT} (h : Hid (firstFit vis (l.drop j) = R)) (hy : l[j]? = some y) : Hid ((if (fitsC y vis).1 ≠ 0 then ⟨(fitsC y vis).1, y.line, y.col, (fitsC y vis).2⟩ else firstFit vis (l.drop (j + 1))) = R) := by
  have := h.out
  rw [drop_at hy] at this
  exact this
set_option maxHeartbeats 800000 in
set_option maxRecDepth 100000 in
theorem one_rest {w : World} {s : St} {vs : List Sy} {a : Option Addr} {n c : Nat} (hk : ¬ s.h.kind = 18) (hs : s.ok w) (hfs : s.fewl) (hev : s.evf) (hv : Syms w (.slice a n c) vs) (hwv : wtU (vs.map Sy.ps) ≤ 1900000000000) :
    Calls Try.prog 26 #[.agg (stC s).toArray, .slice a n c] w (FPost (exOne s (vs.map Sy.ps)) w) := by
  obtain ⟨R, hR⟩ : ∃ R, exOne s (vs.map Sy.ps) = R := ⟨_, rfl⟩
  rw [hR]
  rw [exOne_eq, if_neg hk] at hR
  have hwu : wtU [] + wtE (evSts [s]) ≤ 1900000000000 := by
    rw [evSts_one hk]
    have := hev.self
    have h0 : wtU [] = 0 := rfl
    omega
  rw [← evSts_one hk] at hR
  have HR := Lib.hid hR
  obtain ⟨g1, -⟩ := kd_f hk
  have HK := Lib.hid hk
  clear hR hk
  go_enter Try.func26, Try.ntmps26
  have E := Only.refl [] w
  go_upto_region 7 with (first | ((with_reducible refine at_dst 2 ?_); go_simp; (generalize hX2 : Array.size (World.heap _) = X2); refine new_block hX2 ?_; intro wn bb hx; (try (have n4_2 := (b4.ne hX2).1; have n2_4 := (b4.ne hX2).2)); (try (have n5_2 := (b5.ne hX2).1; have n2_5 := (b5.ne hX2).2)); (try (have n7_2 := (b7.ne hX2).1; have n2_7 := (b7.ne hX2).2)); (try (have z2 := Nat.le_trans E.size (Nat.le_of_eq hX2))); have b2 := Loc.new bb E hX2; clear bb hX2; (try replace E := E.ext hx); (try replace b4 := b4.ext hx); (try replace b5 := b5.ext hx); (try replace b7 := b7.ext hx); (try (clear hcE hfE)); (try (have hcf := bcell E.low; obtain ⟨hcE, hfE⟩ := hcf)); (try (clear c2 f2)); (try (have c2 := b2.cell; have f2 := b2.free)); (try (clear c4 f4)); (try (have c4 := b4.cell; have f4 := b4.free)); (try (clear c5 f5)); (try (have c5 := b5.cell; have f5 := b5.free)); (try (clear c7 f7)); (try (have c7 := b7.cell; have f7 := b7.free))) | ((with_reducible refine at_dst 4 ?_); go_simp; (generalize hX4 : Array.size (World.heap _) = X4); refine new_block hX4 ?_; intro wn bb hx; (try (have n2_4 := (b2.ne hX4).1; have n4_2 := (b2.ne hX4).2)); (try (have n5_4 := (b5.ne hX4).1; have n4_5 := (b5.ne hX4).2)); (try (have n7_4 := (b7.ne hX4).1; have n4_7 := (b7.ne hX4).2)); (try (have z4 := Nat.le_trans E.size (Nat.le_of_eq hX4))); have b4 := Loc.new bb E hX4; clear bb hX4; (try replace E := E.ext hx); (try replace b2 := b2.ext hx); (try replace b5 := b5.ext hx); (try replace b7 := b7.ext hx); (try (clear hcE hfE)); (try (have hcf := bcell E.low; obtain ⟨hcE, hfE⟩ := hcf)); (try (clear c2 f2)); (try (have c2 := b2.cell; have f2 := b2.free)); (try (clear c4 f4)); (try (have c4 := b4.cell; have f4 := b4.free)); (try (clear c5 f5)); (try (have c5 := b5.cell; have f5 := b5.free)); (try (clear c7 f7)); (try (have c7 := b7.cell; have f7 := b7.free))) | ((with_reducible refine at_dst 25 ?_); (refine wp_all b2.blk rfl rfl ?_ ?_ ?_); (· kernel_rfl); (· kernel_rfl)) | ((with_reducible refine at_dst 26 ?_); go_simp; (refine alloc_eq (cs' := (stC s).toArray) ?_ ?_); (· kernel_rfl); (generalize hX26 : Array.size (World.heap _) = X26); refine new_block hX26 ?_; intro wn b26 hx; clear hX26; (try replace E := E.ext hx); (try replace b2 := b2.ext hx); (try replace b4 := b4.ext hx); (try replace b5 := b5.ext hx); (try replace b7 := b7.ext hx); (try (clear hcE hfE)); (try (have hcf := bcell E.low; obtain ⟨hcE, hfE⟩ := hcf)); (try (clear c2 f2)); (try (have c2 := b2.cell; have f2 := b2.free)); (try (clear c4 f4)); (try (have c4 := b4.cell; have f4 := b4.free)); (try (clear c5 f5)); (try (have c5 := b5.cell; have f5 := b5.free)); (try (clear c7 f7)); (try (have c7 := b7.cell; have f7 := b7.free))) | ((with_reducible refine at_dst 27 ?_); go_simp; ((refine (uses_any (row_one (w0 := w) (F := []) b26) (Ext_oks (hs.ext E.low)) (few_one hfs) hwu).mono ?_)); unfold YPost; rintro e wn ⟨ua, uc, us, rfl, HU, hU, hx⟩; replace HU := Lib.hid HU; (try replace E := E.ext hx); (try replace b2 := b2.ext hx); (try replace b4 := b4.ext hx); (try replace b5 := b5.ext hx); (try replace b7 := b7.ext hx); (try (clear hcE hfE)); (try (have hcf := bcell E.low; obtain ⟨hcE, hfE⟩ := hcf)); (try (clear c2 f2)); (try (have c2 := b2.cell; have f2 := b2.free)); (try (clear c4 f4)); (try (have c4 := b4.cell; have f4 := b4.free)); (try (clear c5 f5)); (try (have c5 := b5.cell; have f5 := b5.free)); (try (clear c7 f7)); (try (have c7 := b7.cell; have f7 := b7.free))))
  obtain ⟨W, hW⟩ : ∃ W, W = wn := ⟨_, rfl⟩
  subst hW
  have hE0 := E
  have hvW := hv.ext E.low
  have hUr := hU.row
  have hUp := hU.perms
  have hul : us.length ≤ 9223372036854775807 := (RRow.lens hUr).2
  clear E hcE hfE hU hv
  have E := Only.refl [] W
  go_loopw [29] (fun i wr => ∃ j : Nat, i = .int .i64 j ∧ j ≤ us.length ∧ Hid (firstFit (vs.map Sy.ps) ((us.map Sy.ps).drop j) = R) ∧ Only [] W wr ∧ Loc [] w wr X4 31 #[.int .i64 0, .int .i64 0, .int .i64 0, .string ⟨#[]⟩]) (fun i _ => us.length - (intOf i).toNat)
  case atStart => exact ⟨0, rfl, Nat.zero_le _, Lib.hid (by rw [HU.out]; exact HR.out), E, b4⟩
  case round =>
    clear E b4 c4 f4
    obtain ⟨j, rfl, hj, HF, E, b4⟩ := hrel
    have c4 := b4.cell
    have f4 := b4.free
    obtain ⟨hcE, hfE⟩ := bcell E.low
    by_cases hlt : j < us.length
    · obtain ⟨y, hy⟩ := at_some hlt
      have hym := List.mem_of_getElem? hy
      have HY := Lib.hid hy
      obtain ⟨g, o, rfl, hg, -⟩ := RRow.cells hUr hlt
      have HS := fit_step HF (map_at (f := Sy.ps) hy)
      obtain ⟨⟨fc, fs⟩, hfi⟩ : ∃ F, fitsC y.ps (vs.map Sy.ps) = F := ⟨_, rfl⟩
      have HFI := Lib.hid hfi
      have hs := HS.out
      rw [hfi] at hs
      dsimp only at hs
      clear hy hfi HS
      by_cases hz : fc = 0
      · rw [if_neg (by simpa using hz)] at hs
        obtain ⟨g3, g4⟩ := kd_t hz
        have HS := Lib.hid hs
        clear hs hz
        go_upto_region 9999 with (first | ((with_reducible refine at_dst 32 ?_); (refine wp_rec2 ((hUr.ext E.low)) (HY.out) syC_len rfl rfl ?_ ?_ ?_); (· kernel_rfl); (· kernel_rfl)) | ((with_reducible refine at_dst 7 ?_); go_simp; (generalize hX7 : Array.size (World.heap _) = X7); refine new_block hX7 ?_; intro wn bb hx; (try (have n2_7 := (b2.ne hX7).1; have n7_2 := (b2.ne hX7).2)); (try (have n4_7 := (b4.ne hX7).1; have n7_4 := (b4.ne hX7).2)); (try (have n5_7 := (b5.ne hX7).1; have n7_5 := (b5.ne hX7).2)); (try (have z7 := Nat.le_trans E.size (Nat.le_of_eq hX7))); have b7 := Loc.new bb E hX7; clear bb hX7; (try replace E := E.ext hx); (try replace b2 := b2.ext hx); (try replace b4 := b4.ext hx); (try replace b5 := b5.ext hx); (try (clear hcE hfE)); (try (have hcf := bcell E.low; obtain ⟨hcE, hfE⟩ := hcf)); (try (clear c2 f2)); (try (have c2 := b2.cell; have f2 := b2.free)); (try (clear c4 f4)); (try (have c4 := b4.cell; have f4 := b4.free)); (try (clear c5 f5)); (try (have c5 := b5.cell; have f5 := b5.free)); (try (clear c7 f7)); (try (have c7 := b7.cell; have f7 := b7.free))) | ((with_reducible refine at_dst 34 ?_); (refine wp_all b7.blk rfl rfl ?_ ?_ ?_); (· kernel_rfl); (· kernel_rfl)) | ((with_reducible refine at_dst 36 ?_); go_simp; ((refine (fits_any (hvW.ext E.low) y (Reads.ext (hUp y hym) E.low) hwv).mono ?_)); unfold SIPost; rw [HFI.out]; dsimp only; rintro e wn ⟨rfl, hx⟩; (try replace E := E.ext hx); (try replace b2 := b2.ext hx); (try replace b4 := b4.ext hx); (try replace b5 := b5.ext hx); (try replace b7 := b7.ext hx); (try (clear hcE hfE)); (try (have hcf := bcell E.low; obtain ⟨hcE, hfE⟩ := hcf)); (try (clear c2 f2)); (try (have c2 := b2.cell; have f2 := b2.free)); (try (clear c4 f4)); (try (have c4 := b4.cell; have f4 := b4.free)); (try (clear c5 f5)); (try (have c5 := b5.cell; have f5 := b5.free)); (try (clear c7 f7)); (try (have c7 := b7.cell; have f7 := b7.free))) | ((with_reducible refine at_store 7 ?_); (refine wp_put b7 rfl rfl ?_ ?_ ?_ ?_; (· kernel_rfl); (· first | rfl | kernel_rfl); (· first | decide | exact Nat.le_refl _ | simp [Act.eval, Value.cells] | (simp [Act.eval, Act.put, Value.cells]; done)); intro wn bn hb; have E2 := E.put b7 hb; (try replace b2 := b2.but hb n2_7); (try replace b4 := b4.but hb n4_7); (try replace b5 := b5.but hb n5_7); clear E b7; have E := E2; clear E2; have b7 := bn; clear bn hb; dsimp only [Act.put]; simp only [putA, Act.eval, Value.cells, Nat.reduceAdd, putL, sizL] at b7; (try (clear hcE hfE)); (try (have hcf := bcell E.low; obtain ⟨hcE, hfE⟩ := hcf)); (try (clear c2 f2)); (try (have c2 := b2.cell; have f2 := b2.free)); (try (clear c4 f4)); (try (have c4 := b4.cell; have f4 := b4.free)); (try (clear c5 f5)); (try (have c5 := b5.cell; have f5 := b5.free)); (try (clear c7 f7)); (try (have c7 := b7.cell; have f7 := b7.free)))))
        go_roundw
        case rel => exact ⟨j + 1, by go_num, by omega, HS.out, E, b4⟩
        case measure => simp [intOf]; omega
      · rw [if_pos hz] at hs
        obtain ⟨g3, g4⟩ := kd_f hz
        have HS := Lib.hid hs
        clear hs hz
        go_upto_region 11 with (first | ((with_reducible refine at_dst 32 ?_); (refine wp_rec2 ((hUr.ext E.low)) (HY.out) syC_len rfl rfl ?_ ?_ ?_); (· kernel_rfl); (· kernel_rfl)) | ((with_reducible refine at_dst 7 ?_); go_simp; (generalize hX7 : Array.size (World.heap _) = X7); refine new_block hX7 ?_; intro wn bb hx; (try (have n2_7 := (b2.ne hX7).1; have n7_2 := (b2.ne hX7).2)); (try (have n4_7 := (b4.ne hX7).1; have n7_4 := (b4.ne hX7).2)); (try (have n5_7 := (b5.ne hX7).1; have n7_5 := (b5.ne hX7).2)); (try (have z7 := Nat.le_trans E.size (Nat.le_of_eq hX7))); have b7 := Loc.new bb E hX7; clear bb hX7; (try replace E := E.ext hx); (try replace b2 := b2.ext hx); (try replace b4 := b4.ext hx); (try replace b5 := b5.ext hx); (try (clear hcE hfE)); (try (have hcf := bcell E.low; obtain ⟨hcE, hfE⟩ := hcf)); (try (clear c2 f2)); (try (have c2 := b2.cell; have f2 := b2.free)); (try (clear c4 f4)); (try (have c4 := b4.cell; have f4 := b4.free)); (try (clear c5 f5)); (try (have c5 := b5.cell; have f5 := b5.free)); (try (clear c7 f7)); (try (have c7 := b7.cell; have f7 := b7.free))) | ((with_reducible refine at_dst 34 ?_); (refine wp_all b7.blk rfl rfl ?_ ?_ ?_); (· kernel_rfl); (· kernel_rfl)) | ((with_reducible refine at_dst 36 ?_); go_simp; ((refine (fits_any (hvW.ext E.low) y (Reads.ext (hUp y hym) E.low) hwv).mono ?_)); unfold SIPost; rw [HFI.out]; dsimp only; rintro e wn ⟨rfl, hx⟩; (try replace E := E.ext hx); (try replace b2 := b2.ext hx); (try replace b4 := b4.ext hx); (try replace b5 := b5.ext hx); (try replace b7 := b7.ext hx); (try (clear hcE hfE)); (try (have hcf := bcell E.low; obtain ⟨hcE, hfE⟩ := hcf)); (try (clear c2 f2)); (try (have c2 := b2.cell; have f2 := b2.free)); (try (clear c4 f4)); (try (have c4 := b4.cell; have f4 := b4.free)); (try (clear c5 f5)); (try (have c5 := b5.cell; have f5 := b5.free)); (try (clear c7 f7)); (try (have c7 := b7.cell; have f7 := b7.free))) | ((with_reducible refine at_store 7 ?_); (refine wp_put b7 rfl rfl ?_ ?_ ?_ ?_; (· kernel_rfl); (· first | rfl | kernel_rfl); (· first | decide | exact Nat.le_refl _ | simp [Act.eval, Value.cells] | (simp [Act.eval, Act.put, Value.cells]; done)); intro wn bn hb; have E2 := E.put b7 hb; (try replace b2 := b2.but hb n2_7); (try replace b4 := b4.but hb n4_7); (try replace b5 := b5.but hb n5_7); clear E b7; have E := E2; clear E2; have b7 := bn; clear bn hb; dsimp only [Act.put]; simp only [putA, Act.eval, Value.cells, Nat.reduceAdd, putL, sizL] at b7; (try (clear hcE hfE)); (try (have hcf := bcell E.low; obtain ⟨hcE, hfE⟩ := hcf)); (try (clear c2 f2)); (try (have c2 := b2.cell; have f2 := b2.free)); (try (clear c4 f4)); (try (have c4 := b4.cell; have f4 := b4.free)); (try (clear c5 f5)); (try (have c5 := b5.cell; have f5 := b5.free)); (try (clear c7 f7)); (try (have c7 := b7.cell; have f7 := b7.free)))))
        have E2 : Only [] w wn := hE0.trans E (fun x hx => by cases hx)
        clear E hcE hfE
        have E := E2
        clear E2
        obtain ⟨hcE, hfE⟩ := bcell E.low
        go_upto_region 9999 with (first | ((with_reducible refine at_store 4 ?_); (refine wp_put b4 rfl rfl ?_ ?_ ?_ ?_; (· kernel_rfl); (· first | rfl | kernel_rfl); (· first | decide | exact Nat.le_refl _ | simp [Act.eval, Value.cells] | (simp [Act.eval, Act.put, Value.cells]; done)); intro wn bn hb; have E2 := E.put b4 hb; (try replace b2 := b2.but hb n2_4); (try replace b5 := b5.but hb n5_4); (try replace b7 := b7.but hb n7_4); clear E b4; have E := E2; clear E2; have b4 := bn; clear bn hb; dsimp only [Act.put]; simp only [putA, Act.eval, Value.cells, Nat.reduceAdd, putL, sizL] at b4; (try (clear hcE hfE)); (try (have hcf := bcell E.low; obtain ⟨hcE, hfE⟩ := hcf)); (try (clear c2 f2)); (try (have c2 := b2.cell; have f2 := b2.free)); (try (clear c4 f4)); (try (have c4 := b4.cell; have f4 := b4.free)); (try (clear c5 f5)); (try (have c5 := b5.cell; have f5 := b5.free)); (try (clear c7 f7)); (try (have c7 := b7.cell; have f7 := b7.free)))) | ((with_reducible refine at_store 4 ?_); (refine wp_put b4 rfl rfl ?_ ?_ ?_ ?_; (· kernel_rfl); (· first | rfl | kernel_rfl); (· first | decide | exact Nat.le_refl _ | simp [Act.eval, Value.cells] | (simp [Act.eval, Act.put, Value.cells]; done)); intro wn bn hb; have E2 := E.put b4 hb; (try replace b2 := b2.but hb n2_4); (try replace b5 := b5.but hb n5_4); (try replace b7 := b7.but hb n7_4); clear E b4; have E := E2; clear E2; have b4 := bn; clear bn hb; dsimp only [Act.put]; simp only [putA, Act.eval, Value.cells, Nat.reduceAdd, putL, sizL] at b4; (try (clear hcE hfE)); (try (have hcf := bcell E.low; obtain ⟨hcE, hfE⟩ := hcf)); (try (clear c2 f2)); (try (have c2 := b2.cell; have f2 := b2.free)); (try (clear c4 f4)); (try (have c4 := b4.cell; have f4 := b4.free)); (try (clear c5 f5)); (try (have c5 := b5.cell; have f5 := b5.free)); (try (clear c7 f7)); (try (have c7 := b7.cell; have f7 := b7.free)))) | ((with_reducible refine at_store 4 ?_); (refine wp_put b4 rfl rfl ?_ ?_ ?_ ?_; (· kernel_rfl); (· first | rfl | kernel_rfl); (· first | decide | exact Nat.le_refl _ | simp [Act.eval, Value.cells] | (simp [Act.eval, Act.put, Value.cells]; done)); intro wn bn hb; have E2 := E.put b4 hb; (try replace b2 := b2.but hb n2_4); (try replace b5 := b5.but hb n5_4); (try replace b7 := b7.but hb n7_4); clear E b4; have E := E2; clear E2; have b4 := bn; clear bn hb; dsimp only [Act.put]; simp only [putA, Act.eval, Value.cells, Nat.reduceAdd, putL, sizL] at b4; (try (clear hcE hfE)); (try (have hcf := bcell E.low; obtain ⟨hcE, hfE⟩ := hcf)); (try (clear c2 f2)); (try (have c2 := b2.cell; have f2 := b2.free)); (try (clear c4 f4)); (try (have c4 := b4.cell; have f4 := b4.free)); (try (clear c5 f5)); (try (have c5 := b5.cell; have f5 := b5.free)); (try (clear c7 f7)); (try (have c7 := b7.cell; have f7 := b7.free)))) | ((with_reducible refine at_store 4 ?_); (refine wp_put b4 rfl rfl ?_ ?_ ?_ ?_; (· kernel_rfl); (· first | rfl | kernel_rfl); (· first | decide | exact Nat.le_refl _ | simp [Act.eval, Value.cells] | (simp [Act.eval, Act.put, Value.cells]; done)); intro wn bn hb; have E2 := E.put b4 hb; (try replace b2 := b2.but hb n2_4); (try replace b5 := b5.but hb n5_4); (try replace b7 := b7.but hb n7_4); clear E b4; have E := E2; clear E2; have b4 := bn; clear bn hb; dsimp only [Act.put]; simp only [putA, Act.eval, Value.cells, Nat.reduceAdd, putL, sizL] at b4; (try (clear hcE hfE)); (try (have hcf := bcell E.low; obtain ⟨hcE, hfE⟩ := hcf)); (try (clear c2 f2)); (try (have c2 := b2.cell; have f2 := b2.free)); (try (clear c4 f4)); (try (have c4 := b4.cell; have f4 := b4.free)); (try (clear c5 f5)); (try (have c5 := b5.cell; have f5 := b5.free)); (try (clear c7 f7)); (try (have c7 := b7.cell; have f7 := b7.free)))))
        refine bodyPost_ret (v := .agg #[.int .i64 fc, .int .i64 y.line, .int .i64 y.col, .string fs]) (by simp [results, Try.f26, go_sem, c4]) rfl ?_
        exact fpost HS.out.symm E.low
    · have hz : FT.zero = R := by
        have := HF.out
        rw [List.drop_of_length_le (by rw [List.length_map]; omega)] at this
        exact this
      have HZ := Lib.hid hz
      clear hz
      have E2 : Only [] w wr := hE0.trans E (fun x hx => by cases hx)
      clear E hcE hfE
      have E := E2
      clear E2
      obtain ⟨hcE, hfE⟩ := bcell E.low
      go_upto_region 9999 with (first | ((with_reducible refine at_store 4 ?_); (refine wp_put b4 rfl rfl ?_ ?_ ?_ ?_; (· kernel_rfl); (· first | rfl | kernel_rfl); (· first | decide | exact Nat.le_refl _ | simp [Act.eval, Value.cells] | (simp [Act.eval, Act.put, Value.cells]; done)); intro wn bn hb; have E2 := E.put b4 hb; (try replace b2 := b2.but hb n2_4); (try replace b5 := b5.but hb n5_4); (try replace b7 := b7.but hb n7_4); clear E b4; have E := E2; clear E2; have b4 := bn; clear bn hb; dsimp only [Act.put]; simp only [putA, Act.eval, Value.cells, Nat.reduceAdd, putL, sizL] at b4; (try (clear hcE hfE)); (try (have hcf := bcell E.low; obtain ⟨hcE, hfE⟩ := hcf)); (try (clear c2 f2)); (try (have c2 := b2.cell; have f2 := b2.free)); (try (clear c4 f4)); (try (have c4 := b4.cell; have f4 := b4.free)); (try (clear c5 f5)); (try (have c5 := b5.cell; have f5 := b5.free)); (try (clear c7 f7)); (try (have c7 := b7.cell; have f7 := b7.free)))) | ((with_reducible refine at_store 4 ?_); (refine wp_put b4 rfl rfl ?_ ?_ ?_ ?_; (· kernel_rfl); (· first | rfl | kernel_rfl); (· first | decide | exact Nat.le_refl _ | simp [Act.eval, Value.cells] | (simp [Act.eval, Act.put, Value.cells]; done)); intro wn bn hb; have E2 := E.put b4 hb; (try replace b2 := b2.but hb n2_4); (try replace b5 := b5.but hb n5_4); (try replace b7 := b7.but hb n7_4); clear E b4; have E := E2; clear E2; have b4 := bn; clear bn hb; dsimp only [Act.put]; simp only [putA, Act.eval, Value.cells, Nat.reduceAdd, putL, sizL] at b4; (try (clear hcE hfE)); (try (have hcf := bcell E.low; obtain ⟨hcE, hfE⟩ := hcf)); (try (clear c2 f2)); (try (have c2 := b2.cell; have f2 := b2.free)); (try (clear c4 f4)); (try (have c4 := b4.cell; have f4 := b4.free)); (try (clear c5 f5)); (try (have c5 := b5.cell; have f5 := b5.free)); (try (clear c7 f7)); (try (have c7 := b7.cell; have f7 := b7.free)))) | ((with_reducible refine at_store 4 ?_); (refine wp_put b4 rfl rfl ?_ ?_ ?_ ?_; (· kernel_rfl); (· first | rfl | kernel_rfl); (· first | decide | exact Nat.le_refl _ | simp [Act.eval, Value.cells] | (simp [Act.eval, Act.put, Value.cells]; done)); intro wn bn hb; have E2 := E.put b4 hb; (try replace b2 := b2.but hb n2_4); (try replace b5 := b5.but hb n5_4); (try replace b7 := b7.but hb n7_4); clear E b4; have E := E2; clear E2; have b4 := bn; clear bn hb; dsimp only [Act.put]; simp only [putA, Act.eval, Value.cells, Nat.reduceAdd, putL, sizL] at b4; (try (clear hcE hfE)); (try (have hcf := bcell E.low; obtain ⟨hcE, hfE⟩ := hcf)); (try (clear c2 f2)); (try (have c2 := b2.cell; have f2 := b2.free)); (try (clear c4 f4)); (try (have c4 := b4.cell; have f4 := b4.free)); (try (clear c5 f5)); (try (have c5 := b5.cell; have f5 := b5.free)); (try (clear c7 f7)); (try (have c7 := b7.cell; have f7 := b7.free)))) | ((with_reducible refine at_store 4 ?_); (refine wp_put b4 rfl rfl ?_ ?_ ?_ ?_; (· kernel_rfl); (· first | rfl | kernel_rfl); (· first | decide | exact Nat.le_refl _ | simp [Act.eval, Value.cells] | (simp [Act.eval, Act.put, Value.cells]; done)); intro wn bn hb; have E2 := E.put b4 hb; (try replace b2 := b2.but hb n2_4); (try replace b5 := b5.but hb n5_4); (try replace b7 := b7.but hb n7_4); clear E b4; have E := E2; clear E2; have b4 := bn; clear bn hb; dsimp only [Act.put]; simp only [putA, Act.eval, Value.cells, Nat.reduceAdd, putL, sizL] at b4; (try (clear hcE hfE)); (try (have hcf := bcell E.low; obtain ⟨hcE, hfE⟩ := hcf)); (try (clear c2 f2)); (try (have c2 := b2.cell; have f2 := b2.free)); (try (clear c4 f4)); (try (have c4 := b4.cell; have f4 := b4.free)); (try (clear c5 f5)); (try (have c5 := b5.cell; have f5 := b5.free)); (try (clear c7 f7)); (try (have c7 := b7.cell; have f7 := b7.free)))))
      refine bodyPost_ret (v := .agg #[.int .i64 0, .int .i64 0, .int .i64 0, .string ⟨#[]⟩]) (by simp [results, Try.f26, go_sem, c4]) rfl ?_
      exact fpost HZ.out.symm E.low
end Go.Proofs.Ytnifgkgdphlleaa
