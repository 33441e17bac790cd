/- ScopeAdds, plainly; within, mentions, parts, size and large of the laws. -/
import Derived.Test.YtnifgkgdphlleaaVr
set_option linter.unusedSimpArgs false
set_option linter.unusedVariables false
namespace Go.Proofs.Ytnifgkgdphlleaa
open Go.RowKit Tk
/-! no symbol of statements, of any depth, has the name -/
mutual
def St.free (N : ByteArray) : St → Prop
  | .mk h t e => (∀ x ∈ symsP h, ¬ x.name = N) ∧ St.frees N t ∧ St.frees N e
def St.frees (N : ByteArray) : List St → Prop
  | [] => True
  | s :: l => s.free N ∧ St.frees N l
end
theorem St.frees.all {N : ByteArray} : ∀ {l : List St}, St.frees N l → ∀ x ∈ allS l, ¬ x.name = N
  | [], _, x, hx => by cases hx
  | s :: l, h, x, hx => by
    unfold St.frees at h
    obtain ⟨h1, h2⟩ := h
    have e : allS (s :: l) = symsP s.h ++ allS l := rfl
    rw [e] at hx
    rcases List.mem_append.1 hx with hx | hx
    · cases s; unfold St.free at h1; exact h1.1 x hx
    · exact h2.all x hx
section
variable {N : ByteArray} {z : PS} {sp : Int → Int}
theorem clash_new (hz : z.name = N) {x : PS} (hx : ¬ x.name = N) : ∀ (A B : List PS) (t : Bool), clashGP sp x (A ++ z :: B) t = clashGP sp x (A ++ B) t
  | [], B, t => by
    have h : z.name ≠ x.name := fun e => hx (e ▸ hz)
    rw [List.nil_append, clashGP, if_pos (.inr h)]; rfl
  | y :: A, B, t => by
    rw [List.cons_append, List.cons_append, clashGP, clashGP, clash_new hz hx A B, clash_new hz hx A B]
theorem clashPS_new (hz : z.name = N) {x : PS} (hx : ¬ x.name = N) (A B : List PS) : clashPS sp (A ++ z :: B) x = clashPS sp (A ++ B) x := clash_new hz hx A B _
theorem scan_new (hz : z.name = N) : ∀ (l A B : List PS), (∀ x ∈ l, ¬ x.name = N) → scanB sp (A ++ z :: B) l = scanB sp (A ++ B) l
  | [], _, _, _ => rfl
  | x :: l, A, B, h => by
    rw [scanB, scanB, clashPS_new hz (h x (by simp))]
    have ih := scan_new hz l A (B ++ [x]) fun y hy => h y (by simp [hy])
    rw [show (A ++ z :: B) ++ [x] = A ++ z :: (B ++ [x]) by simp, ih, List.append_assoc]
theorem firstClash_new (hz : z.name = N) (A B : List PS) : ∀ l : List PS, (∀ x ∈ l, ¬ x.name = N) → firstClash sp (A ++ z :: B) l = firstClash sp (A ++ B) l
  | [], _ => rfl
  | x :: l, h => by
    rw [firstClash, firstClash, clashPS_new hz (h x (by simp)), firstClash_new hz A B l fun y hy => h y (by simp [hy])]
theorem fit_new (hz : z.name = N) {x : PS} (hx : ¬ x.name = N) (A B : List PS) : fitsC x (A ++ z :: B) = fitsC x (A ++ B) := by
  unfold fitsC
  have h : z.name ≠ x.name := fun e => hx (e ▸ hz)
  have e : ∀ s, fitStep x s z = s := fun s => by unfold fitStep; rw [if_pos (.inr h)]
  rw [List.foldl_append, List.foldl_cons, e, ← List.foldl_append]
theorem fit_seen {x : PS} : ∀ (l : List PS) (s : FS), (∀ y ∈ l, ¬ y.name = x.name) → l.foldl (fitStep x) s = s
  | [], _, _ => rfl
  | y :: l, s, h => by
    have e : fitStep x s y = s := by unfold fitStep; rw [if_pos (.inr (h y (by simp)))]
    rw [List.foldl_cons, e, fit_seen l s fun z hz => h z (by simp [hz])]
/-- a use that fits is of a name that is visible -/
theorem fit_name {x : PS} {vis : List PS} (hv : ∀ y ∈ vis, ¬ y.name = N) (h : (fitsC x vis).1 = 0) : ¬ x.name = N := fun e => by
  unfold fitsC at h
  rw [fit_seen vis _ fun y hy hc => hv y hy (hc.trans e)] at h
  unfold fitEnd at h
  simp at h
theorem firstFit_new (hz : z.name = N) {A B : List PS} (hv : ∀ y ∈ A ++ B, ¬ y.name = N) : ∀ l : List PS, (firstFit (A ++ B) l).code = 0 → (firstFit (A ++ z :: B) l).code = 0
  | [], h => h
  | x :: l, h => by
    rw [firstFit] at h ⊢
    split at h
    · rename_i hc; exact absurd h hc
    · rename_i hc
      have hc0 : (fitsC x (A ++ B)).1 = 0 := by simpa using hc
      rw [fit_new hz (fit_name hv hc0), if_neg hc]
      exact firstFit_new hz hv l h
theorem decl_new (hr : z.req = true) (l : List PS) (k : Int × ByteArray) : declB (z :: l) k = declB l k := by simp [declB, hr]
theorem idx_new {k : Int × ByteArray} (hk : ¬ z.key = k) (out : List PS) : idxP k (z :: out) = (idxP k out).map (· + 1) := by
  rw [idxP, if_neg hk]
theorem step_new (hz : z.name = N) (hr : z.req = true) {x : PS} (hx : ¬ x.name = N) (l out : List PS) : stepB (z :: l) (z :: out) x = z :: stepB l out x := by
  have hk : ¬ z.key = x.key := fun e => hx ((congrArg Prod.snd e).symm.trans hz)
  unfold stepB
  rw [decl_new hr, idx_new hk]
  split
  · rfl
  · cases idxP x.key out with
    | none => rfl
    | some i =>
      simp only [Option.map_some]
      split
      · rw [List.modify_succ_cons]
      · rfl
theorem fold_new (hz : z.name = N) (hr : z.req = true) (all : List PS) : ∀ (l out : List PS), (∀ x ∈ l, ¬ x.name = N) → l.foldl (stepB (z :: all)) (z :: out) = z :: l.foldl (stepB all) out
  | [], _, _ => rfl
  | x :: l, out, h => by
    rw [List.foldl_cons, List.foldl_cons, step_new hz hr (h x (by simp)), fold_new hz hr all l _ fun y hy => h y (by simp [hy])]
theorem decl_none {all : List PS} (h : ∀ x ∈ all, ¬ x.name = N) {k : Int × ByteArray} (hk : k.2 = N) : declB all k = false := by
  unfold declB
  rw [List.any_eq_false]
  intro x hx hc
  simp only [Bool.and_eq_true, decide_eq_true_eq] at hc
  exact h x hx ((congrArg Prod.snd hc.2).trans hk)
theorem merge_new (hz : z.name = N) (hr : z.req = true) (ho : isObj z.kind z.name = false) {all : List PS} (h : ∀ x ∈ all, ¬ x.name = N) : mergeB (z :: all) = z :: mergeB all := by
  unfold mergeB
  rw [List.foldl_cons]
  have e : stepB (z :: all) [] z = [z] := by
    unfold stepB
    rw [decl_new hr, decl_none (k := z.key) h hz, hr, ho]
    rfl
  rw [e, fold_new hz hr all all [] h]
theorem scan_self (hr : z.req = true) : clashPS sp [] z = 0 := by
  unfold clashPS
  rw [hr]; rfl
theorem block_new (hz : z.name = N) (hr : z.req = true) (ho : isObj z.kind z.name = false) {all : List PS} (h : ∀ x ∈ all, ¬ x.name = N) (h0 : (blockB sp all).2.code = 0) : blockB sp (z :: all) = (z :: (blockB sp all).1, (blockB sp all).2) := by
  unfold blockB at h0 ⊢
  rw [scanB, scan_self hr, if_neg (by simp)]
  have e : scanB sp ([] ++ [z]) all = scanB sp [] all := scan_new (sp := sp) hz all [] [] h
  rw [e]
  cases hs : scanB sp [] all with
  | none => rw [merge_new hz hr ho h]
  | some q =>
    exfalso
    rw [hs] at h0
    have : ∀ (l pre : List PS) (q : Int × PS), scanB sp pre l = some q → q.1 ≠ 0 := by
      intro l
      induction l with
      | nil => intro pre q hq; cases hq
      | cons x l ih =>
        intro pre q hq
        rw [scanB] at hq
        split at hq
        · rename_i hc
          injection hq with hq
          subst hq; exact hc
        · exact ih _ _ hq
    exact this _ _ _ hs h0
theorem merge_names {all : List PS} (h : ∀ x ∈ all, ¬ x.name = N) : ∀ x ∈ mergeB all, ¬ x.name = N := by
  unfold mergeB
  have key : ∀ (l out : List PS), (∀ x ∈ l, ¬ x.name = N) → (∀ x ∈ out, ¬ x.name = N) → ∀ x ∈ l.foldl (stepB all) out, ¬ x.name = N := by
    intro l
    induction l with
    | nil => intro out _ ho; exact ho
    | cons y l ih =>
      intro out hl ho
      refine ih _ (fun x hx => hl x (by simp [hx])) ?_
      have hn : ∀ x ∈ out ++ [y], ¬ x.name = N := fun x hx => by
        rcases List.mem_append.1 hx with hx | hx
        · exact ho x hx
        · rw [List.mem_singleton.1 hx]; exact hl y (by simp)
      unfold stepB
      split
      · exact ho
      · split
        · split
          · intro x hx
            obtain ⟨k, hk, e⟩ := List.getElem_of_mem hx
            rw [List.getElem_modify] at e
            subst e
            split
            · exact ho (out[k]'(by simpa using hk)) (List.getElem_mem _)
            · exact ho _ (List.getElem_mem _)
          · exact hn
        · exact hn
  exact key all [] h (by simp)
theorem block_names {all : List PS} (h : ∀ x ∈ all, ¬ x.name = N) : ∀ x ∈ (blockB sp all).1, ¬ x.name = N := by
  unfold blockB
  split
  · simp
  · exact merge_names h
theorem headL_code {all out : List PS} {k : List PS → FT} (h : (headL all out k).code = 0) : (blockB spC all).2.code = 0 ∧ firstClash spC out (blockB spC all).1 = none ∧ (k (out ++ (blockB spC all).1)).code = 0 := by
  unfold headL at h
  split at h
  · rename_i hc; exact absurd h hc
  · rename_i hc
    refine ⟨by simpa using hc, ?_⟩
    have hne : ∀ (l : List PS) (q : Int × PS), firstClash spC out l = some q → q.1 ≠ 0 := by
      intro l
      induction l with
      | nil => intro q hq; cases hq
      | cons x l ih =>
        intro q hq
        rw [firstClash] at hq
        split at hq
        · rename_i hc; injection hq with hq; subst hq; exact hc
        · exact ih _ hq
    cases hf : firstClash spC out (blockB spC all).1 with
    | some q => rw [hf] at h; exact absurd h (hne _ _ hf)
    | none => rw [hf] at h; exact ⟨rfl, h⟩
theorem headL_of {all out : List PS} {k : List PS → FT} (h1 : (blockB spC all).2.code = 0) (h2 : firstClash spC out (blockB spC all).1 = none) (h3 : (k (out ++ (blockB spC all).1)).code = 0) : (headL all out k).code = 0 := by
  unfold headL
  rw [if_neg (by simp [h1]), h2]; exact h3
theorem headL_new (hz : z.name = N) {all A B : List PS} {k : List PS → FT} (ha : ∀ x ∈ all, ¬ x.name = N) (hv : ∀ x ∈ A ++ B, ¬ x.name = N) (h : (headL all (A ++ B) k).code = 0)
    (hk : ∀ B', (∀ x ∈ A ++ B', ¬ x.name = N) → (k (A ++ B')).code = 0 → (k (A ++ z :: B')).code = 0) : (headL all (A ++ z :: B) k).code = 0 := by
  obtain ⟨h1, h2, h3⟩ := headL_code h
  refine headL_of h1 ?_ ?_
  · rw [firstClash_new hz A B _ (block_names ha)]; exact h2
  · rw [List.append_assoc, List.cons_append]
    rw [List.append_assoc] at h3
    refine hk _ (fun x hx => ?_) h3
    rw [← List.append_assoc] at hx
    rcases List.mem_append.1 hx with hx | hx
    · exact hv x hx
    · exact block_names ha x hx
mutual
theorem exOne_new (hz : z.name = N) : ∀ (s : St) (A B : List PS), s.free N → (∀ x ∈ A ++ B, ¬ x.name = N) → (exOne s (A ++ B)).code = 0 → (exOne s (A ++ z :: B)).code = 0
  | .mk h t e, A, B, hf, hv, hc => by
    unfold St.free at hf
    obtain ⟨-, ft, fe⟩ := hf
    rw [exOne] at hc ⊢
    split
    · rename_i h18
      rw [if_pos h18] at hc
      have k1 : (headL (allS t) (A ++ B) fun v => exSts t v).code = 0 := by
        split at hc
        · rename_i hn; exact absurd hc hn
        · rename_i hn; simpa using hn
      have k2 : (headL (allS e) (A ++ B) fun v => exSts e v).code = 0 := by
        rw [if_neg (by simp [k1])] at hc; exact hc
      have g1 := headL_new (k := fun v => exSts t v) hz ft.all hv k1 fun B' hv' hc' => exSts_new hz t A B' ft hv' hc'
      have g2 := headL_new (k := fun v => exSts e v) hz fe.all hv k2 fun B' hv' hc' => exSts_new hz e A B' fe hv' hc'
      rw [if_neg (by simp [g1])]; exact g2
    · rename_i h18
      rw [if_neg h18] at hc
      exact firstFit_new hz hv _ hc
theorem exSts_new (hz : z.name = N) : ∀ (l : List St) (A B : List PS), St.frees N l → (∀ x ∈ A ++ B, ¬ x.name = N) → (exSts l (A ++ B)).code = 0 → (exSts l (A ++ z :: B)).code = 0
  | [], _, _, _, _, h => by rw [exSts] at h ⊢; exact h
  | s :: l, A, B, hf, hv, hc => by
    unfold St.frees at hf
    rw [exSts] at hc ⊢
    have k1 : (exOne s (A ++ B)).code = 0 := by
      split at hc
      · rename_i hn; exact absurd hc hn
      · rename_i hn; simpa using hn
    have k2 : (exSts l (A ++ B)).code = 0 := by
      rw [if_neg (by simp [k1])] at hc; exact hc
    have g1 := exOne_new hz s A B hf.1 hv k1
    rw [if_neg (by simp [g1])]
    exact exSts_new hz l A B hf.2 hv k2
end
/-- the law -/
theorem adds_law {r : St} {l : List St} (hs : symsP r.h = [z]) (h19 : r.h.kind = 19) (hz : z.name = N) (hr : z.req = true) (ho : isObj z.kind z.name = false) (hf : St.frees N l) (h : (exList l []).code = 0) : (exList (r :: l) []).code = 0 := by
  unfold exList at h ⊢
  obtain ⟨h1, h2, h3⟩ := headL_code h
  have e : allS (r :: l) = z :: allS l := by show symsP r.h ++ allS l = _; rw [hs]; rfl
  rw [e]
  have hb := block_new (sp := spC) hz hr ho hf.all h1
  refine headL_of (by rw [hb]; exact h1) ?_ ?_
  · rw [hb]
    show firstClash spC [] (z :: (blockB spC (allS l)).1) = none
    rw [firstClash, scan_self hr, if_neg (by simp)]; exact h2
  · rw [hb]
    show (exSts (r :: l) ([] ++ z :: (blockB spC (allS l)).1)).code = 0
    rw [exSts]
    have g0 : exOne r ([] ++ z :: (blockB spC (allS l)).1) = FT.zero := by
      rw [exOne_eq, if_neg (by omega)]
      have ev : evSt r = [] := by
        rw [evSt_eq, if_neg (by omega)]
        unfold evStH evRuH
        simp [h19]
      rw [ev]; rfl
    rw [g0, if_neg (by simp [FT.zero])]
    exact exSts_new hz l [] _ hf (fun x hx => block_names hf.all x (by simpa using hx)) h3
end
set_option maxHeartbeats 1000000 in
theorem within_any {w : World} {a : Option Addr} {n c : Nat} {xs : List ByteArray} (h : Reads w (.slice a n c) xs) (s : ByteArray) :
    Calls Try.prog 17 #[.string s, .slice a n c] w (BPost (decide (s ∈ xs)) w) := by
  obtain ⟨rfl, n2⟩ := h.lens
  go_enter Try.func17, Try.ntmps17
  go_upto_region 2 with (first | fail)
  go_loop [5] (fun i => ∃ j : Nat, i = .int .i64 j ∧ j ≤ xs.length ∧ Hid (∀ k (_ : k < j) (hk : k < xs.length), ¬ xs[k] = s)) (fun i => xs.length - (intOf i).toNat)
  case atStart => exact ⟨0, rfl, Nat.zero_le _, fun k hk => by omega⟩
  case round =>
    obtain ⟨j, rfl, hj, hA⟩ := hrel
    by_cases hlt : j < xs.length
    · obtain ⟨g, o, rfl, hg, k0⟩ := h.cells hlt
      by_cases he : xs[j] = s
      · have g1 := txt_t he
        have HE := Lib.hid he
        clear he
        go_upto_region 9999 with (first | fail)
        go_ret
        refine ⟨ret_bool ?_, Ext.refl _⟩
        rw [← HE.out]; simp
      · have g1 := txt_f he
        have HE := Lib.hid he
        clear he
        go_upto_region 9999 with (first | fail)
        go_round
        case rel => exact ⟨j + 1, by go_num, by omega, none_snoc (p := fun x => x = s) hA.out hlt HE.out⟩
        case measure => simp [intOf]; omega
    · go_upto_region 9999 with (first | fail)
      go_ret
      refine ⟨ret_bool ?_, Ext.refl _⟩
      have : ¬ s ∈ xs := fun hm => by
        obtain ⟨k, hk, e⟩ := List.getElem_of_mem hm
        exact hA k (by omega) hk e
      simp [this]
/-- some integer -/
def NPost (w : World) (e : Ending) (w' : World) : Prop := ∃ i : Int, e = .returned (.int .i64 i) ∧ Ext w w'
theorem Ex.oks.mem {w : World} {l : List Ex} (h : Ex.oks w l) {x : Ex} (hx : x ∈ l) : x.ok w := by
  obtain ⟨i, hi, rfl⟩ := List.getElem_of_mem hx
  exact h.at hi
@[reducible] def PartsOk (N : Nat) : Prop := ∀ (x : Ex) (i : Int) {w : World}, x.ok w → x.sz < N → Calls Try.prog 20 #[.agg (exC x).toArray, .int .i64 i] w (NPost w)
set_option maxHeartbeats 4000000 in
set_option maxRecDepth 100000 in
theorem parts_step {N : Nat} (IH : Hid (PartsOk N)) : PartsOk (N + 1) := by
  intro x mo w hxo hz
  rw [Ex.sz_kids] at hz
  have n2 := (RRow.lens hxo.kids).2
  have n3 := (Reads.lens hxo.names).2
  go_enter Try.func20, Try.ntmps20
  have E := Only.refl [] w
  go_upto_region 3 with (first | ((with_reducible refine at_dst 2 ?_); go_simp; (generalize hX2 : Array.size (World.heap _) = X2); refine new_block hX2 ?_; intro wn bb hx; (try (have z2 := Nat.le_trans E.size (Nat.le_of_eq hX2))); have b2 := Loc.new bb E hX2; clear bb hX2; (try replace E := E.ext hx); (try (clear hcE hfE)); (try (have hcf := bcell E.low; obtain ⟨hcE, hfE⟩ := hcf)); (try (clear c2 f2)); (try (have c2 := b2.cell; have f2 := b2.free))))
  go_loopw [5, 6] (fun v i wr => ∃ (j : Nat) (n : Int), i = .int .i64 j ∧ j ≤ x.kids.length ∧ v = .int .i64 n ∧ Only [] w wr ∧ Loc [] w wr X2 42 (exC x).toArray) (fun _ i _ => x.kids.length - (intOf i).toNat)
  case atStart => exact ⟨0, _, rfl, Nat.zero_le _, rfl, E, b2⟩
  case round =>
    clear E b2 c2 f2 hcE hfE
    obtain ⟨j, n, rfl, hj, rfl, E, b2⟩ := hrel
    have c2 := b2.cell
    have f2 := b2.free
    obtain ⟨hcE, hfE⟩ := bcell E.low
    by_cases hlt : j < x.kids.length
    · by_cases hn : n < mo
      · obtain ⟨y, hy⟩ := at_some hlt
        have hyo := hxo.subs.mem (List.mem_of_getElem? hy)
        have hsz : y.sz < N := by have := Ex.sz_at hy; omega
        have HY := Lib.hid hy
        obtain ⟨g, o, hgo, hg, -⟩ := RRow.cells hxo.kids hlt
        have hkc : RRow w 10 exC (.slice (some ⟨g, o, none⟩) x.kids.length x.h.hk.c) x.kids := hgo ▸ hxo.kids
        clear hy
        go_upto_region 9999 with (first | ((with_reducible refine at_dst 28 ?_); (refine wp_rec2 ((RRow.ext hkc E.low)) (HY.out) exC_len rfl rfl ?_ ?_ ?_); (· kernel_rfl); (· kernel_rfl)) | ((with_reducible refine at_dst 32 ?_); go_simp; ((refine (IH.out y _ (hyo.ext E.low) hsz).mono ?_)); unfold NPost; rintro e wn ⟨r, rfl, hx⟩; (try replace E := E.ext hx); (try replace b2 := b2.ext hx); (try (clear hcE hfE)); (try (have hcf := bcell E.low; obtain ⟨hcE, hfE⟩ := hcf)); (try (clear c2 f2)); (try (have c2 := b2.cell; have f2 := b2.free))))
        try simp only [← hgo]
        clear hgo
        go_roundw
        case rel => exact ⟨j + 1, _, by go_num, by omega, rfl, E, b2⟩
        case measure => simp [intOf]; omega
      · go_upto_region 9999 with (first | fail)
        go_ret
        exact ⟨_, rfl, E.low⟩
    · go_upto_region 9999 with (first | fail)
      go_ret
      exact ⟨_, rfl, E.low⟩
theorem parts_any : ∀ N : Nat, PartsOk N
  | 0 => fun _ _ _ _ hz => absurd hz (Nat.not_lt_zero _)
  | N + 1 => parts_step (Lib.hid (parts_any N))
@[reducible] def SizeOk (N : Nat) : Prop := ∀ (l : List St) (i : Int) {w : World} {a : Option Addr} {n c : Nat}, RRow w 55 stC (.slice a n c) l → St.oks w l → St.szs l < N → Calls Try.prog 12 #[.slice a n c, .int .i64 i] w (NPost w)
theorem St.sz_kid {s : St} {l : List St} {N : Nat} (h : s ∈ l) (hz : St.szs l < N + 1) : St.szs s.thn < N ∧ St.szs s.els < N := by
  obtain ⟨i, hi, rfl⟩ := List.getElem_of_mem h
  have h1 := St.sz_at (List.getElem?_eq_getElem hi)
  rw [St.sz_kids] at h1
  omega
set_option maxHeartbeats 8000000 in
set_option maxRecDepth 100000 in
theorem size_step {N : Nat} (IH : Hid (SizeOk N)) : SizeOk (N + 1) := by
  intro l mo w a n c hl hok hz
  obtain ⟨rfl, n2⟩ := RRow.lens hl
  go_enter Try.func12, Try.ntmps12
  have E := Only.refl [] w
  go_upto_region 3 with (first | fail)
  go_loopw [5, 6] (fun v i wr => ∃ (j : Nat) (n : Int), i = .int .i64 j ∧ j ≤ l.length ∧ v = .int .i64 n ∧ Only [] w wr) (fun _ i _ => l.length - (intOf i).toNat)
  case atStart => exact ⟨0, _, rfl, Nat.zero_le _, rfl, E⟩
  case round =>
    clear E
    obtain ⟨j, n, rfl, hj, rfl, E⟩ := hrel
    obtain ⟨hcE, hfE⟩ := bcell E.low
    by_cases hlt : j < l.length
    · by_cases hn : n < mo
      · obtain ⟨y, hy⟩ := at_some hlt
        have hym := List.mem_of_getElem? hy
        have hyo := hok.mem hym
        obtain ⟨hz1, hz2⟩ := St.sz_kid hym hz
        have HY := Lib.hid hy
        obtain ⟨g, o, rfl, hg, -⟩ := RRow.cells hl hlt
        clear hy
        go_upto_region 9999 with (first | ((with_reducible refine at_dst 22 ?_); (refine wp_rec2 ((RRow.ext hl E.low)) (HY.out) stC_len rfl rfl ?_ ?_ ?_); (· kernel_rfl); (· kernel_rfl)) | ((with_reducible refine at_dst 7 ?_); go_simp; (generalize hX7 : Array.size (World.heap _) = X7); refine new_block hX7 ?_; intro wn bb hx; (try (have z7 := Nat.le_trans E.size (Nat.le_of_eq hX7))); have b7 := Loc.new bb E hX7; clear bb hX7; (try replace E := E.ext hx); (try (clear hcE hfE)); (try (have hcf := bcell E.low; obtain ⟨hcE, hfE⟩ := hcf)); (try (clear c7 f7)); (try (have c7 := b7.cell; have f7 := b7.free))) | ((with_reducible refine at_dst 107 ?_); go_simp; ((refine (parts_any _ y.h.cond _ (Ex.ok.ext E.low hyo.hd.cond) (Nat.lt_succ_self _)).mono ?_)); unfold NPost; rintro e wn ⟨r1, rfl, hx⟩; (try replace E := E.ext hx); (try replace b7 := b7.ext hx); (try (clear hcE hfE)); (try (have hcf := bcell E.low; obtain ⟨hcE, hfE⟩ := hcf)); (try (clear c7 f7)); (try (have c7 := b7.cell; have f7 := b7.free))) | ((with_reducible refine at_dst 115 ?_); go_simp; ((refine (IH.out y.thn _ (hyo.thn.ext E.low) (hyo.thns.ext E.low) hz1).mono ?_)); unfold NPost; rintro e wn ⟨r2, rfl, hx⟩; (try replace E := E.ext hx); (try replace b7 := b7.ext hx); (try (clear hcE hfE)); (try (have hcf := bcell E.low; obtain ⟨hcE, hfE⟩ := hcf)); (try (clear c7 f7)); (try (have c7 := b7.cell; have f7 := b7.free))) | ((with_reducible refine at_dst 122 ?_); go_simp; ((refine (IH.out y.els _ (hyo.els.ext E.low) (hyo.elss.ext E.low) hz2).mono ?_)); unfold NPost; rintro e wn ⟨r3, rfl, hx⟩; (try replace E := E.ext hx); (try replace b7 := b7.ext hx); (try (clear hcE hfE)); (try (have hcf := bcell E.low; obtain ⟨hcE, hfE⟩ := hcf)); (try (clear c7 f7)); (try (have c7 := b7.cell; have f7 := b7.free))) | ((with_reducible refine at_store 7 ?_); (refine wp_put b7 rfl rfl ?_ ?_ ?_ ?_; (· kernel_rfl); (· first | rfl | kernel_rfl); (· first | decide | exact Nat.le_refl _ | simp [Act.eval, Value.cells] | (simp [Act.eval, Act.put, Value.cells]; done)); intro wn bn hb; have E2 := E.put b7 hb; skip; clear E b7; have E := E2; clear E2; have b7 := bn; clear bn hb; dsimp only [Act.put]; simp only [putA, Act.eval, Array.getD_eq_getD_getElem?, List.getElem?_toArray, List.getElem?_cons_succ, List.getElem?_cons_zero, Option.getD_some, Value.cells, List.toList_toArray, List.size_toArray, List.length_cons, List.length_nil, Nat.reduceAdd, List.take_succ_cons, List.take_zero, List.drop_succ_cons, List.drop_zero, List.drop_nil, List.cons_append, List.nil_append, List.append_nil, syC_size, stC_size, exC_size, nsC_size, lvC_size, rgC_size, cxC_size, spanC_size] at b7; (try (clear hcE hfE)); (try (have hcf := bcell E.low; obtain ⟨hcE, hfE⟩ := hcf)); (try (clear c7 f7)); (try (have c7 := b7.cell; have f7 := b7.free)))) | ((with_reducible refine at_reg 7 ?_); (refine wp_region_s (id := 7) [0, 2, 2, 2, 2, 2, 2, 2, 2, 2, 2, 2, 2, 2, 2, 2, 2, 2, 2, 2, 2, 2, 2, 2, 2, 2, 2, 2, 2, 2, 2, 2, 2, 2, 3, 2, 0] [0, 1, 2, 3, 4, 5, 6, 7, 8, 9, 10, 11, 12, 13, 14, 15, 16, 17, 18, 19, 20, 21, 22, 23, 24, 25, 26, 27, 28, 29, 30, 31, 32, 33, 34, 35, 36] mixed ?_ ?_); (· decide +kernel); intro K hK wn hx; (try replace E := E.ext hx); (try replace b7 := b7.ext hx); (try (clear hcE hfE)); (try (have hcf := bcell E.low; obtain ⟨hcE, hfE⟩ := hcf)); (try (clear c7 f7)); (try (have c7 := b7.cell; have f7 := b7.free)); dsimp only [pickL, List.getElem?_cons_succ, List.getElem?_cons_zero]) | ((with_reducible refine at_tag 0 ?_); (first | ((with_reducible refine wpTag_q ?_ ?_ ?_); rfl; rfl; intro _ _) | ((with_reducible refine wpTag_w ?_ ?_ ?_); rfl; rfl; intro _ _) | ((with_reducible refine wpTag_no ?_ ?_); (· first | rfl | (go_simp; done))) | ((with_reducible refine wpTag_s ?_ ?_); rfl; intro _ _; go_simp))) | ((with_reducible refine at_tag 2 ?_); (first | ((with_reducible refine wpTag_no ?_ ?_); (· first | rfl | (go_simp; done))) | (apply wpTag_2; (· rfl); (· first | rfl | go_simp); (· intro wq hq; (try (clear hcE hfE)); (try (have hcf := bcell (E.ext hq).low; obtain ⟨hcE, hfE⟩ := hcf)); (try (clear c7 f7)); (try (have c7 := (b7.ext hq).cell; have f7 := (b7.ext hq).free)); go_simp <;> rfl); (try simp only [Act.put, List.setIfInBounds_toArray, List.set_cons_zero, List.set_cons_succ])))) | ((with_reducible refine at_tag 3 ?_); (first | ((with_reducible refine wpTag_no ?_ ?_); (· first | rfl | (go_simp; done))) | ((refine wpTag_3 ?_ ?_ (fun K2 hK2 => ?_)); (· rfl); (· first | rfl | go_simp)))) | ((with_reducible refine at_and ?_ ?_); (· first | exact hx | exact Ext.refl _)) | ((with_reducible refine at_tagn ?_); (with_reducible refine wpTag_nil ?_)) | ((with_reducible refine at_reg 8 ?_); (refine wp_region_s (id := 8) [0, 2, 2, 0, 0, 2, 2, 2, 0, 0, 2, 3, 2, 3, 2, 0] [0, 1, 2, 3, 4, 5, 8, 9, 10, 11, 12, 6, 7, 13, 14, 15] mixed ?_ ?_); (· decide +kernel); intro K hK wn hx; (try replace E := E.ext hx); (try replace b7 := b7.ext hx); (try (clear hcE hfE)); (try (have hcf := bcell E.low; obtain ⟨hcE, hfE⟩ := hcf)); (try (clear c7 f7)); (try (have c7 := b7.cell; have f7 := b7.free)); dsimp only [pickL, List.getElem?_cons_succ, List.getElem?_cons_zero]) | ((with_reducible refine at_tag 0 ?_); (first | ((with_reducible refine wpTag_q ?_ ?_ ?_); rfl; rfl; intro _ _) | ((with_reducible refine wpTag_w ?_ ?_ ?_); rfl; rfl; intro _ _) | ((with_reducible refine wpTag_no ?_ ?_); (· first | rfl | (go_simp; done))) | ((with_reducible refine wpTag_s ?_ ?_); rfl; intro _ _; go_simp))) | ((with_reducible refine at_tag 2 ?_); (first | ((with_reducible refine wpTag_no ?_ ?_); (· first | rfl | (go_simp; done))) | (apply wpTag_2; (· rfl); (· first | rfl | go_simp); (· intro wq hq; (try (clear hcE hfE)); (try (have hcf := bcell (E.ext hq).low; obtain ⟨hcE, hfE⟩ := hcf)); (try (clear c7 f7)); (try (have c7 := (b7.ext hq).cell; have f7 := (b7.ext hq).free)); go_simp <;> rfl); (try simp only [Act.put, List.setIfInBounds_toArray, List.set_cons_zero, List.set_cons_succ])))) | ((with_reducible refine at_tag 3 ?_); (first | ((with_reducible refine wpTag_no ?_ ?_); (· first | rfl | (go_simp; done))) | ((refine wpTag_3 ?_ ?_ (fun K2 hK2 => ?_)); (· rfl); (· first | rfl | go_simp)))) | ((with_reducible refine at_and ?_ ?_); (· first | exact hx | exact Ext.refl _)) | ((with_reducible refine at_tagn ?_); (with_reducible refine wpTag_nil ?_)))
        go_roundw
        case rel => exact ⟨j + 1, _, by go_num, by omega, rfl, E⟩
        case measure => simp [intOf]; omega
      · go_upto_region 9999 with (first | fail)
        go_ret
        exact ⟨_, rfl, E.low⟩
    · go_upto_region 9999 with (first | fail)
      go_ret
      exact ⟨_, rfl, E.low⟩
theorem size_any : ∀ N : Nat, SizeOk N
  | 0 => fun _ _ _ _ _ _ _ _ hz => absurd hz (Nat.not_lt_zero _)
  | N + 1 => size_step (Lib.hid (size_any N))
/-- some truth value -/
def BSome (w : World) (e : Ending) (w' : World) : Prop := ∃ b : Bool, e = .returned (.bool b) ∧ Ext w w'
set_option maxRecDepth 100000 in
theorem large_any {w : World} {l : List St} {a : Option Addr} {n c : Nat} (hl : RRow w 55 stC (.slice a n c) l) (hok : St.oks w l) : Calls Try.prog 6 #[.slice a n c] w (BSome w) := by
  go_enter Try.func6, Try.ntmps6
  have E := Only.refl [] w
  go_upto_region 9999 with (first | ((with_reducible refine at_dst 4 ?_); go_simp; ((refine (size_any _ l _ (RRow.ext hl E.low) (hok.ext E.low) (Nat.lt_succ_self _)).mono ?_)); unfold NPost; rintro e wn ⟨r, rfl, hx⟩; (try replace E := E.ext hx); (try (clear hcE hfE)); (try (have hcf := bcell E.low; obtain ⟨hcE, hfE⟩ := hcf))))
  go_ret
  exact ⟨_, rfl, E.low⟩
mutual
def St.menB (N : ByteArray) : St → Bool
  | .mk h t e => decide (h.name = N) || decide (N ∈ h.list) || decide (N ∈ h.aliases) || St.menBs N t || St.menBs N e
def St.menBs (N : ByteArray) : List St → Bool
  | [] => false
  | s :: l => s.menB N || St.menBs N l
end
theorem St.menB_eq (N : ByteArray) (s : St) : s.menB N = (decide (s.h.name = N) || decide (N ∈ s.h.list) || decide (N ∈ s.h.aliases) || St.menBs N s.thn || St.menBs N s.els) := by cases s; rw [St.menB]; rfl
theorem men_syms {N : ByteArray} {h : StH} (h1 : ¬ h.name = N) (h2 : ¬ N ∈ h.list) (h3 : ¬ N ∈ h.aliases) : ∀ x ∈ symsP h, ¬ x.name = N := by
  intro x hx
  unfold symsP at hx
  split at hx
  · rcases List.mem_cons.1 hx with rfl | hx
    · exact h1
    · split at hx
      · obtain ⟨a, ha, rfl⟩ := List.mem_map.1 hx
        exact fun e => h3 (e ▸ ha)
      · cases hx
  · split at hx
    · rw [List.mem_singleton.1 hx]; exact h1
    · split at hx
      · obtain ⟨a, ha, rfl⟩ := List.mem_map.1 hx
        exact fun e => h2 (e ▸ ha)
      · cases hx
mutual
theorem men_free {N : ByteArray} : ∀ s : St, s.menB N = false → s.free N
  | .mk h t e, hm => by
    rw [St.menB] at hm
    simp only [Bool.or_eq_false_iff, decide_eq_false_iff_not] at hm
    unfold St.free
    exact ⟨men_syms hm.1.1.1.1 hm.1.1.1.2 hm.1.1.2, men_frees t hm.1.2, men_frees e hm.2⟩
theorem men_frees {N : ByteArray} : ∀ l : List St, St.menBs N l = false → St.frees N l
  | [], _ => by unfold St.frees; trivial
  | s :: l, hm => by
    rw [St.menBs, Bool.or_eq_false_iff] at hm
    unfold St.frees
    exact ⟨men_free s hm.1, men_frees l hm.2⟩
end
theorem men_step {N : ByteArray} {l : List St} {j : Nat} {y : St} {R : Bool} (h : Hid (St.menBs N (l.drop j) = R)) (hy : l[j]? = some y) : (y.menB N || St.menBs N (l.drop (j + 1))) = R := by
  have := h.out
  rw [drop_at hy, St.menBs] at this
  exact this
@[reducible] def MenOk (M : Nat) : Prop := ∀ (l : List St) (N : ByteArray) {w : World} {a : Option Addr} {n c : Nat}, RRow w 55 stC (.slice a n c) l → St.oks w l → St.szs l < M → Calls Try.prog 10 #[.slice a n c, .string N] w (BPost (St.menBs N l) w)
set_option maxHeartbeats 8000000 in
set_option maxRecDepth 100000 in
theorem men_stepA {M : Nat} (IH : Hid (MenOk M)) : MenOk (M + 1) := by
  intro l N w a n c hl hok hz
  obtain ⟨rfl, n2⟩ := RRow.lens hl
  obtain ⟨R, hR⟩ : ∃ R, St.menBs N l = R := ⟨_, rfl⟩
  rw [hR]
  have HR := Lib.hid hR
  clear hR
  go_enter Try.func10, Try.ntmps10
  have E := Only.refl [] w
  go_upto_region 2 with (first | fail)
  go_loopw [5] (fun i wr => ∃ j : Nat, i = .int .i64 j ∧ j ≤ l.length ∧ Hid (St.menBs N (l.drop j) = R) ∧ Only [] w wr) (fun i _ => l.length - (intOf i).toNat)
  case atStart => exact ⟨0, rfl, Nat.zero_le _, HR, E⟩
  case round =>
    clear E HR
    obtain ⟨j, rfl, hj, HR, E⟩ := hrel
    obtain ⟨hcE, hfE⟩ := bcell E.low
    by_cases hlt : j < l.length
    · obtain ⟨y, hy⟩ := at_some hlt
      have hym := List.mem_of_getElem? hy
      have hyo := hok.mem hym
      obtain ⟨hz1, hz2⟩ := St.sz_kid hym hz
      have HY := Lib.hid hy
      obtain ⟨g, o, rfl, hg, -⟩ := RRow.cells hl hlt
      have hs := men_step HR hy
      rw [St.menB_eq] at hs
      clear hy HR
      obtain ⟨v1, h1⟩ : ∃ v, decide (N ∈ y.h.list) = v := ⟨_, rfl⟩
      obtain ⟨v2, h2⟩ : ∃ v, decide (N ∈ y.h.aliases) = v := ⟨_, rfl⟩
      obtain ⟨v3, h3⟩ : ∃ v, St.menBs N y.thn = v := ⟨_, rfl⟩
      obtain ⟨v4, h4⟩ : ∃ v, St.menBs N y.els = v := ⟨_, rfl⟩
      rw [h1, h2, h3, h4] at hs
      have H1 := Lib.hid h1
      have H2 := Lib.hid h2
      have H3 := Lib.hid h3
      have H4 := Lib.hid h4
      clear h1 h2 h3 h4
      by_cases h0 : y.h.name = N
      · have g1 := txt_t h0
        rw [decide_eq_true h0] at hs
        simp only [Bool.true_or] at hs
        have HS := Lib.hid hs
        clear hs h0
        go_upto_region 9999 with (first | ((with_reducible refine at_dst 16 ?_); (refine wp_rec2 ((RRow.ext hl E.low)) (HY.out) stC_len rfl rfl ?_ ?_ ?_); (· kernel_rfl); (· kernel_rfl)) | ((with_reducible refine at_dst 6 ?_); go_simp; (generalize hX6 : Array.size (World.heap _) = X6); refine new_block hX6 ?_; intro wn bb hx; (try (have z6 := Nat.le_trans E.size (Nat.le_of_eq hX6))); have b6 := Loc.new bb E hX6; clear bb hX6; (try replace E := E.ext hx); (try (clear hcE hfE)); (try (have hcf := bcell E.low; obtain ⟨hcE, hfE⟩ := hcf)); (try (clear c6 f6)); (try (have c6 := b6.cell; have f6 := b6.free))) | ((with_reducible refine at_store 6 ?_); (refine wp_put b6 rfl rfl ?_ ?_ ?_ ?_; (· kernel_rfl); (· first | rfl | kernel_rfl); (· first | decide | exact Nat.le_refl _ | simp [Act.eval, Value.cells] | (simp [Act.eval, Act.put, Value.cells]; done)); intro wn bn hb; have E2 := E.put b6 hb; skip; clear E b6; have E := E2; clear E2; have b6 := bn; clear bn hb; dsimp only [Act.put]; simp only [putA, Act.eval, Array.getD_eq_getD_getElem?, List.getElem?_toArray, List.getElem?_cons_succ, List.getElem?_cons_zero, Option.getD_some, Value.cells, List.toList_toArray, List.size_toArray, List.length_cons, List.length_nil, Nat.reduceAdd, List.take_succ_cons, List.take_zero, List.drop_succ_cons, List.drop_zero, List.drop_nil, List.cons_append, List.nil_append, List.append_nil, syC_size, stC_size, exC_size, nsC_size, lvC_size, rgC_size, cxC_size, spanC_size] at b6; (try (clear hcE hfE)); (try (have hcf := bcell E.low; obtain ⟨hcE, hfE⟩ := hcf)); (try (clear c6 f6)); (try (have c6 := b6.cell; have f6 := b6.free)))))
        refine bodyPost_ret (v := .bool true) (by simp [results, Try.f10, go_sem]) rfl ⟨by rw [HS.out], E.low⟩
      · have g1 := txt_f h0
        rw [decide_eq_false h0] at hs
        simp only [Bool.false_or] at hs
        have H0 := Lib.hid h0
        have HS := Lib.hid hs
        clear hs h0
        rcases (show v1 = true ∨ (v1 = false ∧ v2 = true) ∨ (v1 = false ∧ v2 = false ∧ v3 = true) ∨ (v1 = false ∧ v2 = false ∧ v3 = false ∧ v4 = true) ∨ (v1 = false ∧ v2 = false ∧ v3 = false ∧ v4 = false) by cases v1 <;> cases v2 <;> cases v3 <;> cases v4 <;> simp) with rfl | ⟨rfl, rfl⟩ | ⟨rfl, rfl, rfl⟩ | ⟨rfl, rfl, rfl, rfl⟩ | ⟨rfl, rfl, rfl, rfl⟩
        rotate_right
        · go_upto_region 9999 with (first | ((with_reducible refine at_dst 16 ?_); (refine wp_rec2 ((RRow.ext hl E.low)) (HY.out) stC_len rfl rfl ?_ ?_ ?_); (· kernel_rfl); (· kernel_rfl)) | ((with_reducible refine at_dst 6 ?_); go_simp; (generalize hX6 : Array.size (World.heap _) = X6); refine new_block hX6 ?_; intro wn bb hx; (try (have z6 := Nat.le_trans E.size (Nat.le_of_eq hX6))); have b6 := Loc.new bb E hX6; clear bb hX6; (try replace E := E.ext hx); (try (clear hcE hfE)); (try (have hcf := bcell E.low; obtain ⟨hcE, hfE⟩ := hcf)); (try (clear c6 f6)); (try (have c6 := b6.cell; have f6 := b6.free))) | ((with_reducible refine at_store 6 ?_); (refine wp_put b6 rfl rfl ?_ ?_ ?_ ?_; (· kernel_rfl); (· first | rfl | kernel_rfl); (· first | decide | exact Nat.le_refl _ | simp [Act.eval, Value.cells] | (simp [Act.eval, Act.put, Value.cells]; done)); intro wn bn hb; have E2 := E.put b6 hb; skip; clear E b6; have E := E2; clear E2; have b6 := bn; clear bn hb; dsimp only [Act.put]; simp only [putA, Act.eval, Array.getD_eq_getD_getElem?, List.getElem?_toArray, List.getElem?_cons_succ, List.getElem?_cons_zero, Option.getD_some, Value.cells, List.toList_toArray, List.size_toArray, List.length_cons, List.length_nil, Nat.reduceAdd, List.take_succ_cons, List.take_zero, List.drop_succ_cons, List.drop_zero, List.drop_nil, List.cons_append, List.nil_append, List.append_nil, syC_size, stC_size, exC_size, nsC_size, lvC_size, rgC_size, cxC_size, spanC_size] at b6; (try (clear hcE hfE)); (try (have hcf := bcell E.low; obtain ⟨hcE, hfE⟩ := hcf)); (try (clear c6 f6)); (try (have c6 := b6.cell; have f6 := b6.free)))) | (go_at_call 17; (have hc := within_any (hyo.hd.list.ext E.low) N); ((with_reducible refine hc.mono ?_)); clear hc; unfold BPost; rw [H1.out]; rintro e wn ⟨rfl, hx⟩; (try replace E := E.ext hx); (try replace b6 := b6.ext hx); (try (clear hcE hfE)); (try (have hcf := bcell E.low; obtain ⟨hcE, hfE⟩ := hcf)); (try (clear c6 f6)); (try (have c6 := b6.cell; have f6 := b6.free))) | (go_at_call 17; (have hc := within_any (hyo.hd.aliases.ext E.low) N); ((with_reducible refine hc.mono ?_)); clear hc; unfold BPost; rw [H2.out]; rintro e wn ⟨rfl, hx⟩; (try replace E := E.ext hx); (try replace b6 := b6.ext hx); (try (clear hcE hfE)); (try (have hcf := bcell E.low; obtain ⟨hcE, hfE⟩ := hcf)); (try (clear c6 f6)); (try (have c6 := b6.cell; have f6 := b6.free))) | (go_at_call 10; (have hc := IH.out y.thn N (RRow.ext hyo.thn E.low) (hyo.thns.ext E.low) hz1); ((with_reducible refine hc.mono ?_)); clear hc; unfold BPost; rw [H3.out]; rintro e wn ⟨rfl, hx⟩; (try replace E := E.ext hx); (try replace b6 := b6.ext hx); (try (clear hcE hfE)); (try (have hcf := bcell E.low; obtain ⟨hcE, hfE⟩ := hcf)); (try (clear c6 f6)); (try (have c6 := b6.cell; have f6 := b6.free))) | (go_at_call 10; (have hc := IH.out y.els N (RRow.ext hyo.els E.low) (hyo.elss.ext E.low) hz2); ((with_reducible refine hc.mono ?_)); clear hc; unfold BPost; rw [H4.out]; rintro e wn ⟨rfl, hx⟩; (try replace E := E.ext hx); (try replace b6 := b6.ext hx); (try (clear hcE hfE)); (try (have hcf := bcell E.low; obtain ⟨hcE, hfE⟩ := hcf)); (try (clear c6 f6)); (try (have c6 := b6.cell; have f6 := b6.free))))
          go_roundw
          case rel => exact ⟨j + 1, by go_num, by omega, Lib.hid (by have := HS.out; simpa using this), E⟩
          case measure => simp [intOf]; omega
        all_goals
          go_upto_region 9999 with (first | ((with_reducible refine at_dst 16 ?_); (refine wp_rec2 ((RRow.ext hl E.low)) (HY.out) stC_len rfl rfl ?_ ?_ ?_); (· kernel_rfl); (· kernel_rfl)) | ((with_reducible refine at_dst 6 ?_); go_simp; (generalize hX6 : Array.size (World.heap _) = X6); refine new_block hX6 ?_; intro wn bb hx; (try (have z6 := Nat.le_trans E.size (Nat.le_of_eq hX6))); have b6 := Loc.new bb E hX6; clear bb hX6; (try replace E := E.ext hx); (try (clear hcE hfE)); (try (have hcf := bcell E.low; obtain ⟨hcE, hfE⟩ := hcf)); (try (clear c6 f6)); (try (have c6 := b6.cell; have f6 := b6.free))) | ((with_reducible refine at_store 6 ?_); (refine wp_put b6 rfl rfl ?_ ?_ ?_ ?_; (· kernel_rfl); (· first | rfl | kernel_rfl); (· first | decide | exact Nat.le_refl _ | simp [Act.eval, Value.cells] | (simp [Act.eval, Act.put, Value.cells]; done)); intro wn bn hb; have E2 := E.put b6 hb; skip; clear E b6; have E := E2; clear E2; have b6 := bn; clear bn hb; dsimp only [Act.put]; simp only [putA, Act.eval, Array.getD_eq_getD_getElem?, List.getElem?_toArray, List.getElem?_cons_succ, List.getElem?_cons_zero, Option.getD_some, Value.cells, List.toList_toArray, List.size_toArray, List.length_cons, List.length_nil, Nat.reduceAdd, List.take_succ_cons, List.take_zero, List.drop_succ_cons, List.drop_zero, List.drop_nil, List.cons_append, List.nil_append, List.append_nil, syC_size, stC_size, exC_size, nsC_size, lvC_size, rgC_size, cxC_size, spanC_size] at b6; (try (clear hcE hfE)); (try (have hcf := bcell E.low; obtain ⟨hcE, hfE⟩ := hcf)); (try (clear c6 f6)); (try (have c6 := b6.cell; have f6 := b6.free)))) | (go_at_call 17; (have hc := within_any (hyo.hd.list.ext E.low) N); ((with_reducible refine hc.mono ?_)); clear hc; unfold BPost; rw [H1.out]; rintro e wn ⟨rfl, hx⟩; (try replace E := E.ext hx); (try replace b6 := b6.ext hx); (try (clear hcE hfE)); (try (have hcf := bcell E.low; obtain ⟨hcE, hfE⟩ := hcf)); (try (clear c6 f6)); (try (have c6 := b6.cell; have f6 := b6.free))) | (go_at_call 17; (have hc := within_any (hyo.hd.aliases.ext E.low) N); ((with_reducible refine hc.mono ?_)); clear hc; unfold BPost; rw [H2.out]; rintro e wn ⟨rfl, hx⟩; (try replace E := E.ext hx); (try replace b6 := b6.ext hx); (try (clear hcE hfE)); (try (have hcf := bcell E.low; obtain ⟨hcE, hfE⟩ := hcf)); (try (clear c6 f6)); (try (have c6 := b6.cell; have f6 := b6.free))) | (go_at_call 10; (have hc := IH.out y.thn N (RRow.ext hyo.thn E.low) (hyo.thns.ext E.low) hz1); ((with_reducible refine hc.mono ?_)); clear hc; unfold BPost; rw [H3.out]; rintro e wn ⟨rfl, hx⟩; (try replace E := E.ext hx); (try replace b6 := b6.ext hx); (try (clear hcE hfE)); (try (have hcf := bcell E.low; obtain ⟨hcE, hfE⟩ := hcf)); (try (clear c6 f6)); (try (have c6 := b6.cell; have f6 := b6.free))) | (go_at_call 10; (have hc := IH.out y.els N (RRow.ext hyo.els E.low) (hyo.elss.ext E.low) hz2); ((with_reducible refine hc.mono ?_)); clear hc; unfold BPost; rw [H4.out]; rintro e wn ⟨rfl, hx⟩; (try replace E := E.ext hx); (try replace b6 := b6.ext hx); (try (clear hcE hfE)); (try (have hcf := bcell E.low; obtain ⟨hcE, hfE⟩ := hcf)); (try (clear c6 f6)); (try (have c6 := b6.cell; have f6 := b6.free))))
          refine bodyPost_ret (v := .bool true) (by simp [results, Try.f10, go_sem]) rfl ⟨by have := HS.out; simp only [Bool.true_or, Bool.or_true, Bool.false_or] at this; rw [← this], E.low⟩
    · have hz : R = false := by
        have := HR.out
        rw [List.drop_of_length_le (by omega), St.menBs] at this
        exact this.symm
      have HZ := Lib.hid hz
      clear hz
      go_upto_region 9999 with (first | fail)
      refine bodyPost_ret (v := .bool false) (by simp [results, Try.f10, go_sem]) rfl ⟨by rw [HZ.out], E.low⟩
theorem mentions_any0 : ∀ M : Nat, MenOk M
  | 0 => fun _ _ _ _ _ _ _ _ hz => absurd hz (Nat.not_lt_zero _)
  | M + 1 => men_stepA (Lib.hid (mentions_any0 M))
theorem mentions_any {w : World} {l : List St} {a : Option Addr} {n c : Nat} (N : ByteArray) (hl : RRow w 55 stC (.slice a n c) l) (hok : St.oks w l) : Calls Try.prog 10 #[.slice a n c, .string N] w (BPost (St.menBs N l) w) := mentions_any0 _ l N hl hok (Nat.lt_succ_self _)
end Go.Proofs.Ytnifgkgdphlleaa
