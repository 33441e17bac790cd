import Derived.Test.YtkpodagbefnebaaGreatDoorYv20
set_option linter.unusedSimpArgs false
set_option linter.unusedVariables false
set_option linter.unusedSectionVars false
namespace Go.Proofs.YtkpodagbefnebaaGreatDoor
namespace Am
open Tk
set_option maxRecDepth 100000
theorem loc_flat {L : List UInt8} : ∀ {k : Nat}, k ≤ L.length → (∀ c ∈ L.take k, ¬ c = 10) → loc L k = (1, (k : Int) + 1)
  | 0, _, _ => by rw [loc_zero]; rfl
  | k + 1, hk, h => by
    have hk' : k < L.length := hk
    rw [loc_succ L k hk', loc_flat (Nat.le_of_lt hk') fun c hc => h c (by rw [List.take_succ_eq_append_getElem hk']; exact List.mem_append_left _ hc)]
    have h1 : ¬ L[k] = 10 := h _ (by rw [List.take_succ_eq_append_getElem hk']; exact List.mem_append_right _ (.head _))
    unfold aft
    rw [if_neg]
    · rfl
    · intro e
      apply h1
      have e2 : L[k].toNat = 10 := by have : ((L[k].toNat : Nat) : Int) = 10 := e; omega
      exact UInt8.toNat_inj.1 e2
theorem locP_flat {L : List UInt8} {k : Nat} (hk : k ≤ L.length) (h : ∀ c ∈ L.take k, ¬ c = 10) : locP L k = ⟨1, (k : Int) + 1⟩ := by unfold locP; rw [loc_flat hk h]
theorem scan_nil (o : Nat) : scanA o [] = .ok [⟨0, [], o⟩] := by rw [scanA_eq]; rfl
theorem scan_wordM {w : List UInt8} (hw : nameB w = true) : scanA 0 ([109, 111, 100, 117, 108, 101] ++ 32 :: (w ++ 32 :: ([49] ++ [59]))) = .ok [⟨1, [109, 111, 100, 117, 108, 101], 0⟩, ⟨1, w, 7⟩, ⟨2, [49], 7 + w.length + 1⟩, ⟨4, [59], 7 + w.length + 1 + 1⟩, ⟨0, [], 7 + w.length + 1 + 1 + 1⟩] := by
  rw [scan_name 0 (by decide) (.inr ⟨32, _, rfl, by decide⟩), scan_sp, scan_name _ hw (.inr ⟨32, _, rfl, by decide⟩), scan_sp, scan_num _ (by decide) (.inr ⟨59, _, rfl, by decide⟩), scan_mark1 _ (by decide) (fun h => absurd h (by decide)), scan_nil]
  rfl
theorem scan_wordT {w : List UInt8} (hw : nameB w = true) : scanA 0 ([116, 121, 112, 101] ++ 32 :: (w ++ [59])) = .ok [⟨1, [116, 121, 112, 101], 0⟩, ⟨1, w, 5⟩, ⟨4, [59], 5 + w.length⟩, ⟨0, [], 5 + w.length + 1⟩] := by
  rw [scan_name 0 (by decide) (.inr ⟨32, _, rfl, by decide⟩), scan_sp, scan_name _ hw (.inr ⟨59, _, rfl, by decide⟩), scan_mark1 _ (by decide) (fun h => absurd h (by decide)), scan_nil]
  rfl
theorem nameB_len {w : List UInt8} (h : nameB w = true) : w.length ≤ 32 := by
  unfold nameB at h
  simp only [Bool.and_eq_true, decide_eq_true_eq] at h
  exact h.1.1.2
theorem ba_eta (s : ByteArray) : (⟨s.data.toList.toArray⟩ : ByteArray) = s := by simp
section
variable (s : ByteArray) (p0 p2 p3 p4 : Po)
def wl : List Tok := [⟨1, ⟨#[109, 111, 100, 117, 108, 101]⟩, p0⟩, ⟨1, s, ⟨1, 8⟩⟩, ⟨2, ⟨#[49]⟩, p2⟩, ⟨4, ⟨#[59]⟩, p3⟩, ⟨0, ⟨#[]⟩, p4⟩]
abbrev wk (i : Nat) (h : i < 5) : Ix (wl s p0 p2 p3 p4) := ⟨i, h⟩
theorem wl_mod : modQ (wk s p0 p2 p3 p4 0 (by decide)) = if idB s = true then .ok (⟨s, 1, []⟩, (wk s p0 p2 p3 p4 4 (by decide), 0)) else .error ⟨9, ⟨1, 8⟩, s⟩ := by
  have e1 : needWP ⟨#[109, 111, 100, 117, 108, 101]⟩ (wk s p0 p2 p3 p4 0 (by decide)) = .ok ((), wk s p0 p2 p3 p4 1 (by decide)) := rfl
  have e2 : nameP (wk s p0 p2 p3 p4 1 (by decide)) = if idB s = true then .ok (s, wk s p0 p2 p3 p4 2 (by decide)) else .error ⟨9, ⟨1, 8⟩, s⟩ := rfl
  have e3 : needP ⟨#[59]⟩ (wk s p0 p2 p3 p4 3 (by decide)) = .ok ((), wk s p0 p2 p3 p4 4 (by decide)) := rfl
  have e4 : stmtsP tksK (fuel (wl s p0 p2 p3 p4)) 0 [] (wk s p0 p2 p3 p4 4 (by decide)) 0 = .ok ([], (wk s p0 p2 p3 p4 4 (by decide), 0)) := by
    rw [show fuel (wl s p0 p2 p3 p4) = 55 + 1 from rfl, stmtsP, if_pos (.inl rfl)]
  have e5 : headP (wk s p0 p2 p3 p4 0 (by decide)) = if idB s = true then .ok (⟨s, 1, []⟩, wk s p0 p2 p3 p4 4 (by decide)) else .error ⟨9, ⟨1, 8⟩, s⟩ := by
    unfold headP
    rw [e1, ok_bind, e2]
    by_cases hi : idB s = true
    · rw [if_pos hi, if_pos hi, ok_bind]
      have h2 : (tk (wk s p0 p2 p3 p4 2 (by decide))).kind = 2 := rfl
      have hd : dec9 (tk (wk s p0 p2 p3 p4 2 (by decide))).text = 1 := rfl
      have hn : nx (wk s p0 p2 p3 p4 2 (by decide)) = wk s p0 p2 p3 p4 3 (by decide) := rfl
      dsimp only
      rw [if_pos h2, hd, if_neg (by decide), hn, e3]
      rfl
    · rw [if_neg hi, if_neg hi]; rfl
  unfold modQ
  rw [e5]
  by_cases hi : idB s = true
  · rw [if_pos hi, if_pos hi, ok_bind, e4]; rfl
  · rw [if_neg hi, if_neg hi]; rfl
def tl : List Tok := [⟨1, ⟨#[116, 121, 112, 101]⟩, ⟨1, 1⟩⟩, ⟨1, s, ⟨1, 6⟩⟩, ⟨4, ⟨#[59]⟩, p2⟩, ⟨0, ⟨#[]⟩, p3⟩]
abbrev tw_ (i : Nat) (h : i < 4) : Ix (tl s p2 p3) := ⟨i, h⟩
theorem tl_sts : stsQ (tw_ s p2 p3 0 (by decide)) = if idB s = true then .ok ([{ Stm.zero with pos := ⟨1, 1⟩, kind := 2, name := s }], (tw_ s p2 p3 3 (by decide), 1)) else .error ⟨9, ⟨1, 6⟩, s⟩ := by
  have e2 : nameP (tw_ s p2 p3 1 (by decide)) = if idB s = true then .ok (s, tw_ s p2 p3 2 (by decide)) else .error ⟨9, ⟨1, 6⟩, s⟩ := rfl
  have e3 : needP ⟨#[59]⟩ (tw_ s p2 p3 2 (by decide)) = .ok ((), tw_ s p2 p3 3 (by decide)) := rfl
  have e6 : listedL (fuel (tl s p2 p3)) [] (tw_ s p2 p3 2 (by decide)) = .ok ([], tw_ s p2 p3 2 (by decide)) := rfl
  have e7 : isW ⟨#[97, 108, 105, 97, 115]⟩ (tw_ s p2 p3 2 (by decide)) = false := rfl
  have e8 : stmtP tksK (46 + 1) 0 (tw_ s p2 p3 0 (by decide)) 0 = if idB s = true then .ok ({ Stm.zero with pos := ⟨1, 1⟩, kind := 2, name := s }, (tw_ s p2 p3 3 (by decide), 1)) else .error ⟨9, ⟨1, 6⟩, s⟩ := by
    have hd : ∀ z : Stm, z.list = [] → declP ⟨#[116, 121, 112, 101]⟩ z (tw_ s p2 p3 1 (by decide)) = if idB s = true then .ok (true, ({ z with kind := 2, name := s }, tw_ s p2 p3 2 (by decide))) else .error ⟨9, ⟨1, 6⟩, s⟩ := fun z hz => by
      unfold declP
      rw [if_neg (by decide), if_pos rfl, e2]
      by_cases hi : idB s = true
      · rw [if_pos hi, if_pos hi, ok_bind]
        dsimp only
        rw [e7, if_neg (by decide), hz, e6]; cases z; simp only at hz; subst hz; rfl
      · rw [if_neg hi, if_neg hi]; rfl
    have ht : (tk (tw_ s p2 p3 0 (by decide))).text = ⟨#[116, 121, 112, 101]⟩ := rfl
    rw [stmtP, if_pos ⟨rfl, rfl⟩, if_neg (by decide), ht, if_neg (by decide)]
    show plainP ⟨#[116, 121, 112, 101]⟩ _ (tw_ s p2 p3 1 (by decide)) >>= _ = _
    unfold plainP
    rw [hd _ rfl]
    by_cases hi : idB s = true
    · rw [if_pos hi, if_pos hi, ok_bind]
      dsimp only
      rw [if_pos rfl, ok_bind]
      dsimp only
      rw [e3]; rfl
    · rw [if_neg hi, if_neg hi]; rfl
  unfold stsQ
  rw [show fuel (tl s p2 p3) = 46 + 1 + 1 from rfl, stmtsP, if_neg fun h => h.elim (fun h => absurd (show (1 : Int) = 0 from h) (by decide)) fun h => absurd h.1 (by decide), e8]
  by_cases hi : idB s = true
  · rw [if_pos hi, if_pos hi, ok_bind, stmtsP, if_pos (.inl rfl)]; rfl
  · rw [if_neg hi, if_neg hi]; rfl
end
theorem words_mod {s src : ByteArray} (hn : nameB s.data.toList = true) (hsrc : src.data.toList = [109, 111, 100, 117, 108, 101] ++ 32 :: (s.data.toList ++ 32 :: ([49] ++ [59]))) : parseP src = if kwB s.data.toList = true then .error ⟨9, ⟨1, 8⟩, s⟩ else .ok ⟨s, 1, []⟩ := by
  have hl := nameB_len hn
  have hz : src.size ≤ 65536 := by rw [sz_len, hsrc]; simp only [List.length_append, List.length_cons, List.length_nil]; omega
  have hp : locP src.data.toList 7 = ⟨1, 8⟩ := locP_flat (by rw [hsrc]; simp) (by rw [hsrc]; show ∀ c ∈ [109, 111, 100, 117, 108, 101, 32], ¬ c = 10; decide)
  have e := scanP_L src hz
  rw [hsrc, scan_wordM hn, ← hsrc] at e
  simp only [toEx, List.map_cons, List.map_nil, LTok.at, hp, ba_eta] at e
  unfold parseP runP
  rw [e, ok_bind, dif_pos (by simp)]
  have h := wl_mod s (locP src.data.toList 0) (locP src.data.toList (7 + s.data.toList.length + 1)) (locP src.data.toList (7 + s.data.toList.length + 1 + 1)) (locP src.data.toList (7 + s.data.toList.length + 1 + 1 + 1))
  have hi : idB s = !kwB s.data.toList := by unfold idB; rw [hn, Bool.true_and]
  rw [hi] at h
  refine Eq.trans (congrArg (fun x => x >>= _) h) ?_
  cases kwB s.data.toList with
  | true => rfl
  | false => rfl
theorem words_ty {s src : ByteArray} (hn : nameB s.data.toList = true) (hsrc : src.data.toList = [116, 121, 112, 101] ++ 32 :: (s.data.toList ++ [59])) : stmtsT src = if kwB s.data.toList = true then .error ⟨9, ⟨1, 6⟩, s⟩ else .ok [{ Stm.zero with pos := ⟨1, 1⟩, kind := 2, name := s }] := by
  have hl := nameB_len hn
  have hz : src.size ≤ 65536 := by rw [sz_len, hsrc]; simp only [List.length_append, List.length_cons, List.length_nil]; omega
  have hp : locP src.data.toList 5 = ⟨1, 6⟩ := locP_flat (by rw [hsrc]; simp) (by rw [hsrc]; show ∀ c ∈ [116, 121, 112, 101, 32], ¬ c = 10; decide)
  have hp0 : locP src.data.toList 0 = ⟨1, 1⟩ := rfl
  have e := scanP_L src hz
  rw [hsrc, scan_wordT hn, ← hsrc] at e
  simp only [toEx, List.map_cons, List.map_nil, LTok.at, hp, hp0, ba_eta] at e
  unfold stmtsT runP
  rw [e, ok_bind, dif_pos (by simp)]
  have h := tl_sts s (locP src.data.toList (5 + s.data.toList.length)) (locP src.data.toList (5 + s.data.toList.length + 1))
  have hi : idB s = !kwB s.data.toList := by unfold idB; rw [hn, Bool.true_and]
  rw [hi] at h
  refine Eq.trans (congrArg (fun x => x >>= _) h) ?_
  cases kwB s.data.toList with
  | true => rfl
  | false => rfl
end Am
end Go.Proofs.YtkpodagbefnebaaGreatDoor
