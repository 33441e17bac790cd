import Derived.Test.YtkpodagbefnebaaGreatDoorYv23
import Derived.Test.YtkpodagbefnebaaGreatDoorYv8
import Derived.Test.YtkpodagbefnebaaGreatDoorYv22
set_option linter.unusedSimpArgs false
set_option linter.unusedVariables false
set_option linter.unusedSectionVars false
namespace Go.Proofs.YtkpodagbefnebaaGreatDoor
namespace Am
open Tk
set_option maxRecDepth 100000
def tyB : List UInt8 := [116, 121, 112, 101, 32, 97, 59]
def repB : Nat → List UInt8
  | 0 => []
  | n + 1 => tyB ++ repB n
def tys (o : Nat) : Nat → List LTok
  | 0 => []
  | n + 1 => ⟨1, [116, 121, 112, 101], o⟩ :: ⟨1, [97], o + 5⟩ :: ⟨4, [59], o + 6⟩ :: tys (o + 7) n
theorem repB_len : ∀ n, (repB n).length = 7 * n
  | 0 => rfl
  | n + 1 => by rw [repB, List.length_append, repB_len n]; simp only [tyB, List.length_cons, List.length_nil]; omega
theorem repB_no10 : ∀ n, ∀ c ∈ repB n, ¬ c = 10
  | 0 => by intro c h; cases h
  | n + 1 => by
    intro c h
    rw [repB, List.mem_append] at h
    rcases h with h | h
    · revert h c; decide
    · exact repB_no10 n c h
theorem repB_end : ∀ n, repB n ++ tyB = repB (n + 1)
  | 0 => rfl
  | n + 1 => by
    show (tyB ++ repB n) ++ tyB = tyB ++ repB (n + 1)
    rw [List.append_assoc, repB_end n]
theorem tys_len : ∀ n o, (tys o n).length = 3 * n
  | 0, _ => rfl
  | n + 1, o => by rw [tys]; simp only [List.length_cons]; rw [tys_len n]; omega
theorem scan_rep : ∀ n o, scanA o (repB n) = .ok (tys o n ++ [⟨0, [], o + 7 * n⟩])
  | 0, o => scan_nil o
  | n + 1, o => by
    have e0 : repB (n + 1) = [116, 121, 112, 101] ++ 32 :: ([97] ++ 59 :: repB n) := rfl
    rw [e0, scan_name o (by decide) (.inr ⟨32, _, rfl, by decide⟩), scan_sp, scan_name _ (by decide) (.inr ⟨59, _, rfl, by decide⟩), scan_mark1 _ (by decide) (fun h => absurd h (by decide)), scan_rep n]
    have e : o + 7 + 7 * n = o + 7 * (n + 1) := by omega
    simp [LR.app, tys, ← e]
theorem tys_get (e : List LTok) : ∀ n o i, i < n → (tys o n ++ e)[3 * i]? = some ⟨1, [116, 121, 112, 101], o + 7 * i⟩ ∧ (tys o n ++ e)[3 * i + 1]? = some ⟨1, [97], o + 7 * i + 5⟩ ∧ (tys o n ++ e)[3 * i + 2]? = some ⟨4, [59], o + 7 * i + 6⟩
  | 0, _, _, h => absurd h (Nat.not_lt_zero _)
  | n + 1, o, 0, _ => ⟨rfl, rfl, rfl⟩
  | n + 1, o, i + 1, h => by
    have r := tys_get e n (o + 7) i (Nat.lt_of_succ_lt_succ h)
    have e1 : o + 7 + 7 * i = o + 7 * (i + 1) := by omega
    rw [e1] at r
    exact r
theorem tys_end (x : LTok) (n o : Nat) : (tys o n ++ [x])[3 * n]? = some x := by
  rw [List.getElem?_append_right (by rw [tys_len]; exact Nat.le_refl _), tys_len, Nat.sub_self]; rfl
def moB (n : Nat) : List UInt8 := [109, 111, 100, 117, 108, 101] ++ 32 :: ([109] ++ 32 :: ([49] ++ 59 :: repB n))
def moH : List LTok := [⟨1, [109, 111, 100, 117, 108, 101], 0⟩, ⟨1, [109], 7⟩, ⟨2, [49], 9⟩, ⟨4, [59], 10⟩]
theorem scan_mo (n : Nat) : scanA 0 (moB n) = .ok (moH ++ (tys 11 n ++ [⟨0, [], 11 + 7 * n⟩])) := by
  unfold moB
  rw [scan_name 0 (by decide) (.inr ⟨32, _, rfl, by decide⟩), scan_sp, scan_name _ (by decide) (.inr ⟨32, _, rfl, by decide⟩), scan_sp, scan_num _ (by decide) (.inr ⟨59, _, rfl, by decide⟩), scan_mark1 _ (by decide) (fun h => absurd h (by decide)), scan_rep n]
  rfl
theorem moB_len (n : Nat) : (moB n).length = 11 + 7 * n := by
  unfold moB
  simp only [List.length_append, List.length_cons, List.length_nil, repB_len]; omega
theorem moB_no10 (n : Nat) : ∀ c ∈ moB n, ¬ c = 10 := by
  intro c h
  unfold moB at h
  simp only [List.mem_append, List.mem_cons, List.not_mem_nil, or_false] at h
  have r := repB_no10 n c
  rcases h with (h | h | h | h | h | h) | h | h | h | h | h | h
  all_goals first | exact r h | (subst h; decide)
def tyS (i : Nat) : Stm := { Stm.zero with pos := ⟨1, 12 + 7 * (i : Int)⟩, kind := 2, name := ⟨#[97]⟩ }
structure TyL (l : List Tok) (n : Nat) : Prop where
  len : l.length = 4 + 3 * n + 1
  hd : ∃ p0 p1 p2 p3, l[0]? = some ⟨1, ⟨#[109, 111, 100, 117, 108, 101]⟩, p0⟩ ∧ l[1]? = some ⟨1, ⟨#[109]⟩, p1⟩ ∧ l[2]? = some ⟨2, ⟨#[49]⟩, p2⟩ ∧ l[3]? = some ⟨4, ⟨#[59]⟩, p3⟩
  st : ∀ i, i < n → ∃ p q, l[4 + 3 * i]? = some ⟨1, ⟨#[116, 121, 112, 101]⟩, ⟨1, 12 + 7 * (i : Int)⟩⟩ ∧ l[4 + 3 * i + 1]? = some ⟨1, ⟨#[97]⟩, p⟩ ∧ l[4 + 3 * i + 2]? = some ⟨4, ⟨#[59]⟩, q⟩
  en : ∃ p, l[4 + 3 * n]? = some ⟨0, ⟨#[]⟩, p⟩
theorem tk_of {l : List Tok} {k : Nat} {t : Tok} (h : l[k]? = some t) : ∃ hk : k < l.length, tk (⟨k, hk⟩ : Ix l) = t := by
  obtain ⟨hk, e⟩ := List.getElem?_eq_some_iff.1 h
  exact ⟨hk, e⟩
theorem nx_of {l : List Tok} {k : Nat} (hk : k < l.length) (h : k + 1 < l.length) : nx (⟨k, hk⟩ : Ix l) = ⟨k + 1, h⟩ := by unfold nx; rw [dif_pos h]
theorem tys_scan {n : Nat} {src : ByteArray} (hs : src.data.toList = moB n) (hn : n ≤ 1027) : ∃ l, scanP src = .ok l ∧ TyL l n := by
  have hz : src.size ≤ 65536 := by rw [sz_len, hs, moB_len]; omega
  have e := scanP_L src hz
  rw [hs, scan_mo] at e
  refine ⟨_, e, ?_⟩
  have hp : ∀ k, k ≤ 11 + 7 * n → locP (moB n) k = ⟨1, (k : Int) + 1⟩ := fun k hk => locP_flat (by rw [moB_len]; exact hk) fun c hc => moB_no10 n c (List.mem_of_mem_take hc)
  have hr : ∀ j, ((moH ++ (tys 11 n ++ [(⟨0, [], 11 + 7 * n⟩ : LTok)])).map (LTok.at (moB n)))[4 + j]? = (tys 11 n ++ [(⟨0, [], 11 + 7 * n⟩ : LTok)])[j]?.map (LTok.at (moB n)) := fun j => by
    rw [List.getElem?_map, List.getElem?_append_right (by simp [moH])]
    congr 2
    simp [moH]
  refine ⟨?_, ⟨_, _, _, _, rfl, rfl, rfl, rfl⟩, fun i hi => ?_, ?_⟩
  · simp [moH, tys_len]; omega
  · obtain ⟨h1, h2, h3⟩ := tys_get [⟨0, [], 11 + 7 * n⟩] n 11 i hi
    refine ⟨locP (moB n) (11 + 7 * i + 5), locP (moB n) (11 + 7 * i + 6), ?_, ?_, ?_⟩
    · rw [hr, h1]
      simp only [Option.map_some, LTok.at]
      rw [hp _ (by omega)]
      congr 3
      omega
    · rw [Nat.add_assoc, hr, h2]; rfl
    · rw [Nat.add_assoc, hr, h3]; rfl
  · rw [hr, tys_end]; exact ⟨_, rfl⟩
section
variable {l : List Tok} {n : Nat}
theorem ty_st (h : TyL l n) {i c : Nat} (hi : i < n) (hc : c < 1024) (f : Nat) (hk : 4 + 3 * i < l.length) (hk' : 4 + 3 * (i + 1) < l.length) : stmtP tksK (f + 1) 0 (⟨4 + 3 * i, hk⟩ : Ix l) c = .ok (tyS i, (⟨4 + 3 * (i + 1), hk'⟩, c + 1)) := by
  obtain ⟨p, q, h1, h2, h3⟩ := h.st i hi
  obtain ⟨_, t1⟩ := tk_of h1
  obtain ⟨k2, t2⟩ := tk_of h2
  obtain ⟨k3, t3⟩ := tk_of h3
  have n1 : nx (⟨4 + 3 * i, hk⟩ : Ix l) = ⟨4 + 3 * i + 1, k2⟩ := nx_of hk k2
  have n2 : nx (⟨4 + 3 * i + 1, k2⟩ : Ix l) = ⟨4 + 3 * i + 2, k3⟩ := nx_of k2 k3
  have n3 : nx (⟨4 + 3 * i + 2, k3⟩ : Ix l) = ⟨4 + 3 * (i + 1), hk'⟩ := nx_of k3 hk'
  have e2 : nameP (⟨4 + 3 * i + 1, k2⟩ : Ix l) = .ok (⟨#[97]⟩, ⟨4 + 3 * i + 2, k3⟩) := by
    unfold nameP isNm
    rw [t2, n2, if_pos (by rfl)]
  have e3 : needP ⟨#[59]⟩ (⟨4 + 3 * i + 2, k3⟩ : Ix l) = .ok ((), ⟨4 + 3 * (i + 1), hk'⟩) := by
    unfold needP isM
    rw [t3, n3, if_pos (by rfl)]
  have e7 : isW ⟨#[97, 108, 105, 97, 115]⟩ (⟨4 + 3 * i + 2, k3⟩ : Ix l) = false := by
    unfold isW; rw [t3]; rfl
  have e6 : listedL (fuel l) [] (⟨4 + 3 * i + 2, k3⟩ : Ix l) = .ok ([], ⟨4 + 3 * i + 2, k3⟩) := by
    rw [show fuel l = 8 * l.length + 15 + 1 from rfl, listedL]
    have : isM ⟨#[44]⟩ (⟨4 + 3 * i + 2, k3⟩ : Ix l) = false := by unfold isM; rw [t3]; rfl
    rw [this, if_neg (by decide)]
  have hd : ∀ z : Stm, z.list = [] → declP ⟨#[116, 121, 112, 101]⟩ z (⟨4 + 3 * i + 1, k2⟩ : Ix l) = .ok (true, ({ z with kind := 2, name := ⟨#[97]⟩ }, ⟨4 + 3 * i + 2, k3⟩)) := fun z hz => by
    unfold declP
    rw [if_neg (by decide), if_pos rfl, e2, ok_bind]
    dsimp only
    rw [e7, if_neg (by decide), hz, e6]; cases z; simp only at hz; subst hz; rfl
  rw [stmtP, t1, if_pos ⟨rfl, rfl⟩, if_neg (by omega), if_neg (by dsimp only; decide), n1]
  unfold plainP
  rw [hd _ rfl, ok_bind]
  dsimp only
  rw [if_pos rfl, ok_bind]
  dsimp only
  rw [e3]; rfl
theorem ty_nend {k : Ix l} {p : Po} (t : tk k = ⟨1, ⟨#[116, 121, 112, 101]⟩, p⟩) : ¬ ((tk k).kind = 0 ∨ (0 < 0 ∧ isM ⟨#[125]⟩ k = true)) := by
  rw [t]; intro h; rcases h with h | h
  · exact absurd h (by dsimp only; decide)
  · exact absurd h.1 (by decide)
theorem ty_all (h : TyL l n) (hn : n ≤ 1024) : ∀ (r i : Nat) (acc : List Stm) (f : Nat), i + r = n → r < f → ∀ (hk : 4 + 3 * i < l.length) (hk' : 4 + 3 * n < l.length), stmtsP tksK f 0 acc (⟨4 + 3 * i, hk⟩ : Ix l) i = .ok (acc ++ (List.range' i r).map tyS, (⟨4 + 3 * n, hk'⟩, n))
  | 0, i, acc, f + 1, hr, _, hk, hk' => by
    obtain rfl : i = n := by omega
    obtain ⟨p, h1⟩ := h.en
    obtain ⟨_, t1⟩ := tk_of h1
    rw [stmtsP, t1, if_pos (.inl rfl)]
    simp
  | r + 1, i, acc, f + 1, hr, hf, hk, hk' => by
    obtain ⟨p, q, h1, h2, h3⟩ := h.st i (by omega)
    obtain ⟨_, t1⟩ := tk_of h1
    obtain ⟨f', rfl⟩ : ∃ f', f = f' + 1 := ⟨f - 1, by omega⟩
    have hk2 : 4 + 3 * (i + 1) < l.length := by rw [h.len]; omega
    rw [stmtsP, if_neg (ty_nend t1), ty_st h (by omega) (by omega) f' hk hk2, ok_bind]
    dsimp only
    rw [ty_all h hn r (i + 1) _ (f' + 1) (by omega) (by omega) hk2 hk']
    simp [List.range'_succ]
theorem ty_more (h : TyL l n) (hn : 1024 < n) : ∀ (r i : Nat) (acc : List Stm) (f : Nat), i + r = 1024 → r + 1 < f → ∀ (hk : 4 + 3 * i < l.length), stmtsP tksK f 0 acc (⟨4 + 3 * i, hk⟩ : Ix l) i = .error ⟨4, ⟨1, 7180⟩, ⟨#[116, 121, 112, 101]⟩⟩
  | 0, i, acc, f + 1, hr, hf, hk => by
    obtain rfl : i = 1024 := by omega
    obtain ⟨p, q, h1, h2, h3⟩ := h.st 1024 hn
    obtain ⟨_, t1⟩ := tk_of h1
    obtain ⟨f', rfl⟩ : ∃ f', f = f' + 1 := ⟨f - 1, by omega⟩
    rw [stmtsP, if_neg (ty_nend t1), stmtP, t1, if_pos ⟨rfl, rfl⟩, if_pos (by decide)]
    rfl
  | r + 1, i, acc, f + 1, hr, hf, hk => by
    obtain ⟨p, q, h1, h2, h3⟩ := h.st i (by omega)
    obtain ⟨_, t1⟩ := tk_of h1
    obtain ⟨f', rfl⟩ : ∃ f', f = f' + 1 := ⟨f - 1, by omega⟩
    have hk2 : 4 + 3 * (i + 1) < l.length := by rw [h.len]; omega
    rw [stmtsP, if_neg (ty_nend t1), ty_st h (by omega) (by omega) f' hk hk2, ok_bind]
    dsimp only
    exact ty_more h hn r (i + 1) _ (f' + 1) (by omega) (by omega) hk2
theorem ty_head (h : TyL l n) (h0 : 0 < l.length) (h4 : 4 + 3 * 0 < l.length) : headP (⟨0, h0⟩ : Ix l) = .ok (⟨⟨#[109]⟩, 1, []⟩, ⟨4 + 3 * 0, h4⟩) := by
  obtain ⟨p0, p1, p2, p3, g0, g1, g2, g3⟩ := h.hd
  obtain ⟨_, t0⟩ := tk_of g0
  obtain ⟨k1, t1⟩ := tk_of g1
  obtain ⟨k2, t2⟩ := tk_of g2
  obtain ⟨k3, t3⟩ := tk_of g3
  have n0 : nx (⟨0, h0⟩ : Ix l) = ⟨1, k1⟩ := nx_of h0 k1
  have n1 : nx (⟨1, k1⟩ : Ix l) = ⟨2, k2⟩ := nx_of k1 k2
  have n2 : nx (⟨2, k2⟩ : Ix l) = ⟨3, k3⟩ := nx_of k2 k3
  have n3 : nx (⟨3, k3⟩ : Ix l) = ⟨4 + 3 * 0, h4⟩ := nx_of k3 h4
  have e1 : needWP ⟨#[109, 111, 100, 117, 108, 101]⟩ (⟨0, h0⟩ : Ix l) = .ok ((), ⟨1, k1⟩) := by unfold needWP isW; rw [t0, n0, if_pos (by rfl)]
  have e2 : nameP (⟨1, k1⟩ : Ix l) = .ok (⟨#[109]⟩, ⟨2, k2⟩) := by unfold nameP isNm; rw [t1, n1, if_pos (by rfl)]
  have e3 : needP ⟨#[59]⟩ (⟨3, k3⟩ : Ix l) = .ok ((), ⟨4 + 3 * 0, h4⟩) := by unfold needP isM; rw [t3, n3, if_pos (by rfl)]
  unfold headP
  rw [e1, ok_bind, e2, ok_bind]
  dsimp only
  rw [t2, n2]
  dsimp only
  rw [if_pos rfl, if_neg (by decide), e3]
  rfl
end
theorem lim_ok {n : Nat} {src : ByteArray} (hs : src.data.toList = moB n) (hn : n ≤ 1024) : parseP src = .ok ⟨⟨#[109]⟩, 1, (List.range' 0 n).map tyS⟩ := by
  obtain ⟨l, e, h⟩ := tys_scan hs (by omega)
  have h0 : 0 < l.length := by rw [h.len]; omega
  have h4 : 4 + 3 * 0 < l.length := by rw [h.len]; omega
  have h5 : 4 + 3 * n < l.length := by rw [h.len]; omega
  unfold parseP runP
  rw [e, ok_bind, dif_pos h0]
  unfold modQ
  dsimp only
  rw [ty_head h h0 h4, ok_bind]
  dsimp only
  rw [ty_all h hn n 0 [] (fuel l) (by omega) (by unfold fuel; rw [h.len]; omega) h4 h5]
  obtain ⟨p, h1⟩ := h.en
  obtain ⟨_, t1⟩ := tk_of h1
  simp only [ok_bind, List.nil_append]
  rw [t1, if_pos rfl]
theorem lim_err {n : Nat} {src : ByteArray} (hs : src.data.toList = moB n) (h1 : 1024 < n) (hn : n ≤ 1027) : parseP src = .error ⟨4, ⟨1, 7180⟩, ⟨#[116, 121, 112, 101]⟩⟩ := by
  obtain ⟨l, e, h⟩ := tys_scan hs hn
  have h0 : 0 < l.length := by rw [h.len]; omega
  have h4 : 4 + 3 * 0 < l.length := by rw [h.len]; omega
  unfold parseP runP
  rw [e, ok_bind, dif_pos h0]
  unfold modQ
  dsimp only
  rw [ty_head h h0 h4, ok_bind]
  dsimp only
  rw [ty_more h h1 1024 0 [] (fuel l) (by omega) (by unfold fuel; rw [h.len]; omega) h4]
  rfl
end Am
namespace Am
set_option maxRecDepth 100000
set_option maxHeartbeats 4000000
mutual
def cntS : Stm → Nat
  | ⟨_, _, _, _, _, _, _, _, _, _, _, _, _, _, _, _, _, t, e⟩ => cntL t + cntL e
def cntL : List Stm → Nat
  | [] => 0
  | x :: l => 1 + cntS x + cntL l
end
theorem cntS_eq (s : Stm) : cntS s = cntL s.thn + cntL s.els := by cases s; rw [cntS]
theorem cntL_eq : ∀ l : List Stm, cntL l = l.length + (l.map cntS).sum
  | [] => by rw [cntL]; rfl
  | x :: l => by rw [cntL, cntL_eq l]; simp only [List.length_cons, List.map_cons, List.sum_cons]; omega
theorem sum_step {α : Type} {f : α → Nat} {l : List α} {j : Nat} {x : α} (h : l[j]? = some x) : ((l.take (j + 1)).map f).sum = ((l.take j).map f).sum + f x := by
  rw [List.take_succ_eq_append_getElem (List.getElem?_eq_some_iff.1 h).1, (List.getElem?_eq_some_iff.1 h).2, List.map_append, List.sum_append]; simp
theorem lthn_lt (s : Stm) : SizeOf.sizeOf s.thn < SizeOf.sizeOf s := by
  cases s; simp only [Stm.mk.sizeOf_spec]; omega
theorem lels_lt (s : Stm) : SizeOf.sizeOf s.els < SizeOf.sizeOf s := by
  cases s; simp only [Stm.mk.sizeOf_spec]; omega
def cntW (l : List Stm) : Int := IntKind.i64.wrap (cntL l : Int)
theorem wrap_step (a b c : Int) : IntKind.i64.wrap (IntKind.i64.wrap a + IntKind.i64.wrap (IntKind.i64.wrap b + IntKind.i64.wrap c)) = IntKind.i64.wrap (a + (b + c)) := by
  simp only [IntKind.wrap_i64]; omega
theorem count_n : ∀ (n : Nat) (l : List Stm), SizeOf.sizeOf l < n → Pure Tryz.prog 74 [.c (.lst none 55 (l.map stC))] (.c (sI (cntW l)))
  | 0, _, h => absurd h (Nat.not_lt_zero _)
  | n + 1, l, h => by
    have ht : ∀ x ∈ l, Pure Tryz.prog 74 [.c (.lst none 55 (x.thn.map stC))] (.c (sI (cntW x.thn))) := fun x hx => count_n n x.thn (by have := List.sizeOf_lt_of_mem hx; have := lthn_lt x; omega)
    have he : ∀ x ∈ l, Pure Tryz.prog 74 [.c (.lst none 55 (x.els.map stC))] (.c (sI (cntW x.els))) := fun x hx => count_n n x.els (by have := List.sizeOf_lt_of_mem hx; have := lels_lt x; omega)
    have hq := cntL_eq l
    unfold cntW
    rw [hq]
    clear hq
    refine fn1 (fn := Tryz.f74) Tryz.call74 Tryz.func74 rfl Tryz.ntmps74 Tryz.results74 rfl (by first | rfl | simp [V.ok, okL, C.ok, okA, okV]) ?_
    refine AW.fact (t := 0) rfl (fun κ w x hr => repV_l hr) fun hn => ?_
    repeat' (first | (with_reducible first | apply AW.seq | apply AW.block | apply AW.skip | apply AW.ret | apply AW.exit | apply q_then | apply q_thenR | apply q_thenE | apply q_bloN | apply q_bloR | apply q_bloE | apply y_e | refine v_rgl ?_ | refine v_drb ?_) | ((with_reducible apply i_dv); first | refine t_v AS.v ?_ | refine t_w AS.w ?_) | ((with_reducible apply i_dg); first | refine t_f ?_ | refine t_m (hs := fun hg => AS.v) (k := ?_)) | ((with_reducible apply i_ds); first | refine t_s AS.s ?_ | refine t_p (k := fun σx => ?_)) | ((with_reducible refine i_aw ?_); ((refine v_cond (fun hc => ?_) (fun hc => ?_); all_goals (try (exfalso; simp [*] at hc; done))))) | ((with_reducible refine i_rt ?_); first | refine k_b ?_ | refine k_i ?_ | refine k_c ?_ | ((refine k_2 ?_ ?_); all_goals (with_reducible (first | apply un_i | apply un_s)))) | ((with_reducible refine i_rx ?_); (with_reducible refine x_pan ?_)) | (refine ⟨by decide +kernel, ?_⟩) | fail)
    refine AW.loop (fun n σ => ∃ j, n = l.length - j ∧ j ≤ l.length ∧ σ = mk [(3, .c (sI (IntKind.i64.wrap ((l.length + ((l.take j).map cntS).sum : Nat) : Int)))), (8, .c (.lst none 55 (l.map stC))), (9, .c (sI (l.map stC).length)), (10, .c (sI j))] []) l.length ?_ ?_
    · have e : ((l.map stC).length : Int) = IntKind.i64.wrap ((l.length + ((l.take 0).map cntS).sum : Nat) : Int) := by
        simp only [List.length_map, List.take_zero, List.map_nil, List.sum_nil, Nat.add_zero]
        rw [wrap64 (by omega) (by omega)]
      rw [e]
      refine ⟨_, ?_, 0, rfl, Nat.zero_le _, rfl⟩
      rw [← e]
      exact wk_mk (by (repeat (first | exact all_nil | ((refine all_cons ⟨_, rfl, .inl rfl, ?_⟩ ?_); (· (first | rfl | exact okRow rfl | exact ok_nsR _ _ _ _ rfl rfl | exact ok_lvR _ _ _ rfl | exact ok_stM _ _ rfl | (simp [V.ok, okL, C.ok, okA, HO.ok]; done) | (change okL _ _ = true; assumption)))))); done) (by (repeat (first | exact all_nil | ((refine all_cons ⟨_, rfl, .inl rfl, ?_⟩ ?_); (· (first | rfl | exact okRow rfl | exact ok_nsR _ _ _ _ rfl rfl | exact ok_lvR _ _ _ rfl | exact ok_stM _ _ rfl | (simp [V.ok, okL, C.ok, okA, HO.ok]; done) | (change okL _ _ = true; assumption)))))); done) (by first | rfl | exact fun h => h)
    rintro m σ ⟨j, rfl, hj, rfl⟩
    by_cases hlt : j < l.length
    · obtain ⟨x, hx⟩ : ∃ x, l[j]? = some x := ⟨_, List.getElem?_eq_getElem hlt⟩
      have hm := List.mem_of_getElem? hx
      have hs := sum_step (f := cntS) hx
      have hx2 := cntS_eq x
      have ht := ht x hm
      have he := he x hm
      generalize hS : ((l.take j).map cntS).sum = S at *
      repeat' (first | (with_reducible first | apply AW.seq | apply AW.block | apply AW.scope | apply AW.skip | apply AW.ret | apply AW.exit | apply AW.label | apply q_then | apply q_thenR | apply q_thenE | apply q_thenP | apply q_bloN | apply q_bloR | apply q_bloE | apply q_bloP | apply q_strN | apply q_strR | apply q_strE | apply q_strP | apply y_e | refine m_b rfl ?_ ?_ | refine m_g rfl ?_ | refine m_o rfl ?_ ?_ | refine v_reg ?_ | refine v_drw ?_ | refine v_rgl ?_ | refine v_drb ?_) | ((with_reducible apply i_dv); first | refine t_v AS.v ?_ | refine t_v (by first | exact u_call (hP := ht) | exact u_call (hP := he)) ?_ | refine t_w AS.w ?_) | ((with_reducible apply i_dg); first | refine t_n ?_ | refine t_f ?_ | refine t_m (hs := fun hg => AS.v) (k := ?_) | refine t_m (hs := fun hg => (by first | exact u_call (hP := ht) | exact u_call (hP := he))) (k := ?_)) | ((with_reducible apply i_ds); first | refine t_s AS.s ?_ | refine t_s0 (by first | exact u_call (hP := ht) | exact u_call (hP := he)) ?_ | refine t_p (k := fun σx => ?_)) | ((with_reducible refine i_aw ?_); first | refine v_yes ?_ | refine v_no ?_ | (refine v_cond (fun hc => ?_) (fun hc => ?_); all_goals (try (exfalso; simp [*] at hc; done)); all_goals (try (exfalso; revert hc; simp; omega)))) | ((with_reducible refine i_rt ?_); first | refine k_b ?_ | refine k_s ?_ | refine k_i ?_ | refine k_v ?_ | refine k_c ?_ | exact r_0 | exact r_0n | ((first | refine k_2 ?_ ?_ | refine k_2c ?_ ?_); all_goals (with_reducible (first | apply un_b | apply un_i | apply un_s | apply un_a)))) | ((with_reducible refine i_rx ?_); first | (with_reducible refine x_pan ?_) | refine l_1 (k := ?_) | refine l_0 (k := ?_) | refine l_1c (k := ?_) | refine l_d (k := ?_) | refine l_d0 (k := ?_) | refine l_el (k := ?_)) | ((with_reducible apply y_id); dsimp only [List.append]) | (refine q_bloX rfl ?_) | (refine ⟨by decide +kernel, fun (σx : St) => ?_⟩) | (refine ⟨by decide +kernel, ?_⟩) | fail)
      have e : IntKind.i64.wrap (IntKind.i64.wrap ((l.length + S : Nat) : Int) + IntKind.i64.wrap (cntW x.thn + cntW x.els)) = IntKind.i64.wrap ((l.length + ((l.take (j + 1)).map cntS).sum : Nat) : Int) := by
        unfold cntW
        rw [wrap_step, hs]; congr 1; omega
      rw [e]
      exact ⟨_, _, (show l.length - (j + 1) < l.length - j by omega), wk_mk (by (repeat (first | exact all_nil | ((refine all_cons ⟨_, rfl, .inl rfl, ?_⟩ ?_); (· (first | rfl | exact okRow rfl | exact ok_nsR _ _ _ _ rfl rfl | exact ok_lvR _ _ _ rfl | exact ok_stM _ _ rfl | (simp [V.ok, okL, C.ok, okA, HO.ok]; done) | (change okL _ _ = true; assumption)))))); done) (by (repeat (first | exact all_nil | ((refine all_cons ⟨_, rfl, .inl rfl, ?_⟩ ?_); (· (first | rfl | exact okRow rfl | exact ok_nsR _ _ _ _ rfl rfl | exact ok_lvR _ _ _ rfl | exact ok_stM _ _ rfl | (simp [V.ok, okL, C.ok, okA, HO.ok]; done) | (change okL _ _ = true; assumption)))))); done) (by first | rfl | exact fun h => h), j + 1, rfl, hlt, rfl⟩
    · rw [List.take_of_length_le (by omega)]
      repeat' (first | (with_reducible first | apply AW.seq | apply AW.block | apply AW.skip | apply AW.ret | apply AW.exit | apply q_then | apply q_thenR | apply q_thenE | apply q_bloN | apply q_bloR | apply q_bloE | apply y_e | refine v_rgl ?_ | refine v_drb ?_) | ((with_reducible apply i_dv); first | refine t_v AS.v ?_ | refine t_w AS.w ?_) | ((with_reducible apply i_dg); first | refine t_f ?_ | refine t_m (hs := fun hg => AS.v) (k := ?_)) | ((with_reducible apply i_ds); first | refine t_s AS.s ?_ | refine t_p (k := fun σx => ?_)) | ((with_reducible refine i_aw ?_); ((refine v_cond (fun hc => ?_) (fun hc => ?_); all_goals (try (exfalso; simp [*] at hc; done))))) | ((with_reducible refine i_rt ?_); first | refine k_b ?_ | refine k_i ?_ | refine k_c ?_ | ((refine k_2 ?_ ?_); all_goals (with_reducible (first | apply un_i | apply un_s)))) | ((with_reducible refine i_rx ?_); (with_reducible refine x_pan ?_)) | (refine ⟨by decide +kernel, ?_⟩) | fail)
      rfl
theorem count_p (l : List Stm) : Pure Tryz.prog 74 [.c (.lst none 55 (l.map stC))] (.c (sI (cntW l))) := count_n _ l (Nat.lt_succ_self _)
theorem Count_p (m : Mo) : Pure Tryz.prog 29 [.agg (moC m)] (.c (sI (cntW m.stmts))) := by
  refine fn1 (fn := Tryz.f29) Tryz.call29 Tryz.func29 rfl Tryz.ntmps29 Tryz.results29 rfl (by first | rfl | simp [V.ok, okL, C.ok, okA, okV]) ?_
  repeat' (first | (with_reducible first | apply AW.seq | apply AW.block | apply AW.scope | apply AW.skip | apply AW.ret | apply AW.exit | apply AW.label | apply q_then | apply q_thenR | apply q_thenE | apply q_thenP | apply q_bloN | apply q_bloR | apply q_bloE | apply q_bloP | apply q_strN | apply q_strR | apply q_strE | apply q_strP | apply y_e | refine m_b rfl ?_ ?_ | refine m_g rfl ?_ | refine m_o rfl ?_ ?_ | refine v_reg ?_ | refine v_drw ?_ | refine v_rgl ?_ | refine v_drb ?_) | ((with_reducible apply i_dv); first | refine t_v AS.v ?_ | refine t_v (by first | exact u_call (hP := count_p _)) ?_ | refine t_w AS.w ?_) | ((with_reducible apply i_dg); first | refine t_n ?_ | refine t_f ?_ | refine t_m (hs := fun hg => AS.v) (k := ?_) | refine t_m (hs := fun hg => (by first | exact u_call (hP := count_p _))) (k := ?_)) | ((with_reducible apply i_ds); first | refine t_s AS.s ?_ | refine t_s0 (by first | exact u_call (hP := count_p _)) ?_ | refine t_p (k := fun σx => ?_)) | ((with_reducible refine i_aw ?_); first | refine v_yes ?_ | refine v_no ?_ | (refine v_cond (fun hc => ?_) (fun hc => ?_); all_goals (try (exfalso; simp [*] at hc; done)); all_goals (try (exfalso; revert hc; simp; omega)))) | ((with_reducible refine i_rt ?_); first | refine k_b ?_ | refine k_s ?_ | refine k_i ?_ | refine k_v ?_ | refine k_c ?_ | exact r_0 | exact r_0n | ((first | refine k_2 ?_ ?_ | refine k_2c ?_ ?_); all_goals (with_reducible (first | apply un_b | apply un_i | apply un_s | apply un_a)))) | ((with_reducible refine i_rx ?_); first | (with_reducible refine x_pan ?_) | refine l_1 (k := ?_) | refine l_0 (k := ?_) | refine l_1c (k := ?_) | refine l_d (k := ?_) | refine l_d0 (k := ?_) | refine l_el (k := ?_)) | ((with_reducible apply y_id); dsimp only [List.append]) | (refine q_bloX rfl ?_) | (refine ⟨by decide +kernel, fun (σx : St) => ?_⟩) | (refine ⟨by decide +kernel, ?_⟩) | fail)
  rfl
mutual
def dpS : Stm → Nat
  | ⟨_, _, _, _, _, _, _, _, _, _, _, _, _, _, _, _, _, t, e⟩ => if 0 < t.length ∨ 0 < e.length then max (1 + dpL t) (1 + dpL e) else 0
def dpL : List Stm → Nat
  | [] => 0
  | x :: l => max (dpS x) (dpL l)
end
theorem dpS_eq (s : Stm) : dpS s = if 0 < s.thn.length ∨ 0 < s.els.length then max (1 + dpL s.thn) (1 + dpL s.els) else 0 := by cases s; rw [dpS]
theorem dp_step : ∀ {l : List Stm} {j : Nat} {x : Stm}, l[j]? = some x → dpL (l.take (j + 1)) = max (dpL (l.take j)) (dpS x)
  | [], j, x, h => by simp at h
  | y :: l, 0, x, h => by
    obtain rfl : y = x := by simpa using h
    simp [dpL]
  | y :: l, j + 1, x, h => by
    simp only [List.take_succ_cons, dpL]
    rw [dp_step (l := l) (j := j) (x := x) (by simpa using h)]
    omega
theorem dp_le : ∀ (l : List Stm) (j : Nat), dpL (l.take j) ≤ dpL l
  | [], j => by simp
  | x :: l, 0 => by simp [dpL]
  | x :: l, j + 1 => by
    have := dp_le l j
    simp only [List.take_succ_cons, dpL]
    omega
theorem depth_n : ∀ (n : Nat) (l : List Stm), SizeOf.sizeOf l < n → dpL l ≤ 4611686018427387904 → Pure Tryz.prog 42 [.c (.lst none 55 (l.map stC))] (.c (sI (dpL l)))
  | 0, _, h, _ => absurd h (Nat.not_lt_zero _)
  | n + 1, l, h, hb => by
    have ht : ∀ x ∈ l, dpL x.thn ≤ 4611686018427387904 → Pure Tryz.prog 42 [.c (.lst none 55 (x.thn.map stC))] (.c (sI (dpL x.thn))) := fun x hx => depth_n n x.thn (by have := List.sizeOf_lt_of_mem hx; have := lthn_lt x; omega)
    have he : ∀ x ∈ l, dpL x.els ≤ 4611686018427387904 → Pure Tryz.prog 42 [.c (.lst none 55 (x.els.map stC))] (.c (sI (dpL x.els))) := fun x hx => depth_n n x.els (by have := List.sizeOf_lt_of_mem hx; have := lels_lt x; omega)
    refine fn1 (fn := Tryz.f42) Tryz.call42 Tryz.func42 rfl Tryz.ntmps42 Tryz.results42 rfl (by first | rfl | simp [V.ok, okL, C.ok, okA, okV]) ?_
    refine AW.fact (t := 0) rfl (fun κ w x hr => repV_l hr) fun hn => ?_
    repeat' (first | (with_reducible first | apply AW.seq | apply AW.block | apply AW.skip | apply AW.ret | apply AW.exit | apply q_then | apply q_thenR | apply q_thenE | apply q_bloN | apply q_bloR | apply q_bloE | apply y_e | refine v_rgl ?_ | refine v_drb ?_) | ((with_reducible apply i_dv); first | refine t_v AS.v ?_ | refine t_w AS.w ?_) | ((with_reducible apply i_dg); first | refine t_f ?_ | refine t_m (hs := fun hg => AS.v) (k := ?_)) | ((with_reducible apply i_ds); first | refine t_s AS.s ?_ | refine t_p (k := fun σx => ?_)) | ((with_reducible refine i_aw ?_); ((refine v_cond (fun hc => ?_) (fun hc => ?_); all_goals (try (exfalso; simp [*] at hc; done))))) | ((with_reducible refine i_rt ?_); first | refine k_b ?_ | refine k_i ?_ | refine k_c ?_ | ((refine k_2 ?_ ?_); all_goals (with_reducible (first | apply un_i | apply un_s)))) | ((with_reducible refine i_rx ?_); (with_reducible refine x_pan ?_)) | (refine ⟨by decide +kernel, ?_⟩) | fail)
    refine AW.loop (fun n σ => ∃ j, n = l.length - j ∧ j ≤ l.length ∧ σ = mk [(3, .c (sI (dpL (l.take j) : Nat))), (6, .c (.lst none 55 (l.map stC))), (7, .c (sI (l.map stC).length)), (8, .c (sI j))] []) l.length ?_ ?_
    · exact ⟨_, wk_mk (by (repeat (first | exact all_nil | ((refine all_cons ⟨_, rfl, .inl rfl, ?_⟩ ?_); (· (first | rfl | (simp [V.ok, okL, C.ok, okA, HO.ok]; done)))))); done) (by (repeat (first | exact all_nil | ((refine all_cons ⟨_, rfl, .inl rfl, ?_⟩ ?_); (· (rfl))))); done) (by rfl), 0, rfl, Nat.zero_le _, rfl⟩
    rintro m σ ⟨j, rfl, hj, rfl⟩
    by_cases hlt : j < l.length
    · obtain ⟨x, hx⟩ : ∃ x, l[j]? = some x := ⟨_, List.getElem?_eq_getElem hlt⟩
      have hm := List.mem_of_getElem? hx
      have hs := dp_step hx
      have hle := dp_le l (j + 1)
      have hx2 := dpS_eq x
      by_cases hk : 0 < x.thn.length ∨ 0 < x.els.length
      · rw [if_pos hk] at hx2
        have b1 : dpL x.thn ≤ 4611686018427387904 := by omega
        have b2 : dpL x.els ≤ 4611686018427387904 := by omega
        have ht := ht x hm b1
        have he := he x hm b2
        have e : max (max ((dpL (l.take j) : Nat) : Int) (1 + (dpL x.thn : Int))) (1 + (dpL x.els : Int)) = (dpL (l.take (j + 1)) : Nat) := by omega
        clear hs hx2 hle
        repeat' (first | (with_reducible first | apply AW.seq | apply AW.block | apply AW.scope | apply AW.skip | apply AW.ret | apply AW.exit | apply AW.label | apply q_then | apply q_thenR | apply q_thenE | apply q_thenP | apply q_bloN | apply q_bloR | apply q_bloE | apply q_bloP | apply q_strN | apply q_strR | apply q_strE | apply q_strP | apply y_e | refine m_b rfl ?_ ?_ | refine m_g rfl ?_ | refine m_o rfl ?_ ?_ | refine v_reg ?_ | refine v_drw ?_ | refine v_rgl ?_ | refine v_drb ?_) | ((with_reducible apply i_dv); first | refine t_v AS.v ?_ | refine t_v (by first | exact u_call (hP := ht) | exact u_call (hP := he)) ?_ | refine t_w AS.w ?_) | ((with_reducible apply i_dg); first | refine t_n ?_ | refine t_f ?_ | refine t_m (hs := fun hg => AS.v) (k := ?_) | refine t_m (hs := fun hg => (by first | exact u_call (hP := ht) | exact u_call (hP := he))) (k := ?_)) | ((with_reducible apply i_ds); first | refine t_s AS.s ?_ | refine t_s0 (by first | exact u_call (hP := ht) | exact u_call (hP := he)) ?_ | refine t_p (k := fun σx => ?_)) | ((with_reducible refine i_aw ?_); first | refine v_yes ?_ | refine v_no ?_ | (refine v_cond (fun hc => ?_) (fun hc => ?_); all_goals (try (exfalso; simp [*] at hc; done)); all_goals (try (exfalso; revert hc; simp; omega)))) | ((with_reducible refine i_rt ?_); first | refine k_b ?_ | refine k_s ?_ | refine k_i ?_ | refine k_v ?_ | refine k_c ?_ | exact r_0 | exact r_0n | ((first | refine k_2 ?_ ?_ | refine k_2c ?_ ?_); all_goals (with_reducible (first | apply un_b | apply un_i | apply un_s | apply un_a)))) | ((with_reducible refine i_rx ?_); first | (with_reducible refine x_pan ?_) | refine l_1 (k := ?_) | refine l_0 (k := ?_) | refine l_1c (k := ?_) | refine l_d (k := ?_) | refine l_d0 (k := ?_) | refine l_el (k := ?_)) | ((with_reducible apply y_id); dsimp only [List.append]) | (refine q_bloX rfl ?_) | (refine ⟨by decide +kernel, fun (σx : St) => ?_⟩) | (refine ⟨by decide +kernel, ?_⟩) | fail)
        · exact ⟨_, _, (show l.length - (j + 1) < l.length - j by omega), wk_mk (by (repeat (first | exact all_nil | ((refine all_cons ⟨_, rfl, .inl rfl, ?_⟩ ?_); (· (first | rfl | exact okRow rfl | exact ok_nsR _ _ _ _ rfl rfl | exact ok_lvR _ _ _ rfl | exact ok_stM _ _ rfl | (simp [V.ok, okL, C.ok, okA, HO.ok]; done) | (change okL _ _ = true; assumption)))))); done) (by (repeat (first | exact all_nil | ((refine all_cons ⟨_, rfl, .inl rfl, ?_⟩ ?_); (· (first | rfl | exact okRow rfl | exact ok_nsR _ _ _ _ rfl rfl | exact ok_lvR _ _ _ rfl | exact ok_stM _ _ rfl | (simp [V.ok, okL, C.ok, okA, HO.ok]; done) | (change okL _ _ = true; assumption)))))); done) (by first | rfl | exact fun h => h), j + 1, rfl, hlt, rfl⟩
        · exfalso; simp only [List.length_map, Bool.or_eq_false_iff, decide_eq_false_iff_not] at hc; omega
      · rw [if_neg hk] at hx2
        have e : dpL (l.take (j + 1)) = dpL (l.take j) := by omega
        clear hs hx2 hle
        have h1 : x.thn.length = 0 := by omega
        have h2 : x.els.length = 0 := by omega
        repeat' (first | (with_reducible first | apply AW.seq | apply AW.block | apply AW.skip | apply AW.ret | apply AW.exit | apply q_then | apply q_thenR | apply q_thenE | apply q_bloN | apply q_bloR | apply q_bloE | apply y_e | refine v_rgl ?_ | refine v_drb ?_) | ((with_reducible apply i_dv); first | refine t_v AS.v ?_ | refine t_w AS.w ?_) | ((with_reducible apply i_dg); first | refine t_f ?_ | refine t_m (hs := fun hg => AS.v) (k := ?_)) | ((with_reducible apply i_ds); first | refine t_s AS.s ?_ | refine t_p (k := fun σx => ?_)) | ((with_reducible refine i_aw ?_); ((refine v_cond (fun hc => ?_) (fun hc => ?_); all_goals (try (exfalso; simp [*] at hc; done))))) | ((with_reducible refine i_rt ?_); first | refine k_b ?_ | refine k_i ?_ | refine k_c ?_ | ((refine k_2 ?_ ?_); all_goals (with_reducible (first | apply un_i | apply un_s)))) | ((with_reducible refine i_rx ?_); (with_reducible refine x_pan ?_)) | (refine ⟨by decide +kernel, ?_⟩) | fail)
        · rw [← e]
          exact ⟨_, _, (show l.length - (j + 1) < l.length - j by omega), wk_mk (by (repeat (first | exact all_nil | ((refine all_cons ⟨_, rfl, .inl rfl, ?_⟩ ?_); (· (first | rfl | exact okRow rfl | exact ok_nsR _ _ _ _ rfl rfl | exact ok_lvR _ _ _ rfl | exact ok_stM _ _ rfl | (simp [V.ok, okL, C.ok, okA, HO.ok]; done) | (change okL _ _ = true; assumption)))))); done) (by (repeat (first | exact all_nil | ((refine all_cons ⟨_, rfl, .inl rfl, ?_⟩ ?_); (· (first | rfl | exact okRow rfl | exact ok_nsR _ _ _ _ rfl rfl | exact ok_lvR _ _ _ rfl | exact ok_stM _ _ rfl | (simp [V.ok, okL, C.ok, okA, HO.ok]; done) | (change okL _ _ = true; assumption)))))); done) (by first | rfl | exact fun h => h), j + 1, rfl, hlt, rfl⟩
    · rw [List.take_of_length_le (by omega)]
      repeat' (first | (with_reducible first | apply AW.seq | apply AW.block | apply AW.skip | apply AW.ret | apply AW.exit | apply q_then | apply q_thenR | apply q_thenE | apply q_bloN | apply q_bloR | apply q_bloE | apply y_e | refine v_rgl ?_ | refine v_drb ?_) | ((with_reducible apply i_dv); first | refine t_v AS.v ?_ | refine t_w AS.w ?_) | ((with_reducible apply i_dg); first | refine t_f ?_ | refine t_m (hs := fun hg => AS.v) (k := ?_)) | ((with_reducible apply i_ds); first | refine t_s AS.s ?_ | refine t_p (k := fun σx => ?_)) | ((with_reducible refine i_aw ?_); ((refine v_cond (fun hc => ?_) (fun hc => ?_); all_goals (try (exfalso; simp [*] at hc; done))))) | ((with_reducible refine i_rt ?_); first | refine k_b ?_ | refine k_i ?_ | refine k_c ?_ | ((refine k_2 ?_ ?_); all_goals (with_reducible (first | apply un_i | apply un_s)))) | ((with_reducible refine i_rx ?_); (with_reducible refine x_pan ?_)) | (refine ⟨by decide +kernel, ?_⟩) | fail)
      rfl
theorem depth_p {l : List Stm} (hb : dpL l ≤ 4611686018427387904) : Pure Tryz.prog 42 [.c (.lst none 55 (l.map stC))] (.c (sI (dpL l))) := depth_n _ l (Nat.lt_succ_self _) hb
end Am
namespace Am
open Tk Go.RowKit
set_option maxRecDepth 100000
set_option maxHeartbeats 4000000
section
variable {ρ : Operand → Option V} {H : Nat → Option HO} {d : Option Nat} {ty : TypeId} {pos : String} {af : Array Edge} {gu : Option (Nat × Bool)} {x : Operand} {p : Int}
theorem a_u8i (hx : Ev ρ x (.c (.sc (.int .u8 p)))) (h0 : 0 ≤ p) (h1 : p < 256) : AS Tryz.prog ρ H ⟨d, .convert 5 3 x, ty, pos, af, gu⟩ ⟨.c (.sc (.int .i64 p)), [], []⟩ := by
  refine .still (fun q hq w => ?_) fun _ => .sc rfl
  have h1 := hq x (by simp [Op.operands]) _ _ hx .sc
  have h2 : IntKind.i64.wrap p = p := by rw [IntKind.wrap_i64]; omega
  unfold execOp
  simp only [h1]
  simp [go_sem, run_underlying und_int, run_underlying und_u8, h2]
theorem und_i8 : Tryz.prog.underlying 79 = some (.int .i8) := by kernel_rfl
theorem a_i8i (hx : Ev ρ x (.c (.sc (.int .i8 p)))) (h0 : -128 ≤ p) (h1 : p < 128) : AS Tryz.prog ρ H ⟨d, .convert 79 3 x, ty, pos, af, gu⟩ ⟨.c (.sc (.int .i64 p)), [], []⟩ := by
  refine .still (fun q hq w => ?_) fun _ => .sc rfl
  have h1 := hq x (by simp [Op.operands]) _ _ hx .sc
  have h2 : IntKind.i64.wrap p = p := by rw [IntKind.wrap_i64]; omega
  unfold execOp
  simp only [h1]
  simp [go_sem, run_underlying und_int, run_underlying und_i8, h2]
end
def moS : Nat → ByteArray
  | 0 => ⟨#[109, 111, 100, 117, 108, 101, 32, 109, 32, 49, 59]⟩
  | n + 1 => moS n ++ ⟨#[116, 121, 112, 101, 32, 97, 59]⟩
theorem moS_list : ∀ n, (moS n).data.toList = moB n
  | 0 => rfl
  | n + 1 => by
    rw [moS, ByteArray.data_append, Array.toList_append, moS_list n]
    unfold moB
    rw [← repB_end]
    simp [tyB]
theorem moS_size (n : Nat) : (moS n).size = 11 + 7 * n := by rw [sz_len, moS_list, moB_len]
def inS : Nat → ByteArray
  | 0 => ⟨#[]⟩
  | n + 1 => inS n ++ ⟨#[111, 112, 116, 105, 111, 110, 97, 108, 123]⟩
def outS : Nat → ByteArray
  | 0 => ⟨#[]⟩
  | n + 1 => outS n ++ ⟨#[125]⟩
theorem inS_size : ∀ n, (inS n).size = 9 * n
  | 0 => rfl
  | n + 1 => by rw [inS, ByteArray.size_append, inS_size n]; simp only [ByteArray.size, List.size_toArray, List.length_cons, List.length_nil]; omega
theorem outS_size : ∀ n, (outS n).size = n
  | 0 => rfl
  | n + 1 => by rw [outS, ByteArray.size_append, outS_size n]; rfl
def depR (n : Nat) : Option Nat := match stmtsT (inS n ++ ⟨#[116, 121, 112, 101, 32, 97, 59]⟩ ++ outS n) with | .ok L => some (dpL L) | .error _ => none
theorem dep_9 : depR 9 = some 9 := by kernel_rfl
theorem dep_10 : depR 10 = some 10 := by kernel_rfl
theorem dep_11 : depR 11 = some 11 := by kernel_rfl
theorem dep_12 : depR 12 = some 12 := by kernel_rfl
theorem dep_13 : stmtsT (inS 13 ++ ⟨#[116, 121, 112, 101, 32, 97, 59]⟩ ++ outS 13) = .error ⟨4, ⟨1, 109⟩, ⟨#[111, 112, 116, 105, 111, 110, 97, 108]⟩⟩ := by kernel_rfl
theorem dep_14 : stmtsT (inS 14 ++ ⟨#[116, 121, 112, 101, 32, 97, 59]⟩ ++ outS 14) = .error ⟨4, ⟨1, 109⟩, ⟨#[111, 112, 116, 105, 111, 110, 97, 108]⟩⟩ := by kernel_rfl
theorem depR_ok {n k : Nat} (h : depR n = some k) : ∃ L, stmtsT (inS n ++ ⟨#[116, 121, 112, 101, 32, 97, 59]⟩ ++ outS n) = .ok L ∧ dpL L = k := by
  unfold depR at h
  cases e : stmtsT (inS n ++ ⟨#[116, 121, 112, 101, 32, 97, 59]⟩ ++ outS n) with
  | error f => rw [e] at h; cases h
  | ok L => rw [e] at h; injection h with h; exact ⟨L, rfl, h⟩
theorem dep_c {d : Nat} (h : d ≤ 5) : (d ≤ 3 ∧ ∃ L, stmtsT (inS (9 + d) ++ ⟨#[116, 121, 112, 101, 32, 97, 59]⟩ ++ outS (9 + d)) = .ok L ∧ dpL L = 9 + d) ∨ (3 < d ∧ stmtsT (inS (9 + d) ++ ⟨#[116, 121, 112, 101, 32, 97, 59]⟩ ++ outS (9 + d)) = .error ⟨4, ⟨1, 109⟩, ⟨#[111, 112, 116, 105, 111, 110, 97, 108]⟩⟩) := by
  match d, h with
  | 0, _ => exact .inl ⟨by decide, depR_ok dep_9⟩
  | 1, _ => exact .inl ⟨by decide, depR_ok dep_10⟩
  | 2, _ => exact .inl ⟨by decide, depR_ok dep_11⟩
  | 3, _ => exact .inl ⟨by decide, depR_ok dep_12⟩
  | 4, _ => exact .inr ⟨by decide, dep_13⟩
  | 5, _ => exact .inr ⟨by decide, dep_14⟩
theorem cnt_ty (n : Nat) (hn : n ≤ 1024) : cntW ((List.range' 0 n).map tyS) = (n : Int) := by
  have e : ∀ l : List Nat, cntL (l.map tyS) = l.length := fun l => by
    induction l with
    | nil => rfl
    | cons a l ih => rw [List.map_cons, cntL, ih, List.length_cons]; show 1 + (cntL [] + cntL []) + _ = _; simp only [cntL]; omega
  unfold cntW
  rw [e, List.length_range']
  exact wrap64 (by omega) (by omega)
theorem lim_c {n : Nat} (hn : n ≤ 1027) : ∃ M f, Pure Tryz.prog 14 [.c (sS (moS n))] (.tup [.agg (moC M), .agg (faC f)]) ∧ (f = Fa.zero ∧ cntW M.stmts = (n : Int) ∧ n ≤ 1024 ∨ f = ⟨4, ⟨1, 7180⟩, ⟨#[116, 121, 112, 101]⟩⟩ ∧ 1024 < n) := by
  have p := parse_p (moS n)
  by_cases h : n ≤ 1024
  · rw [lim_ok (moS_list n) h] at p
    exact ⟨_, _, p, .inl ⟨rfl, cnt_ty n h, h⟩⟩
  · rw [lim_err (moS_list n) (by omega) hn] at p
    exact ⟨_, _, p, .inr ⟨rfl, by omega⟩⟩
theorem rem4 (m : Int) : -3 ≤ Int.tmod m 4 ∧ Int.tmod m 4 ≤ 3 := by
  by_cases h : 0 ≤ m
  · rw [Int.tmod_eq_emod_of_nonneg h]; omega
  · obtain ⟨k, rfl⟩ : ∃ k, m = -k := ⟨-m, by omega⟩
    rw [Int.neg_tmod, Int.tmod_eq_emod_of_nonneg (by omega)]; omega
theorem wf_i8 {v : Int} (h : (Lit.int .i8 v).wf = true) : -128 ≤ v ∧ v < 128 := by
  simp [Lit.wf, IntKind.min, IntKind.max, IntKind.signed, IntKind.bits] at h
  omega
theorem wf_u8 {v : Int} (h : (Lit.int .u8 v).wf = true) : 0 ≤ v ∧ v < 256 := by
  simp [Lit.wf, IntKind.min, IntKind.max, IntKind.signed, IntKind.bits] at h
  omega
theorem law_limits (m l : Int) (hm0 : -128 ≤ m) (hm1 : m < 128) (hl0 : 0 ≤ l) (hl1 : l < 256) : Pure Tryz.prog 11 [.c (.sc (.int .i8 m)), .c (.sc (.int .u8 l))] (.c (sB true)) := by
  have al := alive_p
  obtain ⟨r, hr, hr0, hr1⟩ : ∃ r : Int, Int.tmod m 4 = r ∧ -3 ≤ r ∧ r ≤ 3 := ⟨_, rfl, (rem4 m).1, (rem4 m).2⟩
  obtain ⟨d, hd, hd1⟩ : ∃ d : Nat, Int.tmod l 6 = (d : Int) ∧ d ≤ 5 := by
    rw [Int.tmod_eq_emod_of_nonneg hl0]; exact ⟨(l % 6).toNat, by omega, by omega⟩
  obtain ⟨n, hn⟩ : ∃ n : Nat, (n : Int) = 1024 + r := ⟨(1024 + r).toNat, by omega⟩
  obtain ⟨M, f, pm, hM⟩ := lim_c (n := n) (by omega)
  have ct := Count_p M
  have hi : ∀ j, (inS j).size = 9 * j := inS_size
  have ho : ∀ j, (outS j).size = j := outS_size
  refine fn2 (fn := Tryz.f11) Tryz.call11 Tryz.func11 rfl Tryz.ntmps11 Tryz.results11 rfl (by first | rfl | simp [V.ok, okL, C.ok, okA, okV]) ?_
  repeat' (first | (with_reducible first | apply AW.seq | apply AW.block | apply AW.scope | apply AW.skip | apply AW.ret | apply AW.exit | apply AW.label | apply q_then | apply q_thenR | apply q_thenE | apply q_thenP | apply q_bloN | apply q_bloR | apply q_bloE | apply q_bloP | apply q_strN | apply q_strR | apply q_strE | apply q_strP | apply y_e | refine m_b rfl ?_ ?_ | refine m_g rfl ?_ | refine m_o rfl ?_ ?_ | refine v_reg ?_ | refine v_drw ?_ | refine v_rgl ?_ | refine v_drb ?_) | ((with_reducible apply i_dv); first | refine t_v AS.v ?_ | refine t_v (by first | exact u_eqlFa | exact u_neqFa | exact u_eqlPo | exact u_neqPo | exact a_u8i (.pl rfl) (by omega) (by omega) | exact a_i8i (.pl rfl) (by omega) (by omega) | exact u_rem) ?_ | refine t_w AS.w ?_) | ((with_reducible apply i_dg); first | refine t_n ?_ | refine t_f ?_ | refine t_m (hs := fun hg => AS.v) (k := ?_) | refine t_m (hs := fun hg => (by first | exact u_eqlFa | exact u_neqFa | exact u_eqlPo | exact u_neqPo | exact a_u8i (.pl rfl) (by omega) (by omega) | exact a_i8i (.pl rfl) (by omega) (by omega) | exact u_rem)) (k := ?_)) | ((with_reducible apply i_ds); first | refine t_s AS.s ?_ | refine t_s0 (by first | exact u_eqlFa | exact u_neqFa | exact u_eqlPo | exact u_neqPo | exact a_u8i (.pl rfl) (by omega) (by omega) | exact a_i8i (.pl rfl) (by omega) (by omega) | exact u_rem) ?_ | refine t_p (k := fun σx => ?_)) | ((with_reducible refine i_aw ?_); first | refine v_yes ?_ | refine v_no ?_ | (refine v_cond (fun hc => ?_) (fun hc => ?_); all_goals (try (exfalso; simp [*] at hc; done)); all_goals (try (exfalso; revert hc; simp; omega)))) | ((with_reducible refine i_rt ?_); first | refine k_b ?_ | refine k_s ?_ | refine k_i ?_ | refine k_v ?_ | refine k_c ?_ | exact r_0 | ((first | refine k_cc ?_ ?_ | refine k_ccc ?_ ?_ ?_ | refine k_ct ?_ ?_ | refine k_ctc ?_ ?_ ?_); all_goals (with_reducible (first | apply un_b | apply un_i | apply un_s | apply un_a))) | exact r_0n | ((first | refine k_2 ?_ ?_ | refine k_2c ?_ ?_); all_goals (with_reducible (first | apply un_b | apply un_i | apply un_s | apply un_a)))) | ((with_reducible refine i_rx ?_); first | (with_reducible refine x_pan ?_) | refine l_1 (k := ?_) | refine l_0 (k := ?_) | refine l_1c (k := ?_) | refine l_d (k := ?_) | refine l_d0 (k := ?_) | refine l_el (k := ?_) | refine l_tc (k := ?_) | refine l_cc (k := ?_)) | ((with_reducible apply y_id); dsimp only [List.append]) | (refine q_bloX rfl ?_) | (refine ⟨by decide +kernel, fun (σx : St) => ?_⟩) | (refine ⟨by decide +kernel, ?_⟩) | fail)
  refine AW.loop (fun k σ => ∃ j : Nat, k = n - j ∧ j ≤ n ∧ σ = mk [(1, .c (.sc (.int .u8 l))), (5, .c (sI (1024 + r))), (6, .c (sS (moS j))), (7, .c (sI j))] []) n ?_ ?_
  · exact ⟨_, wk_mk (by (repeat (first | exact all_nil | ((refine all_cons ⟨_, rfl, .inl rfl, ?_⟩ ?_); (· (first | rfl | (simp [V.ok, okL, C.ok, okA, HO.ok]; done)))))); done) (by (repeat (first | exact all_nil | ((refine all_cons ⟨_, rfl, .inl rfl, ?_⟩ ?_); (· (rfl))))); done) (by rfl), 0, rfl, Nat.zero_le _, rfl⟩
  rintro k σ ⟨j, rfl, hj, rfl⟩
  have hsz := moS_size j
  by_cases hlt : j < n
  · repeat' (first | (with_reducible first | apply AW.seq | apply AW.block | apply AW.scope | apply AW.skip | apply AW.ret | apply AW.exit | apply AW.label | apply q_then | apply q_thenR | apply q_thenE | apply q_thenP | apply q_bloN | apply q_bloR | apply q_bloE | apply q_bloP | apply q_strN | apply q_strR | apply q_strE | apply q_strP | apply y_e | refine m_b rfl ?_ ?_ | refine m_g rfl ?_ | refine m_o rfl ?_ ?_ | refine v_reg ?_ | refine v_drw ?_ | refine v_rgl ?_ | refine v_drb ?_) | ((with_reducible apply i_dv); first | refine t_v AS.v ?_ | refine t_v (by first | exact u_eqlFa | exact u_neqFa | exact u_eqlPo | exact u_neqPo | exact a_u8i (.pl rfl) (by omega) (by omega) | exact a_i8i (.pl rfl) (by omega) (by omega) | exact u_rem) ?_ | refine t_w AS.w ?_) | ((with_reducible apply i_dg); first | refine t_n ?_ | refine t_f ?_ | refine t_m (hs := fun hg => AS.v) (k := ?_) | refine t_m (hs := fun hg => (by first | exact u_eqlFa | exact u_neqFa | exact u_eqlPo | exact u_neqPo | exact a_u8i (.pl rfl) (by omega) (by omega) | exact a_i8i (.pl rfl) (by omega) (by omega) | exact u_rem)) (k := ?_)) | ((with_reducible apply i_ds); first | refine t_s AS.s ?_ | refine t_s0 (by first | exact u_eqlFa | exact u_neqFa | exact u_eqlPo | exact u_neqPo | exact a_u8i (.pl rfl) (by omega) (by omega) | exact a_i8i (.pl rfl) (by omega) (by omega) | exact u_rem) ?_ | refine t_p (k := fun σx => ?_)) | ((with_reducible refine i_aw ?_); first | refine v_yes ?_ | refine v_no ?_ | (refine v_cond (fun hc => ?_) (fun hc => ?_); all_goals (try (exfalso; simp [*] at hc; done)); all_goals (try (exfalso; revert hc; simp; omega)))) | ((with_reducible refine i_rt ?_); first | refine k_b ?_ | refine k_s ?_ | refine k_i ?_ | refine k_v ?_ | refine k_c ?_ | exact r_0 | ((first | refine k_cc ?_ ?_ | refine k_ccc ?_ ?_ ?_ | refine k_ct ?_ ?_ | refine k_ctc ?_ ?_ ?_); all_goals (with_reducible (first | apply un_b | apply un_i | apply un_s | apply un_a))) | exact r_0n | ((first | refine k_2 ?_ ?_ | refine k_2c ?_ ?_); all_goals (with_reducible (first | apply un_b | apply un_i | apply un_s | apply un_a)))) | ((with_reducible refine i_rx ?_); first | (with_reducible refine x_pan ?_) | refine l_1 (k := ?_) | refine l_0 (k := ?_) | refine l_1c (k := ?_) | refine l_d (k := ?_) | refine l_d0 (k := ?_) | refine l_el (k := ?_) | refine l_tc (k := ?_) | refine l_cc (k := ?_)) | ((with_reducible apply y_id); dsimp only [List.append]) | (refine q_bloX rfl ?_) | (refine ⟨by decide +kernel, fun (σx : St) => ?_⟩) | (refine ⟨by decide +kernel, ?_⟩) | fail)
    exact ⟨_, _, (show n - (j + 1) < n - j by omega), wk_mk (by (repeat (first | exact all_nil | ((refine all_cons ⟨_, rfl, .inl rfl, ?_⟩ ?_); (· (first | rfl | exact okRow rfl | exact ok_nsR _ _ _ _ rfl rfl | exact ok_lvR _ _ _ rfl | exact ok_stM _ _ rfl | (simp [V.ok, okL, C.ok, okA, HO.ok]; done) | (change okL _ _ = true; assumption)))))); done) (by (repeat (first | exact all_nil | ((refine all_cons ⟨_, rfl, .inl rfl, ?_⟩ ?_); (· (first | rfl | exact okRow rfl | exact ok_nsR _ _ _ _ rfl rfl | exact ok_lvR _ _ _ rfl | exact ok_stM _ _ rfl | (simp [V.ok, okL, C.ok, okA, HO.ok]; done) | (change okL _ _ = true; assumption)))))); done) (by first | rfl | exact fun h => h), j + 1, rfl, hlt, rfl⟩
  obtain rfl : j = n := by omega
  clear hlt hj
  rcases hM with ⟨rfl, hM, hn2⟩ | ⟨rfl, hn2⟩
  · rw [hM] at ct
    repeat' (first | (with_reducible first | apply AW.seq | apply AW.block | apply AW.scope | apply AW.skip | apply AW.ret | apply AW.exit | apply AW.label | apply q_then | apply q_thenR | apply q_thenE | apply q_thenP | apply q_bloN | apply q_bloR | apply q_bloE | apply q_bloP | apply q_strN | apply q_strR | apply q_strE | apply q_strP | apply y_e | refine m_b rfl ?_ ?_ | refine m_g rfl ?_ | refine m_o rfl ?_ ?_ | refine v_reg ?_ | refine v_drw ?_ | refine v_rgl ?_ | refine v_drb ?_) | ((with_reducible apply i_dv); first | refine t_v AS.v ?_ | refine t_v (by first | exact u_call (hP := pm) | exact u_call (hP := ct) | exact u_eqlFa | exact u_neqFa | exact u_eqlPo | exact u_neqPo | exact a_u8i (.pl rfl) (by omega) (by omega) | exact a_i8i (.pl rfl) (by omega) (by omega) | exact u_rem) ?_ | refine t_w AS.w ?_) | ((with_reducible apply i_dg); first | refine t_n ?_ | refine t_f ?_ | refine t_m (hs := fun hg => AS.v) (k := ?_) | refine t_m (hs := fun hg => (by first | exact u_call (hP := pm) | exact u_call (hP := ct) | exact u_eqlFa | exact u_neqFa | exact u_eqlPo | exact u_neqPo | exact a_u8i (.pl rfl) (by omega) (by omega) | exact a_i8i (.pl rfl) (by omega) (by omega) | exact u_rem)) (k := ?_)) | ((with_reducible apply i_ds); first | refine t_s AS.s ?_ | refine t_s0 (by first | exact u_call (hP := pm) | exact u_call (hP := ct) | exact u_eqlFa | exact u_neqFa | exact u_eqlPo | exact u_neqPo | exact a_u8i (.pl rfl) (by omega) (by omega) | exact a_i8i (.pl rfl) (by omega) (by omega) | exact u_rem) ?_ | refine t_p (k := fun σx => ?_)) | ((with_reducible refine i_aw ?_); first | refine v_yes ?_ | refine v_no ?_ | (refine v_cond (fun hc => ?_) (fun hc => ?_); all_goals (try (exfalso; simp [*] at hc; done)); all_goals (try (exfalso; revert hc; simp; omega)))) | ((with_reducible refine i_rt ?_); first | refine k_b ?_ | refine k_s ?_ | refine k_i ?_ | refine k_v ?_ | refine k_c ?_ | exact r_0 | ((first | refine k_cc ?_ ?_ | refine k_ccc ?_ ?_ ?_ | refine k_ct ?_ ?_ | refine k_ctc ?_ ?_ ?_); all_goals (with_reducible (first | apply un_b | apply un_i | apply un_s | apply un_a))) | exact r_0n | ((first | refine k_2 ?_ ?_ | refine k_2c ?_ ?_); all_goals (with_reducible (first | apply un_b | apply un_i | apply un_s | apply un_a)))) | ((with_reducible refine i_rx ?_); first | (with_reducible refine x_pan ?_) | refine l_1 (k := ?_) | refine l_0 (k := ?_) | refine l_1c (k := ?_) | refine l_d (k := ?_) | refine l_d0 (k := ?_) | refine l_el (k := ?_) | refine l_tc (k := ?_) | refine l_cc (k := ?_)) | ((with_reducible apply y_id); dsimp only [List.append]) | (refine q_bloX rfl ?_) | (refine ⟨by decide +kernel, fun (σx : St) => ?_⟩) | (refine ⟨by decide +kernel, ?_⟩) | fail)
    · exfalso; simp [hn, Fa.zero] at hc; omega
    · refine AW.loop (fun k σ => ∃ j : Nat, k = 9 + d - j ∧ j ≤ 9 + d ∧ σ = mk [(10, .c (sI ((d : Int) + 9))), (11, .c (sS (inS j))), (12, .c (sS (outS j))), (13, .c (sI j))] []) (9 + d) ?_ ?_
      · exact ⟨_, wk_mk (by (repeat (first | exact all_nil | ((refine all_cons ⟨_, rfl, .inl rfl, ?_⟩ ?_); (· (first | rfl | (simp [V.ok, okL, C.ok, okA, HO.ok]; done)))))); done) (by (repeat (first | exact all_nil | ((refine all_cons ⟨_, rfl, .inl rfl, ?_⟩ ?_); (· (rfl))))); done) (by rfl), 0, rfl, Nat.zero_le _, rfl⟩
      clear hc pm ct
      rintro k σ ⟨j, rfl, hj, rfl⟩
      have hs1 := hi j
      have hs2 := ho j
      by_cases hlt : j < 9 + d
      · repeat' (first | (with_reducible first | apply AW.seq | apply AW.block | apply AW.scope | apply AW.skip | apply AW.ret | apply AW.exit | apply AW.label | apply q_then | apply q_thenR | apply q_thenE | apply q_thenP | apply q_bloN | apply q_bloR | apply q_bloE | apply q_bloP | apply q_strN | apply q_strR | apply q_strE | apply q_strP | apply y_e | refine m_b rfl ?_ ?_ | refine m_g rfl ?_ | refine m_o rfl ?_ ?_ | refine v_reg ?_ | refine v_drw ?_ | refine v_rgl ?_ | refine v_drb ?_) | ((with_reducible apply i_dv); first | refine t_v AS.v ?_ | refine t_v (by first | exact u_eqlFa | exact u_neqFa | exact u_eqlPo | exact u_neqPo | exact a_u8i (.pl rfl) (by omega) (by omega) | exact a_i8i (.pl rfl) (by omega) (by omega) | exact u_rem) ?_ | refine t_w AS.w ?_) | ((with_reducible apply i_dg); first | refine t_n ?_ | refine t_f ?_ | refine t_m (hs := fun hg => AS.v) (k := ?_) | refine t_m (hs := fun hg => (by first | exact u_eqlFa | exact u_neqFa | exact u_eqlPo | exact u_neqPo | exact a_u8i (.pl rfl) (by omega) (by omega) | exact a_i8i (.pl rfl) (by omega) (by omega) | exact u_rem)) (k := ?_)) | ((with_reducible apply i_ds); first | refine t_s AS.s ?_ | refine t_s0 (by first | exact u_eqlFa | exact u_neqFa | exact u_eqlPo | exact u_neqPo | exact a_u8i (.pl rfl) (by omega) (by omega) | exact a_i8i (.pl rfl) (by omega) (by omega) | exact u_rem) ?_ | refine t_p (k := fun σx => ?_)) | ((with_reducible refine i_aw ?_); first | refine v_yes ?_ | refine v_no ?_ | (refine v_cond (fun hc => ?_) (fun hc => ?_); all_goals (try (exfalso; simp [*] at hc; done)); all_goals (try (exfalso; revert hc; simp; omega)))) | ((with_reducible refine i_rt ?_); first | refine k_b ?_ | refine k_s ?_ | refine k_i ?_ | refine k_v ?_ | refine k_c ?_ | exact r_0 | ((first | refine k_cc ?_ ?_ | refine k_ccc ?_ ?_ ?_ | refine k_ct ?_ ?_ | refine k_ctc ?_ ?_ ?_); all_goals (with_reducible (first | apply un_b | apply un_i | apply un_s | apply un_a))) | exact r_0n | ((first | refine k_2 ?_ ?_ | refine k_2c ?_ ?_); all_goals (with_reducible (first | apply un_b | apply un_i | apply un_s | apply un_a)))) | ((with_reducible refine i_rx ?_); first | (with_reducible refine x_pan ?_) | refine l_1 (k := ?_) | refine l_0 (k := ?_) | refine l_1c (k := ?_) | refine l_d (k := ?_) | refine l_d0 (k := ?_) | refine l_el (k := ?_) | refine l_tc (k := ?_) | refine l_cc (k := ?_)) | ((with_reducible apply y_id); dsimp only [List.append]) | (refine q_bloX rfl ?_) | (refine ⟨by decide +kernel, fun (σx : St) => ?_⟩) | (refine ⟨by decide +kernel, ?_⟩) | fail)
        exact ⟨_, _, (show 9 + d - (j + 1) < 9 + d - j by omega), wk_mk (by (repeat (first | exact all_nil | ((refine all_cons ⟨_, rfl, .inl rfl, ?_⟩ ?_); (· (first | rfl | exact okRow rfl | exact ok_nsR _ _ _ _ rfl rfl | exact ok_lvR _ _ _ rfl | exact ok_stM _ _ rfl | (simp [V.ok, okL, C.ok, okA, HO.ok]; done) | (change okL _ _ = true; assumption)))))); done) (by (repeat (first | exact all_nil | ((refine all_cons ⟨_, rfl, .inl rfl, ?_⟩ ?_); (· (first | rfl | exact okRow rfl | exact ok_nsR _ _ _ _ rfl rfl | exact ok_lvR _ _ _ rfl | exact ok_stM _ _ rfl | (simp [V.ok, okL, C.ok, okA, HO.ok]; done) | (change okL _ _ = true; assumption)))))); done) (by first | rfl | exact fun h => h), j + 1, rfl, hlt, rfl⟩
      obtain rfl : j = 9 + d := by omega
      rcases dep_c hd1 with ⟨hd3, L, eL, dL⟩ | ⟨hd3, eL⟩
      · have ps := stmts_p (inS (9 + d) ++ ⟨#[116, 121, 112, 101, 32, 97, 59]⟩ ++ outS (9 + d))
        rw [eL] at ps
        have ps : Pure _ _ _ (.tup [.c (.lst none 55 (L.map stC)), .agg (faC Fa.zero)]) := ps
        have dp := depth_p (l := L) (by omega)
        rw [dL] at dp
        clear eL dL
        repeat' (first | (with_reducible first | apply AW.seq | apply AW.block | apply AW.scope | apply AW.skip | apply AW.ret | apply AW.exit | apply AW.label | apply q_then | apply q_thenR | apply q_thenE | apply q_thenP | apply q_bloN | apply q_bloR | apply q_bloE | apply q_bloP | apply q_strN | apply q_strR | apply q_strE | apply q_strP | apply y_e | refine m_b rfl ?_ ?_ | refine m_g rfl ?_ | refine m_o rfl ?_ ?_ | refine v_reg ?_ | refine v_drw ?_ | refine v_rgl ?_ | refine v_drb ?_) | ((with_reducible apply i_dv); first | refine t_v AS.v ?_ | refine t_v (by first | exact u_call (hP := al) | exact u_call (hP := ps) | exact u_call (hP := dp) | exact u_eqlFa | exact u_neqFa | exact u_eqlPo | exact u_neqPo | exact a_u8i (.pl rfl) (by omega) (by omega) | exact a_i8i (.pl rfl) (by omega) (by omega) | exact u_rem) ?_ | refine t_w AS.w ?_) | ((with_reducible apply i_dg); first | refine t_n ?_ | refine t_f ?_ | refine t_m (hs := fun hg => AS.v) (k := ?_) | refine t_m (hs := fun hg => (by first | exact u_call (hP := al) | exact u_call (hP := ps) | exact u_call (hP := dp) | exact u_eqlFa | exact u_neqFa | exact u_eqlPo | exact u_neqPo | exact a_u8i (.pl rfl) (by omega) (by omega) | exact a_i8i (.pl rfl) (by omega) (by omega) | exact u_rem)) (k := ?_)) | ((with_reducible apply i_ds); first | refine t_s AS.s ?_ | refine t_s0 (by first | exact u_call (hP := al) | exact u_call (hP := ps) | exact u_call (hP := dp) | exact u_eqlFa | exact u_neqFa | exact u_eqlPo | exact u_neqPo | exact a_u8i (.pl rfl) (by omega) (by omega) | exact a_i8i (.pl rfl) (by omega) (by omega) | exact u_rem) ?_ | refine t_p (k := fun σx => ?_)) | ((with_reducible refine i_aw ?_); first | refine v_yes ?_ | refine v_no ?_ | (refine v_cond (fun hc => ?_) (fun hc => ?_); all_goals (try (exfalso; simp [*] at hc; done)); all_goals (try (exfalso; revert hc; simp; omega)))) | ((with_reducible refine i_rt ?_); first | refine k_b ?_ | refine k_s ?_ | refine k_i ?_ | refine k_v ?_ | refine k_c ?_ | exact r_0 | ((first | refine k_cc ?_ ?_ | refine k_ccc ?_ ?_ ?_ | refine k_ct ?_ ?_ | refine k_ctc ?_ ?_ ?_); all_goals (with_reducible (first | apply un_b | apply un_i | apply un_s | apply un_a))) | exact r_0n | ((first | refine k_2 ?_ ?_ | refine k_2c ?_ ?_); all_goals (with_reducible (first | apply un_b | apply un_i | apply un_s | apply un_a)))) | ((with_reducible refine i_rx ?_); first | (with_reducible refine x_pan ?_) | refine l_1 (k := ?_) | refine l_0 (k := ?_) | refine l_1c (k := ?_) | refine l_d (k := ?_) | refine l_d0 (k := ?_) | refine l_el (k := ?_) | refine l_tc (k := ?_) | refine l_cc (k := ?_)) | ((with_reducible apply y_id); dsimp only [List.append]) | (refine q_bloX rfl ?_) | (refine ⟨by decide +kernel, fun (σx : St) => ?_⟩) | (refine ⟨by decide +kernel, ?_⟩) | fail)
        simp [Fa.zero]; omega
      · have ps := stmts_p (inS (9 + d) ++ ⟨#[116, 121, 112, 101, 32, 97, 59]⟩ ++ outS (9 + d))
        rw [eL] at ps
        have ps : Pure _ _ _ (.tup [.c .nil, .agg (faC ⟨4, ⟨1, 109⟩, ⟨#[111, 112, 116, 105, 111, 110, 97, 108]⟩⟩)]) := ps
        clear eL
        repeat' (first | (with_reducible first | apply AW.seq | apply AW.block | apply AW.scope | apply AW.skip | apply AW.ret | apply AW.exit | apply AW.label | apply q_then | apply q_thenR | apply q_thenE | apply q_thenP | apply q_bloN | apply q_bloR | apply q_bloE | apply q_bloP | apply q_strN | apply q_strR | apply q_strE | apply q_strP | apply y_e | refine m_b rfl ?_ ?_ | refine m_g rfl ?_ | refine m_o rfl ?_ ?_ | refine v_reg ?_ | refine v_drw ?_ | refine v_rgl ?_ | refine v_drb ?_) | ((with_reducible apply i_dv); first | refine t_v AS.v ?_ | refine t_v (by first | exact u_call (hP := al) | exact u_call (hP := ps) | exact u_eqlFa | exact u_neqFa | exact u_eqlPo | exact u_neqPo | exact a_u8i (.pl rfl) (by omega) (by omega) | exact a_i8i (.pl rfl) (by omega) (by omega) | exact u_rem) ?_ | refine t_w AS.w ?_) | ((with_reducible apply i_dg); first | refine t_n ?_ | refine t_f ?_ | refine t_m (hs := fun hg => AS.v) (k := ?_) | refine t_m (hs := fun hg => (by first | exact u_call (hP := al) | exact u_call (hP := ps) | exact u_eqlFa | exact u_neqFa | exact u_eqlPo | exact u_neqPo | exact a_u8i (.pl rfl) (by omega) (by omega) | exact a_i8i (.pl rfl) (by omega) (by omega) | exact u_rem)) (k := ?_)) | ((with_reducible apply i_ds); first | refine t_s AS.s ?_ | refine t_s0 (by first | exact u_call (hP := al) | exact u_call (hP := ps) | exact u_eqlFa | exact u_neqFa | exact u_eqlPo | exact u_neqPo | exact a_u8i (.pl rfl) (by omega) (by omega) | exact a_i8i (.pl rfl) (by omega) (by omega) | exact u_rem) ?_ | refine t_p (k := fun σx => ?_)) | ((with_reducible refine i_aw ?_); first | refine v_yes ?_ | refine v_no ?_ | (refine v_cond (fun hc => ?_) (fun hc => ?_); all_goals (try (exfalso; simp [*] at hc; done)); all_goals (try (exfalso; revert hc; simp; omega)))) | ((with_reducible refine i_rt ?_); first | refine k_b ?_ | refine k_s ?_ | refine k_i ?_ | refine k_v ?_ | refine k_c ?_ | exact r_0 | ((first | refine k_cc ?_ ?_ | refine k_ccc ?_ ?_ ?_ | refine k_ct ?_ ?_ | refine k_ctc ?_ ?_ ?_); all_goals (with_reducible (first | apply un_b | apply un_i | apply un_s | apply un_a))) | exact r_0n | ((first | refine k_2 ?_ ?_ | refine k_2c ?_ ?_); all_goals (with_reducible (first | apply un_b | apply un_i | apply un_s | apply un_a)))) | ((with_reducible refine i_rx ?_); first | (with_reducible refine x_pan ?_) | refine l_1 (k := ?_) | refine l_0 (k := ?_) | refine l_1c (k := ?_) | refine l_d (k := ?_) | refine l_d0 (k := ?_) | refine l_el (k := ?_) | refine l_tc (k := ?_) | refine l_cc (k := ?_)) | ((with_reducible apply y_id); dsimp only [List.append]) | (refine q_bloX rfl ?_) | (refine ⟨by decide +kernel, fun (σx : St) => ?_⟩) | (refine ⟨by decide +kernel, ?_⟩) | fail)
        simp
  · repeat' (first | (with_reducible first | apply AW.seq | apply AW.block | apply AW.scope | apply AW.skip | apply AW.ret | apply AW.exit | apply AW.label | apply q_then | apply q_thenR | apply q_thenE | apply q_thenP | apply q_bloN | apply q_bloR | apply q_bloE | apply q_bloP | apply q_strN | apply q_strR | apply q_strE | apply q_strP | apply y_e | refine m_b rfl ?_ ?_ | refine m_g rfl ?_ | refine m_o rfl ?_ ?_ | refine v_reg ?_ | refine v_drw ?_ | refine v_rgl ?_ | refine v_drb ?_) | ((with_reducible apply i_dv); first | refine t_v AS.v ?_ | refine t_v (by first | exact u_call (hP := pm) | exact u_call (hP := ct) | exact u_eqlFa | exact u_neqFa | exact u_eqlPo | exact u_neqPo | exact a_u8i (.pl rfl) (by omega) (by omega) | exact a_i8i (.pl rfl) (by omega) (by omega) | exact u_rem) ?_ | refine t_w AS.w ?_) | ((with_reducible apply i_dg); first | refine t_n ?_ | refine t_f ?_ | refine t_m (hs := fun hg => AS.v) (k := ?_) | refine t_m (hs := fun hg => (by first | exact u_call (hP := pm) | exact u_call (hP := ct) | exact u_eqlFa | exact u_neqFa | exact u_eqlPo | exact u_neqPo | exact a_u8i (.pl rfl) (by omega) (by omega) | exact a_i8i (.pl rfl) (by omega) (by omega) | exact u_rem)) (k := ?_)) | ((with_reducible apply i_ds); first | refine t_s AS.s ?_ | refine t_s0 (by first | exact u_call (hP := pm) | exact u_call (hP := ct) | exact u_eqlFa | exact u_neqFa | exact u_eqlPo | exact u_neqPo | exact a_u8i (.pl rfl) (by omega) (by omega) | exact a_i8i (.pl rfl) (by omega) (by omega) | exact u_rem) ?_ | refine t_p (k := fun σx => ?_)) | ((with_reducible refine i_aw ?_); first | refine v_yes ?_ | refine v_no ?_ | (refine v_cond (fun hc => ?_) (fun hc => ?_); all_goals (try (exfalso; simp [*] at hc; done)); all_goals (try (exfalso; revert hc; simp; omega)))) | ((with_reducible refine i_rt ?_); first | refine k_b ?_ | refine k_s ?_ | refine k_i ?_ | refine k_v ?_ | refine k_c ?_ | exact r_0 | ((first | refine k_cc ?_ ?_ | refine k_ccc ?_ ?_ ?_ | refine k_ct ?_ ?_ | refine k_ctc ?_ ?_ ?_); all_goals (with_reducible (first | apply un_b | apply un_i | apply un_s | apply un_a))) | exact r_0n | ((first | refine k_2 ?_ ?_ | refine k_2c ?_ ?_); all_goals (with_reducible (first | apply un_b | apply un_i | apply un_s | apply un_a)))) | ((with_reducible refine i_rx ?_); first | (with_reducible refine x_pan ?_) | refine l_1 (k := ?_) | refine l_0 (k := ?_) | refine l_1c (k := ?_) | refine l_d (k := ?_) | refine l_d0 (k := ?_) | refine l_el (k := ?_) | refine l_tc (k := ?_) | refine l_cc (k := ?_)) | ((with_reducible apply y_id); dsimp only [List.append]) | (refine q_bloX rfl ?_) | (refine ⟨by decide +kernel, fun (σx : St) => ?_⟩) | (refine ⟨by decide +kernel, ?_⟩) | fail)
    · refine AW.loop (fun k σ => ∃ j : Nat, k = 9 + d - j ∧ j ≤ 9 + d ∧ σ = mk [(10, .c (sI ((d : Int) + 9))), (11, .c (sS (inS j))), (12, .c (sS (outS j))), (13, .c (sI j))] []) (9 + d) ?_ ?_
      · exact ⟨_, wk_mk (by (repeat (first | exact all_nil | ((refine all_cons ⟨_, rfl, .inl rfl, ?_⟩ ?_); (· (first | rfl | (simp [V.ok, okL, C.ok, okA, HO.ok]; done)))))); done) (by (repeat (first | exact all_nil | ((refine all_cons ⟨_, rfl, .inl rfl, ?_⟩ ?_); (· (rfl))))); done) (by rfl), 0, rfl, Nat.zero_le _, rfl⟩
      clear hc pm ct
      rintro k σ ⟨j, rfl, hj, rfl⟩
      have hs1 := hi j
      have hs2 := ho j
      by_cases hlt : j < 9 + d
      · repeat' (first | (with_reducible first | apply AW.seq | apply AW.block | apply AW.scope | apply AW.skip | apply AW.ret | apply AW.exit | apply AW.label | apply q_then | apply q_thenR | apply q_thenE | apply q_thenP | apply q_bloN | apply q_bloR | apply q_bloE | apply q_bloP | apply q_strN | apply q_strR | apply q_strE | apply q_strP | apply y_e | refine m_b rfl ?_ ?_ | refine m_g rfl ?_ | refine m_o rfl ?_ ?_ | refine v_reg ?_ | refine v_drw ?_ | refine v_rgl ?_ | refine v_drb ?_) | ((with_reducible apply i_dv); first | refine t_v AS.v ?_ | refine t_v (by first | exact u_eqlFa | exact u_neqFa | exact u_eqlPo | exact u_neqPo | exact a_u8i (.pl rfl) (by omega) (by omega) | exact a_i8i (.pl rfl) (by omega) (by omega) | exact u_rem) ?_ | refine t_w AS.w ?_) | ((with_reducible apply i_dg); first | refine t_n ?_ | refine t_f ?_ | refine t_m (hs := fun hg => AS.v) (k := ?_) | refine t_m (hs := fun hg => (by first | exact u_eqlFa | exact u_neqFa | exact u_eqlPo | exact u_neqPo | exact a_u8i (.pl rfl) (by omega) (by omega) | exact a_i8i (.pl rfl) (by omega) (by omega) | exact u_rem)) (k := ?_)) | ((with_reducible apply i_ds); first | refine t_s AS.s ?_ | refine t_s0 (by first | exact u_eqlFa | exact u_neqFa | exact u_eqlPo | exact u_neqPo | exact a_u8i (.pl rfl) (by omega) (by omega) | exact a_i8i (.pl rfl) (by omega) (by omega) | exact u_rem) ?_ | refine t_p (k := fun σx => ?_)) | ((with_reducible refine i_aw ?_); first | refine v_yes ?_ | refine v_no ?_ | (refine v_cond (fun hc => ?_) (fun hc => ?_); all_goals (try (exfalso; simp [*] at hc; done)); all_goals (try (exfalso; revert hc; simp; omega)))) | ((with_reducible refine i_rt ?_); first | refine k_b ?_ | refine k_s ?_ | refine k_i ?_ | refine k_v ?_ | refine k_c ?_ | exact r_0 | ((first | refine k_cc ?_ ?_ | refine k_ccc ?_ ?_ ?_ | refine k_ct ?_ ?_ | refine k_ctc ?_ ?_ ?_); all_goals (with_reducible (first | apply un_b | apply un_i | apply un_s | apply un_a))) | exact r_0n | ((first | refine k_2 ?_ ?_ | refine k_2c ?_ ?_); all_goals (with_reducible (first | apply un_b | apply un_i | apply un_s | apply un_a)))) | ((with_reducible refine i_rx ?_); first | (with_reducible refine x_pan ?_) | refine l_1 (k := ?_) | refine l_0 (k := ?_) | refine l_1c (k := ?_) | refine l_d (k := ?_) | refine l_d0 (k := ?_) | refine l_el (k := ?_) | refine l_tc (k := ?_) | refine l_cc (k := ?_)) | ((with_reducible apply y_id); dsimp only [List.append]) | (refine q_bloX rfl ?_) | (refine ⟨by decide +kernel, fun (σx : St) => ?_⟩) | (refine ⟨by decide +kernel, ?_⟩) | fail)
        exact ⟨_, _, (show 9 + d - (j + 1) < 9 + d - j by omega), wk_mk (by (repeat (first | exact all_nil | ((refine all_cons ⟨_, rfl, .inl rfl, ?_⟩ ?_); (· (first | rfl | exact okRow rfl | exact ok_nsR _ _ _ _ rfl rfl | exact ok_lvR _ _ _ rfl | exact ok_stM _ _ rfl | (simp [V.ok, okL, C.ok, okA, HO.ok]; done) | (change okL _ _ = true; assumption)))))); done) (by (repeat (first | exact all_nil | ((refine all_cons ⟨_, rfl, .inl rfl, ?_⟩ ?_); (· (first | rfl | exact okRow rfl | exact ok_nsR _ _ _ _ rfl rfl | exact ok_lvR _ _ _ rfl | exact ok_stM _ _ rfl | (simp [V.ok, okL, C.ok, okA, HO.ok]; done) | (change okL _ _ = true; assumption)))))); done) (by first | rfl | exact fun h => h), j + 1, rfl, hlt, rfl⟩
      obtain rfl : j = 9 + d := by omega
      rcases dep_c hd1 with ⟨hd3, L, eL, dL⟩ | ⟨hd3, eL⟩
      · have ps := stmts_p (inS (9 + d) ++ ⟨#[116, 121, 112, 101, 32, 97, 59]⟩ ++ outS (9 + d))
        rw [eL] at ps
        have ps : Pure _ _ _ (.tup [.c (.lst none 55 (L.map stC)), .agg (faC Fa.zero)]) := ps
        have dp := depth_p (l := L) (by omega)
        rw [dL] at dp
        clear eL dL
        repeat' (first | (with_reducible first | apply AW.seq | apply AW.block | apply AW.scope | apply AW.skip | apply AW.ret | apply AW.exit | apply AW.label | apply q_then | apply q_thenR | apply q_thenE | apply q_thenP | apply q_bloN | apply q_bloR | apply q_bloE | apply q_bloP | apply q_strN | apply q_strR | apply q_strE | apply q_strP | apply y_e | refine m_b rfl ?_ ?_ | refine m_g rfl ?_ | refine m_o rfl ?_ ?_ | refine v_reg ?_ | refine v_drw ?_ | refine v_rgl ?_ | refine v_drb ?_) | ((with_reducible apply i_dv); first | refine t_v AS.v ?_ | refine t_v (by first | exact u_call (hP := al) | exact u_call (hP := ps) | exact u_call (hP := dp) | exact u_eqlFa | exact u_neqFa | exact u_eqlPo | exact u_neqPo | exact a_u8i (.pl rfl) (by omega) (by omega) | exact a_i8i (.pl rfl) (by omega) (by omega) | exact u_rem) ?_ | refine t_w AS.w ?_) | ((with_reducible apply i_dg); first | refine t_n ?_ | refine t_f ?_ | refine t_m (hs := fun hg => AS.v) (k := ?_) | refine t_m (hs := fun hg => (by first | exact u_call (hP := al) | exact u_call (hP := ps) | exact u_call (hP := dp) | exact u_eqlFa | exact u_neqFa | exact u_eqlPo | exact u_neqPo | exact a_u8i (.pl rfl) (by omega) (by omega) | exact a_i8i (.pl rfl) (by omega) (by omega) | exact u_rem)) (k := ?_)) | ((with_reducible apply i_ds); first | refine t_s AS.s ?_ | refine t_s0 (by first | exact u_call (hP := al) | exact u_call (hP := ps) | exact u_call (hP := dp) | exact u_eqlFa | exact u_neqFa | exact u_eqlPo | exact u_neqPo | exact a_u8i (.pl rfl) (by omega) (by omega) | exact a_i8i (.pl rfl) (by omega) (by omega) | exact u_rem) ?_ | refine t_p (k := fun σx => ?_)) | ((with_reducible refine i_aw ?_); first | refine v_yes ?_ | refine v_no ?_ | (refine v_cond (fun hc => ?_) (fun hc => ?_); all_goals (try (exfalso; simp [*] at hc; done)); all_goals (try (exfalso; revert hc; simp; omega)))) | ((with_reducible refine i_rt ?_); first | refine k_b ?_ | refine k_s ?_ | refine k_i ?_ | refine k_v ?_ | refine k_c ?_ | exact r_0 | ((first | refine k_cc ?_ ?_ | refine k_ccc ?_ ?_ ?_ | refine k_ct ?_ ?_ | refine k_ctc ?_ ?_ ?_); all_goals (with_reducible (first | apply un_b | apply un_i | apply un_s | apply un_a))) | exact r_0n | ((first | refine k_2 ?_ ?_ | refine k_2c ?_ ?_); all_goals (with_reducible (first | apply un_b | apply un_i | apply un_s | apply un_a)))) | ((with_reducible refine i_rx ?_); first | (with_reducible refine x_pan ?_) | refine l_1 (k := ?_) | refine l_0 (k := ?_) | refine l_1c (k := ?_) | refine l_d (k := ?_) | refine l_d0 (k := ?_) | refine l_el (k := ?_) | refine l_tc (k := ?_) | refine l_cc (k := ?_)) | ((with_reducible apply y_id); dsimp only [List.append]) | (refine q_bloX rfl ?_) | (refine ⟨by decide +kernel, fun (σx : St) => ?_⟩) | (refine ⟨by decide +kernel, ?_⟩) | fail)
        simp [Fa.zero]; omega
      · have ps := stmts_p (inS (9 + d) ++ ⟨#[116, 121, 112, 101, 32, 97, 59]⟩ ++ outS (9 + d))
        rw [eL] at ps
        have ps : Pure _ _ _ (.tup [.c .nil, .agg (faC ⟨4, ⟨1, 109⟩, ⟨#[111, 112, 116, 105, 111, 110, 97, 108]⟩⟩)]) := ps
        clear eL
        repeat' (first | (with_reducible first | apply AW.seq | apply AW.block | apply AW.scope | apply AW.skip | apply AW.ret | apply AW.exit | apply AW.label | apply q_then | apply q_thenR | apply q_thenE | apply q_thenP | apply q_bloN | apply q_bloR | apply q_bloE | apply q_bloP | apply q_strN | apply q_strR | apply q_strE | apply q_strP | apply y_e | refine m_b rfl ?_ ?_ | refine m_g rfl ?_ | refine m_o rfl ?_ ?_ | refine v_reg ?_ | refine v_drw ?_ | refine v_rgl ?_ | refine v_drb ?_) | ((with_reducible apply i_dv); first | refine t_v AS.v ?_ | refine t_v (by first | exact u_call (hP := al) | exact u_call (hP := ps) | exact u_eqlFa | exact u_neqFa | exact u_eqlPo | exact u_neqPo | exact a_u8i (.pl rfl) (by omega) (by omega) | exact a_i8i (.pl rfl) (by omega) (by omega) | exact u_rem) ?_ | refine t_w AS.w ?_) | ((with_reducible apply i_dg); first | refine t_n ?_ | refine t_f ?_ | refine t_m (hs := fun hg => AS.v) (k := ?_) | refine t_m (hs := fun hg => (by first | exact u_call (hP := al) | exact u_call (hP := ps) | exact u_eqlFa | exact u_neqFa | exact u_eqlPo | exact u_neqPo | exact a_u8i (.pl rfl) (by omega) (by omega) | exact a_i8i (.pl rfl) (by omega) (by omega) | exact u_rem)) (k := ?_)) | ((with_reducible apply i_ds); first | refine t_s AS.s ?_ | refine t_s0 (by first | exact u_call (hP := al) | exact u_call (hP := ps) | exact u_eqlFa | exact u_neqFa | exact u_eqlPo | exact u_neqPo | exact a_u8i (.pl rfl) (by omega) (by omega) | exact a_i8i (.pl rfl) (by omega) (by omega) | exact u_rem) ?_ | refine t_p (k := fun σx => ?_)) | ((with_reducible refine i_aw ?_); first | refine v_yes ?_ | refine v_no ?_ | (refine v_cond (fun hc => ?_) (fun hc => ?_); all_goals (try (exfalso; simp [*] at hc; done)); all_goals (try (exfalso; revert hc; simp; omega)))) | ((with_reducible refine i_rt ?_); first | refine k_b ?_ | refine k_s ?_ | refine k_i ?_ | refine k_v ?_ | refine k_c ?_ | exact r_0 | ((first | refine k_cc ?_ ?_ | refine k_ccc ?_ ?_ ?_ | refine k_ct ?_ ?_ | refine k_ctc ?_ ?_ ?_); all_goals (with_reducible (first | apply un_b | apply un_i | apply un_s | apply un_a))) | exact r_0n | ((first | refine k_2 ?_ ?_ | refine k_2c ?_ ?_); all_goals (with_reducible (first | apply un_b | apply un_i | apply un_s | apply un_a)))) | ((with_reducible refine i_rx ?_); first | (with_reducible refine x_pan ?_) | refine l_1 (k := ?_) | refine l_0 (k := ?_) | refine l_1c (k := ?_) | refine l_d (k := ?_) | refine l_d0 (k := ?_) | refine l_el (k := ?_) | refine l_tc (k := ?_) | refine l_cc (k := ?_)) | ((with_reducible apply y_id); dsimp only [List.append]) | (refine q_bloX rfl ?_) | (refine ⟨by decide +kernel, fun (σx : St) => ?_⟩) | (refine ⟨by decide +kernel, ?_⟩) | fail)
        simp
end Am
end Go.Proofs.YtkpodagbefnebaaGreatDoor
