/- Hw -/
import Derived.Test.YtbobbbhgdfapjaaZR1
import Derived.Test.YtbobbbhgdfapjaaZR2
import Derived.Test.YtbobbbhgdfapjaaZR3
import Derived.Test.YtbobbbhgdfapjaaZR4
import Derived.Test.YtbobbbhgdfapjaaZR5
import Derived.Test.YtbobbbhgdfapjaaZR6
import Derived.Test.YtbobbbhgdfapjaaZR7
import Derived.Test.YtbobbbhgdfapjaaZR9
import Derived.Test.YtbobbbhgdfapjaaZR10
import Derived.Test.YtbobbbhgdfapjaaZR11
import Derived.Test.YtbobbbhgdfapjaaZR12
import Derived.Test.YtbobbbhgdfapjaaZR13
import Derived.Test.YtbobbbhgdfapjaaZR14
import Derived.Test.YtbobbbhgdfapjaaZR15
import Derived.Test.YtbobbbhgdfapjaaZR16
import Derived.Test.YtbobbbhgdfapjaaZR17
import Derived.Test.YtbobbbhgdfapjaaZR18
import Derived.Test.YtbobbbhgdfapjaaZR19
import Derived.Test.YtbobbbhgdfapjaaZR20
import Derived.Test.YtbobbbhgdfapjaaZR21
import Derived.Test.YtbobbbhgdfapjaaZR32
set_option linter.unusedSimpArgs false
set_option linter.unusedVariables false
namespace Go.Proofs.Ytbobbbhgdfapjaa
set_option maxHeartbeats 8000000
set_option maxRecDepth 100000
open Go.RowKit Tk
theorem ext_size (s : ByteArray) (a b : Nat) : (s.extract a b).size ≤ s.size := by rw [ByteArray.size_extract]; omega
theorem tokT_size (s : ByteArray) (k : Nat) (kd : Int) (n : Nat) : (tokT s k kd n).size ≤ s.size := by unfold tokT; split <;> exact ext_size ..
/-- what the scanner returns ends with the end of the source -/
theorem scanF_ok_end {s : ByteArray} : ∀ (f k : Nat) (ts : List Tok), s.size < k + f → k ≤ s.size → scanF s f k = .ok ts →
    ∃ b p, ts = b ++ [⟨0, ⟨#[]⟩, p⟩] ∧ b.length + k ≤ s.size ∧ ∀ t ∈ ts, t.text.size ≤ s.size
 | 0, k, ts, hf, hk, h => by omega
 | f + 1, k, ts, hf, hk, h => by
   rw [scanF] at h
   by_cases h1 : s.size ≤ k + skipL false (s.data.toList.drop k)
   · rw [if_pos h1] at h
     injection h with h
     exact ⟨[], _, h.symm, by simpa using hk, fun t ht => by rw [← h] at ht; rw [List.mem_singleton.1 ht]; exact Nat.zero_le _⟩
   · rw [if_neg h1] at h
     cases ho : oneR (s.data.toList.drop (k + skipL false (s.data.toList.drop k))) with
     | err c off => rw [ho] at h; cases h
     | ok kd n =>
       rw [ho] at h
       dsimp only at h
       have hl : (s.data.toList.drop (k + skipL false (s.data.toList.drop k))).length = s.size - (k + skipL false (s.data.toList.drop k)) := by simp
       have hn := oneR_ok _ _ _ (by rw [hl]; omega) ho
       rw [hl] at hn
       cases hr : scanF s f (k + skipL false (s.data.toList.drop k) + n) with
       | err c p => rw [hr] at h; cases h
       | ok us =>
         rw [hr] at h
         injection h with h
         obtain ⟨b, p, hb, hbl, hbs⟩ := scanF_ok_end f _ us (by omega) (by omega) hr
         refine ⟨_ :: b, p, by rw [← h, hb]; rfl, by simp only [List.length_cons]; omega, fun t ht => ?_⟩
         rw [← h] at ht
         rcases List.mem_cons.1 ht with rfl | ht
         · exact tokT_size ..
         · exact hbs t ht
theorem scanS_end {s : ByteArray} {ts : List Tok} (h : scanS s = .ok ts) : ∃ b p, ts = b ++ [⟨0, ⟨#[]⟩, p⟩] ∧ ts.length ≤ 65537 ∧ ∀ t ∈ ts, t.text.size ≤ maxLen := by
 unfold scanS at h
 split at h
 · cases h
 · rename_i hs
   obtain ⟨b, p, e, hl, ht⟩ := scanF_ok_end _ 0 ts (by omega) (Nat.zero_le _) h
   exact ⟨b, p, e, by rw [e]; simp; omega, fun t hm => Nat.le_trans (ht t hm) (by unfold maxLen; omega)⟩
/-- the parser takes no end -/
theorem isM_at0 {ts : List Tok} {i : Nat} {m : ByteArray} (h : isM ts i m = true) : ∀ t, ts[i]? = some t → ¬ t.kind = 0 := fun t ht => by
 obtain ⟨t', ht', hk⟩ := isM_kind h
 rw [ht] at ht'
 injection ht' with e
 subst e
 omega
theorem opAt_at0 {ts : List Tok} {i n : Nat} (h : ¬ opAt ts i n = 0) : ∀ t, ts[i]? = some t → ¬ t.kind = 0 := fun t ht h0 => by
 have hm : ∀ m, isM ts i m = false := fun m => by
  cases hb : isM ts i m with
  | false => rfl
  | true => exact absurd h0 (isM_at0 hb t ht)
 apply h
 unfold opAt
 simp [hm]
theorem nameAt_at0 {ts : List Tok} {i : Nat} {s : ByteArray} (h : nameAt ts i = some s) : ∀ t, ts[i]? = some t → ¬ t.kind = 0 := fun t ht h0 => by
 unfold nameAt at h
 rw [ht] at h
 dsimp only at h
 rw [if_neg (by omega)] at h
 cases h
theorem step0 {ts : List Tok} {i j k : Nat} (h : ∀ t, ts[i]? = some t → ¬ t.kind = 0) (hr : ∀ m, i + 1 ≤ m → m < j → ∀ t, ts[m]? = some t → ¬ t.kind = 0) : ∀ m, i ≤ m → m < j → ∀ t, ts[m]? = some t → ¬ t.kind = 0 := fun m h1 h2 t ht => by
 rcases Nat.lt_or_ge i m with h3 | h3
 · exact hr m h3 h2 t ht
 · have : m = i := by omega
   subst this
   exact h t ht
theorem join0 {ts : List Tok} {i j k : Nat} (h : ∀ m, i ≤ m → m < j → ∀ t, ts[m]? = some t → ¬ t.kind = 0) (hr : ∀ m, j ≤ m → m < k → ∀ t, ts[m]? = some t → ¬ t.kind = 0) : ∀ m, i ≤ m → m < k → ∀ t, ts[m]? = some t → ¬ t.kind = 0 := fun m h1 h2 t ht => by
 rcases Nat.lt_or_ge m j with h3 | h3
 · exact h m h1 h3 t ht
 · exact hr m h3 h2 t ht
theorem prs_no0 (ts : List Tok) : ∀ f : Nat,
    (∀ n i d x j, prs ts f n i d = .ok x j → ∀ m, i ≤ m → m < j → ∀ t, ts[m]? = some t → ¬ t.kind = 0) ∧
    (∀ n x i d y j, plp ts f n x i d = .ok y j → ∀ m, i ≤ m → m < j → ∀ t, ts[m]? = some t → ¬ t.kind = 0)
 | 0 => ⟨fun n i d x j h => (by rw [prs] at h; cases h), fun n x i d y j h => (by rw [plp] at h; cases h)⟩
 | f + 1 => by
   obtain ⟨ihp, ihl⟩ := prs_no0 ts f
   refine ⟨fun n i d y k h => ?_, fun n x i d y k h => ?_⟩
   · rw [prs] at h
     by_cases hn : n = 5
     · subst hn
       rw [if_pos rfl] at h
       cases hnm : nameAt ts i with
       | some s =>
         rw [hnm] at h
         injection h with _ h; subst h
         exact step0 (k := 0) (nameAt_at0 hnm) fun m h1 h2 => by omega
       | none =>
         rw [hnm] at h
         dsimp only at h
         by_cases hb : isM ts i ⟨#[33]⟩ = true
         · rw [if_pos hb] at h
           by_cases hd : 12 ≤ d
           · rw [if_pos hd] at h; cases h
           · rw [if_neg hd] at h
             cases hr : prs ts f 5 (i + 1) (d + 1) with
             | none => rw [hr] at h; cases h
             | err c j => rw [hr] at h; cases h
             | ok x j =>
               rw [hr] at h
               injection h with _ h; subst h
               exact step0 (k := 0) (isM_at0 hb) (ihp _ _ _ _ _ hr)
         · rw [if_neg hb] at h
           by_cases hp : isM ts i ⟨#[40]⟩ = true
           · rw [if_pos hp] at h
             by_cases hd : 12 ≤ d
             · rw [if_pos hd] at h; cases h
             · rw [if_neg hd] at h
               cases hr : prs ts f 1 (i + 1) (d + 1) with
               | none => rw [hr] at h; cases h
               | err c j => rw [hr] at h; cases h
               | ok x j =>
                 rw [hr] at h
                 dsimp only at h
                 by_cases hc : isM ts j ⟨#[41]⟩ = true
                 · rw [if_pos hc] at h
                   injection h with _ h; subst h
                   exact step0 (k := 0) (isM_at0 hp) (join0 (ihp _ _ _ _ _ hr) (step0 (k := 0) (isM_at0 hc) fun m h1 h2 => by omega))
                 · rw [if_neg hc] at h; cases h
           · rw [if_neg hp] at h; cases h
     · rw [if_neg hn] at h
       cases hr : prs ts f (n + 1) i d with
       | none => rw [hr] at h; cases h
       | err c j => rw [hr] at h; cases h
       | ok x j =>
         rw [hr] at h
         exact join0 (ihp _ _ _ _ _ hr) (ihl _ _ _ _ _ _ h)
   · rw [plp] at h
     by_cases ho : opAt ts i n = 0
     · rw [if_pos ho] at h
       injection h with _ h; subst h
       intro m h1 h2; omega
     · rw [if_neg ho] at h
       cases hr : prs ts f (n + 1) (i + 1) d with
       | none => rw [hr] at h; cases h
       | err c j => rw [hr] at h; cases h
       | ok y j =>
         rw [hr] at h
         exact step0 (k := 0) (opAt_at0 ho) (join0 (ihp _ _ _ _ _ hr) (ihl _ _ _ _ _ _ h))
theorem toks_ok {ts : List Tok} {x : Ex} {n : Nat} (h : toksR ts = .ok x n) : prs ts (fuelP ts) 1 0 0 = .ok x n ∧ levE x ≤ 12 := by
 unfold toksR at h
 cases hr : prs ts (fuelP ts) 1 0 0 with
 | none => rw [hr] at h; cases h
 | err c j => rw [hr] at h; cases h
 | ok y j =>
   rw [hr] at h
   dsimp only at h
   by_cases h12 : 12 < levE y
   · rw [if_pos h12] at h; cases h
   · rw [if_neg h12] at h
     injection h with h1 h2
     subst h1 h2
     exact ⟨rfl, by omega⟩
theorem toks_lt {ts b : List Tok} {p : Int × Int} (e : ts = b ++ [⟨0, ⟨#[]⟩, p⟩]) {x : Ex} {n : Nat} (h : toksR ts = .ok x n) : n < ts.length := by
 have h1 := (toks_ok h).1
 have h2 := ((prs_in ts _).1 _ _ _ _ _ h1).2
 rcases Nat.lt_or_ge n ts.length with h3 | h3
 · exact h3
 · have hl : ts.length = b.length + 1 := by rw [e]; simp
   exact absurd rfl ((prs_no0 ts _).1 _ _ _ _ _ h1 b.length (Nat.zero_le _) (by omega) ⟨0, ⟨#[]⟩, p⟩ (by rw [e]; simp))
theorem toks_err {ts : List Tok} {c : Int} {q : Int × Int} (h : toksR ts = .err c q) : ¬ c = 0 := by
 unfold toksR at h
 cases hr : prs ts (fuelP ts) 1 0 0 with
 | none => exact absurd hr (prs_some ts)
 | err k j =>
   rw [hr] at h
   injection h with h1 _
   subst h1
   rcases (prs_err ts _).1 _ _ _ _ _ hr with h | h <;> omega
 | ok y j =>
   rw [hr] at h
   dsimp only at h
   split at h
   · injection h with h1 _; omega
   · cases h
/-! ### Tokens of the reference -/
/-! ### Parse -/
def PaPost (r : PT) (w : World) (e : Ending) (w' : World) : Prop :=
 match r with
 | .err c q => e = .returned (.tuple #[.agg exZ, fltV c q]) ∧ Ext w w'
 | .ok x _ => ∃ y, e = .returned (.tuple #[.agg (exC y).toArray, fltV 0 (0, 0)]) ∧ y.ok w' ∧ y.bare = x ∧ Ext w w'
def ScPost (s : ByteArray) (w : World) (e : Ending) (w' : World) : Prop :=
 match scanS s with
 | .ok ts => ∃ a c, e = .returned (.tuple #[.slice a ts.length c, fltV 0 (0, 0)]) ∧ RRow w' 4 Tok.cells (.slice a ts.length c) ts ∧ (∀ b ∈ ownB (.slice a ts.length c), w.heap.size ≤ b) ∧ Ext w w'
 | .err c p => e = .returned (.tuple #[.slice none 0 0, fltV c p]) ∧ Ext w w'
theorem Tok.clen (t : Tok) : t.cells.length = 4 := rfl
theorem sc_post {s : ByteArray} {w : World} {e : Ending} {w' : World} (h : ScanPost s w e w') : ScPost s w e w' := by
 unfold ScanPost at h
 unfold ScPost
 split
 · rename_i ts hs
   rw [hs] at h
   obtain ⟨v, he, ho, hx⟩ := h
   have hr : ORow w' 66 4 Tok.cells v ts := own_base ho (Nat.zero_le _)
   obtain ⟨a, c, rfl, -⟩ := ORow.len hr
   exact ⟨a, c, he, hr.reads Tok.clen, fun b hb => (World.ownsRow.lt ho b (mem_ownB.1 hb)).1, hx⟩
 · rename_i c p hs
   rw [hs] at h
   exact h
theorem bscan_any (s : ByteArray) (w : World) : Calls Try.prog 22 #[.string s] w (ScPost s w) := (tScan_any s w).mono fun _ _ h => sc_post h
theorem scanF_code {s : ByteArray} {c : Int} {q : Int × Int} : ∀ (f k : Nat), scanF s f k = .err c q → (c == 0) = false
 | 0, k, h => by rw [scanF] at h; cases h
 | f + 1, k, h => by
   rw [scanF] at h
   by_cases h1 : s.size ≤ k + skipL false (s.data.toList.drop k)
   · rw [if_pos h1] at h; cases h
   · rw [if_neg h1] at h
     cases ho : oneR (s.data.toList.drop (k + skipL false (s.data.toList.drop k))) with
     | err c' off =>
       rw [ho] at h
       injection h with h _
       subst h
       exact oneR_err _ _ _ ho
     | ok kd n =>
       rw [ho] at h
       dsimp only at h
       cases hr : scanF s f (k + skipL false (s.data.toList.drop k) + n) with
       | err c' p =>
         rw [hr] at h
         injection h with h _
         subst h
         exact scanF_code f _ hr
       | ok us => rw [hr] at h; cases h
theorem scanS_err {s : ByteArray} {c : Int} {q : Int × Int} (h : scanS s = .err c q) : ¬ c = 0 := by
 unfold scanS at h
 split at h
 · injection h with h _; omega
 · have := scanF_code _ _ h
   intro e; subst e; cases this
theorem RRow.tok0 {w : World} {g o c : Nat} {ts : List Tok} (h : RRow w 4 Tok.cells (.slice (some ⟨g, o, none⟩) ts.length c) ts) {i : Nat} {t : Tok} (ht : ts[i]? = some t) :
    w.cell? ⟨g, o + i * 4, none⟩ = some (.int .i64 t.kind) ∧ w.cell? ⟨g, o + i * 4 + 1, none⟩ = some (.string t.text) ∧ w.cell? ⟨g, o + i * 4 + 2, none⟩ = some (.int .i64 t.pos.1) ∧ w.cell? ⟨g, o + i * 4 + 3, none⟩ = some (.int .i64 t.pos.2) := by
 obtain ⟨g', o', e, -, h4⟩ := h.tok ht
 injection e with e
 injection e with e1 e2 _
 subst e1 e2
 exact h4
theorem RRow.notin {α : Type} {k : Nat} {f : α → List Value} {w : World} {v : Value} {xs : List α} {X : Nat} (h : RRow w k f v xs) (hX : w.heap.size ≤ X) : xs.length = 0 ∨ X ∉ ownB v := h.lt.imp_right fun hl => not_lt_in hl hX
theorem RRow.but0 {α : Type} {k : Nat} {f : α → List Value} {w w1 : World} {v : Value} {xs : List α} {X : Nat} (h : RRow w k f v xs) (hb : But X w w1) (hm : xs.length = 0 ∨ X ∉ ownB v) : RRow w1 k f v xs := h.only (Only.of_but hb (List.mem_singleton.2 rfl)) (hm.imp_right not_one)
theorem bParse_any (s : ByteArray) (w : World) : Calls Try.prog 7 #[.string s] w (PaPost (parseR s) w) := by
 obtain ⟨r, hr⟩ : ∃ r, scanS s = r := ⟨_, rfl⟩
 have HS := Lib.hid hr
 unfold parseR
 rw [hr]
 cases r
 case' err c q =>
  obtain ⟨s1, s2⟩ := kd_f (scanS_err hr)
  clear hr
  dsimp only
 case' ok ts =>
  obtain ⟨bd, p0, hend, hlen0, hsm⟩ := scanS_end hr
  have hlen : ts.length ≤ 1000000000000 := by omega
  have HE := Lib.hid hend
  clear hr hend
  dsimp only
  obtain ⟨r, hr⟩ : ∃ r, toksR ts = r := ⟨_, rfl⟩
  have HT := Lib.hid hr
  rw [hr]
  cases r
  case' err c9 q =>
   obtain ⟨s1, s2⟩ := kd_f (toks_err hr)
   clear hr
   dsimp only
  case' ok x n =>
   have hn := toks_lt HE.out hr
   clear hr
   obtain ⟨t, hti⟩ := at_some hn
   dsimp only
   rw [hti]
   dsimp only
   have HTI := Lib.hid hti
   clear hti
   refine Classical.byCases (p := t.kind = 0) (fun hk => ?k1p) (fun hk => ?k1n)
   case' k1p =>
    obtain ⟨s1, s2⟩ := kd_t hk
    rw [if_pos hk]
    have HK := Lib.hid hk
    clear hk
   case' k1n =>
    obtain ⟨s1, s2⟩ := kd_f hk
    rw [if_neg hk]
    have HK := Lib.hid hk
    clear hk
 all_goals
  go_enter Try.func7, Try.ntmps7
  have E := Only.refl [] w
  go_upto_region 9999 with (first | ((first | ((with_reducible refine at_dst 10 ?_); go_simp; (have hc := bscan_any s wn); (first | with_reducible refine hc.mono ?_ | refine hc.mono ?_); clear hc; unfold ScPost; rw [HS.out]; dsimp only [fltV]; rintro e wn ⟨rfl, hx⟩) | ((with_reducible refine at_dst 10 ?_); go_simp; (have hc := bscan_any s wn); (first | with_reducible refine hc.mono ?_ | refine hc.mono ?_); clear hc; unfold ScPost; rw [HS.out]; dsimp only [fltV]; rintro e wn ⟨a, c, rfl, ht, hnb, hx⟩; have hq9 := ht.tok HTI.out; obtain ⟨g, o, hgo, hg, k0, k1, k2, k3⟩ := hq9; subst hgo; have hn2 : ts.length = 0 ∨ ∀ x ∈ ownB (.slice (some ⟨g, o, none⟩) ts.length c), x ∉ [X2] := .inr (fun x hx hm => by have h5 := hnb x hx; have h6 := b2.lt; rw [List.mem_singleton.1 hm] at h5; omega)) | ((with_reducible refine at_dst 10 ?_); go_simp; (have hc := bscan_any s wn); (first | with_reducible refine hc.mono ?_ | refine hc.mono ?_); clear hc; unfold ScPost; rw [HS.out]; dsimp only [fltV]; rintro e wn ⟨a, c, rfl, ht, hnb, hx⟩) | ((with_reducible refine at_dst 20 ?_); go_simp; (have hc := btokens_any ht hsm hlen); (first | with_reducible refine hc.mono ?_ | refine hc.mono ?_); clear hc; unfold TkPost; rw [HT.out]; dsimp only [fltV]; rintro e wn ⟨rfl, hx⟩) | ((with_reducible refine at_dst 20 ?_); go_simp; (have hc := btokens_any ht hsm hlen); (first | with_reducible refine hc.mono ?_ | refine hc.mono ?_); clear hc; unfold TkPost; rw [HT.out]; dsimp only [fltV]; rintro e wn ⟨y, rfl, hy, hf, hyb, hx⟩; (try have mhy_2 := hf.away b2.lt); (try have mhy_3 := hf.away b3.lt); (try have mhy_5 := hf.away b5.lt); (try replace hf := hf.mono E.size)) | ((with_reducible refine at_reg 3 ?_); (refine Pn.wp_region_o (id := 3) [X2] (fun _ _ _ => False) [0, 2, 3, 0] [0, 1, 2, 3] mixed ?_ ?_ ?_); (· decide +kernel); (· exact fun _ _ _ h => h.elim); intro K hK wn hx; dsimp only [pickL, List.getElem?_cons_succ, List.getElem?_cons_zero]) | ((with_reducible refine at_reg 6 ?_); (refine Pn.wp_region_o (id := 6) [X2] (fun _ _ _ => False) [0, 2, 3, 0] [0, 1, 2, 3] mixed ?_ ?_ ?_); (· decide +kernel); (· exact fun _ _ _ h => h.elim); intro K hK wn hx; dsimp only [pickL, List.getElem?_cons_succ, List.getElem?_cons_zero]) | ((first | ((with_reducible refine at_store 5 ?_); have bo := b5; refine wp_put bo rfl rfl ?_ ?_ ?_ ?_) | ((with_reducible refine at_store 2 ?_); have bo := b2; refine wp_put bo rfl rfl ?_ ?_ ?_ ?_) | ((with_reducible refine at_store 3 ?_); have bo := b3; refine wp_put bo rfl rfl ?_ ?_ ?_ ?_) | ((with_reducible refine at_store 6 ?_); have bo := b6; refine wp_put bo rfl rfl ?_ ?_ ?_ ?_)); (· kernel_rfl); (· first | rfl | kernel_rfl); (· first | decide | exact Nat.le_refl _ | simp [Act.eval, Value.cells] | (simp [Act.eval, Act.put, Value.cells]; done)); intro wn bn hb; dsimp only [Act.put]; simp only [putA, Act.eval, Value.cells, Nat.reduceAdd, putL, exC_size] at bn; have hbk := hb; have E2 := E.put bo hb; (try replace b2 := b2.but hb (by assumption)); (try replace b3 := b3.but hb (by assumption)); (try replace b5 := b5.but hb (by assumption)); (try replace b6 := b6.but hb (by assumption)); (first | (replace hy := hy.but hb bo.blk (of_decide_eq_true rfl)) | (replace hy := hy.but0 hb (by assumption)) | skip); (first | (replace ht := ht.but hb bo.blk (of_decide_eq_true rfl)) | (replace ht := ht.but0 hb (by assumption)) | skip); clear E bo; have E := E2; clear E2; (try replace b5 := b5.re bn); (try replace b2 := b2.re bn); (try replace b3 := b3.re bn); (try replace b6 := b6.re bn); clear bn hb) | ((first | ((with_reducible refine at_dst 2 ?_); go_simp; (generalize hXn : Array.size (World.heap _) = X2); refine new_block hXn ?_; intro wn bb hx; have b2 := Loc.new bb E hXn) | ((with_reducible refine at_dst 3 ?_); go_simp; (generalize hXn : Array.size (World.heap _) = X3); refine new_block hXn ?_; intro wn bb hx; (try have ⟨n2_3, n3_2⟩ := b2.ne hXn); have b3 := Loc.new bb E hXn) | ((with_reducible refine at_dst 5 ?_); go_simp; (generalize hXn : Array.size (World.heap _) = X5); refine new_block hXn ?_; intro wn bb hx; (try have ⟨n2_5, n5_2⟩ := b2.ne hXn); have b5 := Loc.new bb E hXn) | ((with_reducible refine at_dst 6 ?_); go_simp; (generalize hXn : Array.size (World.heap _) = X6); refine new_block hXn ?_; intro wn bb hx; (try have ⟨n2_6, n6_2⟩ := b2.ne hXn); have b6 := Loc.new bb E hXn)); (try have ⟨nn, nm⟩ := b2.ne hXn); (try have ⟨nn, nm⟩ := b3.ne hXn); (try have ⟨nn, nm⟩ := b5.ne hXn); have zz := Nat.le_trans E.size (Nat.le_of_eq hXn); (try have mm := ht.notin (Nat.le_of_eq hXn)); (try have mm := hy.notin (Nat.le_of_eq hXn)); clear bb hXn)); (try replace E := E.ext hx); (try replace b2 := b2.ext hx); (try replace b3 := b3.ext hx); (try replace b5 := b5.ext hx); (try replace hy := hy.ext hx); (try replace b6 := b6.ext hx); (try replace ht := ht.ext hx); (try replace hcE := bcell E.low); (try replace c2 := b2.cf); (try replace c3 := b3.cf); (try replace c5 := b5.cf); (try replace c6 := b6.cf); (try clear k0 k1 k2 k3); (try (have hkk := ht.tok0 HTI.out; obtain ⟨k0, k1, k2, k3⟩ := hkk))) | ((with_reducible refine at_dst 44 ?_); (refine wp_all b6.blk rfl rfl ?_ ?_ ?_); (· kernel_rfl); (· kernel_rfl)) | ((with_reducible refine Pn.at_tag 0 ?_); (first | ((with_reducible refine Pn.wpTag_q ?_ ?_ ?_); rfl; rfl; intro _ _) | ((with_reducible refine Pn.wpTag_w ?_ ?_ ?_); rfl; rfl; intro _ _) | ((with_reducible refine Pn.wpTag_no ?_ ?_); (· first | rfl | (go_simp; done))) | ((with_reducible refine Pn.wpTag_s ?_ ?_); rfl; intro _ _; go_simp))) | ((with_reducible refine Pn.at_tag 2 ?_); (first | ((with_reducible refine Pn.wpTag_no ?_ ?_); (· first | rfl | (go_simp; done))) | (apply Pn.wpTag_2; (· rfl); (· first | rfl | go_simp); (· intro wq hq; (try (have hkk := (RRow.only ht hq hn2).tok0 HTI.out; obtain ⟨k0, k1, k2, k3⟩ := hkk)); (try replace c3 := (b3.only hq (not_in1 n3_2)).cf); (try replace c5 := (b5.only hq (not_in1 n5_2)).cf); (try replace c6 := (b6.only hq (not_in1 n6_2)).cf); go_simp <;> rfl); (try simp only [Act.put, actL])))) | ((with_reducible refine Pn.at_tag 3 ?_); (first | ((with_reducible refine Pn.wpTag_no ?_ ?_); (· first | rfl | (go_simp; done))) | ((refine Pn.wpTag_3 ?_ ?_ (fun K2 hK2 => ?_)); (· rfl); (· first | rfl | go_simp)))) | ((with_reducible refine at_ando ?_ ?_); (· first | exact Only.of_but hbk (by simp) | exact hxo | exact Only.of_below hx | exact Only.refl _ _)) | ((with_reducible refine Pn.at_tagn ?_); (with_reducible refine Pn.wpTag_nil ?_)) | ((with_reducible refine at_reg 8 ?_); (refine Pn.wp_region_o (id := 8) [X2] (fun _ _ _ => False) [0, 0, 0, 0, 2, 2, 2, 3, 0] [0, 1, 2, 3, 4, 5, 6, 7, 8] mixed ?_ ?_ ?_); (· decide +kernel); (· exact fun _ _ _ h => h.elim); intro K hK wn hx; (try replace E := E.ext hx); (try replace b2 := b2.ext hx); (try replace b3 := b3.ext hx); (try replace b5 := b5.ext hx); (try replace b6 := b6.ext hx); (try replace hy := hy.ext hx); (try replace ht := ht.ext hx); (try replace hcE := bcell E.low); (try replace c2 := b2.cf); (try replace c3 := b3.cf); (try replace c5 := b5.cf); (try replace c6 := b6.cf); (try clear k0 k1 k2 k3); (try (have hkk := ht.tok0 HTI.out; obtain ⟨k0, k1, k2, k3⟩ := hkk)); dsimp only [pickL, List.getElem?_cons_succ, List.getElem?_cons_zero]))
  first
   | (refine bodyPost_ret (v := .tuple #[.agg exZ, fltV c q]) (by simp [results, Try.f7, go_sem, c2, c3]; first | rfl | exact ⟨rfl, rfl⟩) rfl ⟨rfl, E.low⟩)
   | (refine bodyPost_ret (v := .tuple #[.agg exZ, fltV c9 q]) (by simp [results, Try.f7, go_sem, c2, c3]; first | rfl | exact ⟨rfl, rfl⟩) rfl ⟨rfl, E.low⟩)
   | (refine bodyPost_ret (v := .tuple #[.agg (exC y).toArray, fltV 0 (0, 0)]) (by simp [results, Try.f7, go_sem, c2, c3]; first | rfl | exact ⟨rfl, rfl⟩) rfl ⟨_, rfl, hy, hyb, E.low⟩)
   | (refine bodyPost_ret (v := .tuple #[.agg exZ, fltV 9 t.pos]) (by simp [results, Try.f7, go_sem, c2, c3]; first | rfl | exact ⟨rfl, rfl⟩) rfl ⟨rfl, E.low⟩)
end Go.Proofs.Ytbobbbhgdfapjaa
