/- I1, I4, Hs, Ht, H9, I2, I5, I6 -/
import Derived.Test.YtbobbbhgdfapjaaGreatZB1
import Derived.Test.YtbobbbhgdfapjaaGreatZB2
import Derived.Test.YtbobbbhgdfapjaaGreatZB3
import Derived.Test.YtbobbbhgdfapjaaGreatZB4
import Derived.Test.YtbobbbhgdfapjaaGreatZB5
import Derived.Test.YtbobbbhgdfapjaaGreatZB6
import Derived.Test.YtbobbbhgdfapjaaGreatZB7
import Derived.Test.YtbobbbhgdfapjaaGreatZB8
import Derived.Test.YtbobbbhgdfapjaaGreatZB9
import Derived.Test.YtbobbbhgdfapjaaGreatZB10
import Derived.Test.YtbobbbhgdfapjaaGreatZB11
import Derived.Test.YtbobbbhgdfapjaaGreatZB12
import Derived.Test.YtbobbbhgdfapjaaGreatZB13
import Derived.Test.YtbobbbhgdfapjaaGreatZB14
import Derived.Test.YtbobbbhgdfapjaaGreatZB15
import Derived.Test.YtbobbbhgdfapjaaGreatZB16
import Derived.Test.YtbobbbhgdfapjaaGreatZB17
import Derived.Test.YtbobbbhgdfapjaaGreatZB18
import Derived.Test.YtbobbbhgdfapjaaGreatZB19
import Derived.Test.YtbobbbhgdfapjaaGreatZB20
import Derived.Laws.Bits64
import Derived.Laws.Bits64b
import Derived.Deep.OwnRows
set_option linter.unusedSimpArgs false
set_option linter.unusedVariables false
namespace Go.Proofs.YtbobbbhgdfapjaaGreat
set_option maxHeartbeats 8000000
set_option maxRecDepth 100000
open Go.RowKit Tk
/-- what Eval returns -/
def known (l : List (ByteArray × Bool)) (ns : List ByteArray) : Bool := ns.all fun n => (findB n l).isSome
def evK (k v : Bool) : Bool × Int := if k = true then (v, 0) else (false, 11)
def evalR (x : Ex) (l : List (ByteArray × Bool)) : Bool × Int :=
 if chk x 1 ≠ 0 then (false, chk x 1) else evK (known l (namesE x)) (valE l x)
def BIPost (r : Bool × Int) (w : World) (e : Ending) (w' : World) : Prop := e = .returned (.tuple #[.bool r.1, .int .i64 r.2]) ∧ Ext w w'
theorem valB_some (s : ByteArray) (l : List (ByteArray × Bool)) : (valB s l).isSome = (findB s l).isSome := by
 unfold valB
 cases h : findB s l with
 | none => rfl
 | some i =>
   have := findB_lt h
   simp [List.getElem?_eq_getElem this]
theorem known_at {l : List (ByteArray × Bool)} {ns : List ByteArray} {j : Nat} {y : ByteArray} {R : Bool} (h : Hid (known l (ns.drop j) = R)) (hy : ns[j]? = some y) : ((findB y l).isSome && known l (ns.drop (j + 1))) = R := by
 have := h.out
 rw [drop_at hy] at this
 exact this
theorem b2i_one (b : Bool) : (b2i b == 1) = b := by cases b <;> rfl
theorem beval_any {x : Ex} {w : World} {la : Option Addr} {lc : Nat} {l : List (ByteArray × Bool)} (hl : RRow w 2 boC (.slice la l.length lc) l) (hxo : x.ok w) (hs : x.small) (hz : x.sz ≤ 1000000000000) :
    Calls Tryz.prog 21 #[.agg (exC x).toArray, .slice la l.length lc] w (BIPost (evalR x l) w) := by
 unfold evalR
 obtain ⟨v, hv⟩ : ∃ v, chk x 1 = v := ⟨_, rfl⟩
 have HC := Lib.hid hv
 rw [hv]
 by_cases h0 : v = 0
 · have hwf := chk_wf x 1 (hv.trans h0)
   have hln : (namesE x).length ≤ 1000000000000 := Nat.le_trans (names_sz x hwf) hz
   subst h0
   clear hv
   rw [if_neg (by decide)]
   obtain ⟨K, hK⟩ : ∃ K, known l (namesE x) = K := ⟨_, rfl⟩
   rw [hK]
   have HK0 : Hid (known l ((namesE x).drop 0) = K) := Lib.hid hK
   clear hK
   obtain ⟨vb, hvb⟩ : ∃ v, valE l x = v := ⟨_, rfl⟩
   have HV := Lib.hid hvb
   rw [hvb]
   clear hvb
   go_enter Tryz.func21, Tryz.ntmps21
   have E := Only.refl [] w
   go_upto_region 5 with (first | ((first | ((with_reducible refine at_dst 12 ?_); go_simp; (have hc := bCheck_any (hxo.ext E.low) hs hz); (first | with_reducible refine hc.mono ?_ | refine hc.mono ?_); clear hc; unfold IPost; rw [HC.out]; rintro e wn ⟨rfl, hx⟩) | ((with_reducible refine at_dst 17 ?_); go_simp; (have hc := collect_nil hxo E hln); ((with_reducible refine hc.mono ?_)); clear hc; unfold ColPost; rintro e wn ⟨a9, c9, rfl, r9, hx, -⟩; replace b2 := b2.only hx (by simp [ownB, Value.ownBlock]); replace E := E.trans hx (fun b hb => by cases hb); clear hx) | ((with_reducible refine at_dst 2 ?_); go_simp; (generalize hXn : Array.size (World.heap _) = X2); refine new_block hXn ?_; intro wn bb hx; have b2 := Loc.new bb E hXn; have zz := Nat.le_trans E.size (Nat.le_of_eq hXn); clear bb hXn)); (try replace E := E.ext hx); (try replace b2 := b2.ext hx); (try replace hcE := bcell E.low); (try replace c2 := b2.cf)) | ((with_reducible refine at_dsts [11, 16] ?_ ?_); (· rfl); (refine wp_all (Loc.blk (by assumption)) rfl rfl ?_ ?_ ?_); (· kernel_rfl); (· kernel_rfl)))
   go_loopw [19] (fun i wr => ∃ j : Nat, i = .int .i64 j ∧ j ≤ (namesE x).length ∧ Hid (known l ((namesE x).drop j) = K) ∧ Only [] w wr ∧ OwnR w wr 9 1 strC (.slice a9 (namesE x).length c9) (namesE x) ∧ Loc [] w wr X2 28 (exC x).toArray) (fun i _ => (namesE x).length - (intOf i).toNat)
   case atStart => exact ⟨0, rfl, Nat.zero_le _, HK0, E, r9, b2⟩
   case round =>
    clear E b2 c2 r9 HK0
    (try clear hcE)
    obtain ⟨j, rfl, hj, HS, E, r9, b2⟩ := hrel
    have c2 := b2.cf
    have hcE := bcell E.low
    by_cases hlt : j < (namesE x).length
    · obtain ⟨y, hy⟩ := at_some hlt
      obtain ⟨g, o, hgo, hg, k0⟩ := r9.reads.cells hlt
      have ey : (namesE x)[j] = y := by rw [List.getElem?_eq_getElem hlt] at hy; injection hy
      rw [ey] at k0
      have hst := known_at HS hy
      obtain ⟨fb, hfb⟩ : ∃ v, valB y l = v := ⟨_, rfl⟩
      have HF := Lib.hid hfb
      rw [← valB_some, hfb] at hst
      clear hy ey HS hfb
      have HR9 := Lib.hid r9
      cases fb with
      | none =>
        have hKf : K = false := by rw [← hst]; rfl
        subst hKf
        clear hst
        go_upto_region 9999 with (first | ((with_reducible refine at_dst 26 ?_); go_simp; (have hc := bfind_any (RRow.ext hl E.low) y); (first | with_reducible refine hc.mono ?_ | refine hc.mono ?_); clear hc; unfold VPost; rw [HF.out]; rintro e wn ⟨rfl, hx⟩; (try replace E := E.ext hx); (try replace b2 := b2.ext hx); (try replace r9 := r9.ext hx); (try replace hcE := bcell E.low); (try replace c2 := b2.cf)))
        refine bodyPost_ret (v := .tuple #[.bool false, .int .i64 11]) (by simp [results, Tryz.f21, go_sem]) rfl ⟨rfl, E.low⟩
      | some bv =>
        have HT : Hid (known l ((namesE x).drop (j + 1)) = K) := Lib.hid (by rw [← hst]; rfl)
        clear hst
        go_upto_region 9999 with (first | ((with_reducible refine at_dst 26 ?_); go_simp; (have hc := bfind_any (RRow.ext hl E.low) y); (first | with_reducible refine hc.mono ?_ | refine hc.mono ?_); clear hc; unfold VPost; rw [HF.out]; rintro e wn ⟨rfl, hx⟩; (try replace E := E.ext hx); (try replace b2 := b2.ext hx); (try replace r9 := r9.ext hx); (try replace hcE := bcell E.low); (try replace c2 := b2.cf)))
        try simp only [← hgo]
        clear hgo
        go_roundw
        case rel => exact ⟨j + 1, by go_num, by omega, HT, E, r9, b2⟩
        case measure => simp [intOf]; omega
    · have hKt : K = true := by
        have := HS.out
        rw [List.drop_of_length_le (by omega)] at this
        exact this.symm
      subst hKt
      go_upto_region 9999 with (first | ((with_reducible refine at_dst 32 ?_); (refine wp_all b2.blk rfl rfl ?_ ?_ ?_); (· kernel_rfl); (· kernel_rfl)) | ((with_reducible refine at_dst 34 ?_); go_simp; (have hc := bvalue_any (x.sz + 1) x (RRow.ext hl E.low) (hxo.ext E.low) hwf (Nat.lt_succ_self _)); (first | with_reducible refine hc.mono ?_ | refine hc.mono ?_); clear hc; unfold U64Post; rw [HV.out]; rintro e wn ⟨rfl, hx⟩; (try replace E := E.ext hx); (try replace b2 := b2.ext hx); (try replace r9 := r9.ext hx); (try replace hcE := bcell E.low); (try replace c2 := b2.cf)))
      refine bodyPost_ret (v := .tuple #[.bool (b2i vb == 1), .int .i64 0]) (by simp [results, Tryz.f21, go_sem]) rfl ⟨by rw [b2i_one]; rfl, E.low⟩
 · obtain ⟨s1, s2⟩ := kd_f h0
   rw [if_pos h0]
   clear h0 hv
   go_enter Tryz.func21, Tryz.ntmps21
   have E := Only.refl [] w
   go_upto_region 9999 with (first | ((first | ((with_reducible refine at_dst 12 ?_); go_simp; (have hc := bCheck_any (hxo.ext E.low) hs hz); (first | with_reducible refine hc.mono ?_ | refine hc.mono ?_); clear hc; unfold IPost; rw [HC.out]; rintro e wn ⟨rfl, hx⟩) | ((with_reducible refine at_dst 2 ?_); go_simp; (generalize hXn : Array.size (World.heap _) = X2); refine new_block hXn ?_; intro wn bb hx; have b2 := Loc.new bb E hXn; have zz := Nat.le_trans E.size (Nat.le_of_eq hXn); clear bb hXn)); (try replace E := E.ext hx); (try replace b2 := b2.ext hx); (try replace hcE := bcell E.low); (try replace c2 := b2.cf)) | ((with_reducible refine at_dst 11 ?_); (refine wp_all b2.blk rfl rfl ?_ ?_ ?_); (· kernel_rfl); (· kernel_rfl)))
   refine bodyPost_ret (v := .tuple #[.bool false, .int .i64 v]) (by simp [results, Tryz.f21, go_sem]) rfl ⟨rfl, E.low⟩
open Go.RowKit Tk
/-- the word whose bits below n are those of f -/
def wdF (f : Nat → Bool) : Nat → Nat
 | 0 => 0
 | n + 1 => if f n = true then wdF f n ||| 2 ^ n else wdF f n
def wd (f : Nat → Bool) : Nat := wdF f 64
theorem wdF_bit (f : Nat → Bool) : ∀ n k, (wdF f n).testBit k = (decide (k < n) && f k)
 | 0, k => by simp [wdF]
 | n + 1, k => by
   rw [wdF]
   have ih := wdF_bit f n k
   split
   · rename_i hf
     rw [Nat.testBit_or, ih, Nat.testBit_two_pow]
     by_cases h : n = k
     · subst h; simp [hf]
     · rw [decide_eq_false h, Bool.or_false]
       by_cases h2 : k < n
       · simp [h2, Nat.lt_succ_of_lt h2]
       · simp [h2, show ¬ k < n + 1 by omega]
   · rename_i hf
     rw [ih]
     by_cases h2 : k < n
     · simp [h2, Nat.lt_succ_of_lt h2]
     · by_cases h : k = n
       · subst h; simp [hf]
       · simp [h2, show ¬ k < n + 1 by omega]
theorem wd_bit (f : Nat → Bool) (k : Nat) : (wd f).testBit k = (decide (k < 64) && f k) := wdF_bit f 64 k
theorem wdF_lt (f : Nat → Bool) (n : Nat) : wdF f n < 2 ^ n := Nat.lt_pow_two_of_testBit _ fun i hi => by rw [wdF_bit, decide_eq_false (by omega), Bool.false_and]
theorem wd_lt (f : Nat → Bool) : wd f < 18446744073709551616 := wdF_lt f 64
theorem wd_ext {a : Nat} {f : Nat → Bool} (h : ∀ k, a.testBit k = (decide (k < 64) && f k)) : a = wd f := Nat.eq_of_testBit_eq fun k => by rw [h, wd_bit]
theorem wd_congr {f g : Nat → Bool} (h : ∀ k, k < 64 → f k = g k) : wd f = wd g := wd_ext fun k => by
 rw [wd_bit]
 by_cases hk : k < 64
 · rw [h k hk]
 · simp [hk]
theorem wd_inj {f g : Nat → Bool} (h : wd f = wd g) : ∀ k, k < 64 → f k = g k := fun k hk => by
 have := congrArg (fun n => n.testBit k) h
 simpa [wd_bit, hk] using this
theorem wd_and (f g : Nat → Bool) : wAnd (wd f : Nat) (wd g : Nat) = (wd (fun k => f k && g k) : Nat) := by
 unfold wAnd
 rw [bits_and_u64_nat _ _ (wd_lt f) (wd_lt g)]
 exact congrArg _ (wd_ext fun k => by rw [Nat.testBit_and, wd_bit, wd_bit]; cases decide (k < 64) <;> simp)
theorem wd_or (f g : Nat → Bool) : wOr (wd f : Nat) (wd g : Nat) = (wd (fun k => f k || g k) : Nat) := by
 unfold wOr
 rw [bits_or_u64_nat _ _ (wd_lt f) (wd_lt g)]
 exact congrArg _ (wd_ext fun k => by rw [Nat.testBit_or, wd_bit, wd_bit]; cases decide (k < 64) <;> simp)
theorem wd_xor (f g : Nat → Bool) : wXor (wd f : Nat) (wd g : Nat) = (wd (fun k => f k != g k) : Nat) := by
 unfold wXor
 rw [bits_xor_u64_nat _ _ (wd_lt f) (wd_lt g)]
 exact congrArg _ (wd_ext fun k => by rw [Nat.testBit_xor, wd_bit, wd_bit]; cases decide (k < 64) <;> simp)
theorem max_wd : IntKind.u64.max = ((wd fun _ => true : Nat) : Int) := by
 have : (wd fun _ => true) = 18446744073709551615 := by decide +kernel
 rw [this]; rfl
theorem wd_not (f : Nat → Bool) : wNot (wd f : Nat) = (wd (fun k => !f k) : Nat) := by
 unfold wNot
 rw [max_wd]
 have := wd_xor (fun _ => true) f
 unfold wXor at this
 rw [this]
 exact congrArg _ (wd_congr fun k _ => by cases f k <;> rfl)
theorem wd_same (f g : Nat → Bool) : wSame (wd f : Nat) (wd g : Nat) = (wd (fun k => f k == g k) : Nat) := by
 unfold wSame
 rw [wd_xor, wd_not]
 exact congrArg _ (wd_congr fun k _ => by cases f k <;> cases g k <;> rfl)
/-- an operator at words -/
def opB (op : Int) (a b : Bool) : Bool := if op = 3 then a && b else if op = 4 then a || b else if op = 6 then a == b else a != b
theorem wd_oper (op : Int) (f g : Nat → Bool) : operW op (wd f : Nat) (wd g : Nat) = (wd (fun k => opB op (f k) (g k)) : Nat) := by
 unfold operW opB
 by_cases h3 : op = 3
 · simp only [if_pos h3]; exact wd_and f g
 by_cases h4 : op = 4
 · simp only [if_neg h3, if_pos h4]; exact wd_or f g
 by_cases h6 : op = 6
 · simp only [if_neg h3, if_neg h4, if_pos h6]; exact wd_same f g
 · simp only [if_neg h3, if_neg h4, if_neg h6]; exact wd_xor f g
/-! ### tables -/
/-- the word w of a table -/
def tw64 (F : Nat → Bool) (w : Nat) : Nat := wd fun k => F (64 * w + k)
def tabN (F : Nat → Bool) (len : Nat) : List Nat := (List.range len).map (tw64 F)
def lenT (n : Nat) : Nat := max 1 (2 ^ n / 64)
theorem tabN_len (F : Nat → Bool) (len : Nat) : (tabN F len).length = len := by unfold tabN; simp
theorem tabN_at (F : Nat → Bool) {len w : Nat} (h : w < len) : (tabN F len)[w]? = some (tw64 F w) := by unfold tabN; simp [h]
/-- the booleans whose values are the binary digits of a number -/
def numbF : List ByteArray → Nat → Nat → List (ByteArray × Bool)
 | [], _, _ => []
 | s :: l, i, r => (s, r.testBit i) :: numbF l (i + 1) r
def numb (ns : List ByteArray) (r : Nat) : List (ByteArray × Bool) := numbF ns 0 r
def idxN (s : ByteArray) : List ByteArray → Nat
 | [] => 0
 | x :: l => if x = s then 0 else idxN s l + 1
theorem numbF_find {s : ByteArray} : ∀ (l : List ByteArray) (i r : Nat), s ∈ l → ∃ j, findB s (numbF l i r) = some j ∧ idxN s l = j ∧ (numbF l i r)[j]? = some (s, r.testBit (i + j))
 | x :: l, i, r, h => by
   rw [numbF]
   by_cases hx : x = s
   · subst hx
     exact ⟨0, by simp [findB], by simp [idxN], by simp⟩
   · obtain ⟨j, h1, h2, h3⟩ := numbF_find l (i + 1) r ((List.mem_cons.1 h).resolve_left fun e => hx e.symm)
     exact ⟨j + 1, by simp [findB, hx, h1], by simp [idxN, hx, h2], by rw [List.getElem?_cons_succ, h3]; congr 3; omega⟩
theorem numb_val {s : ByteArray} {ns : List ByteArray} {r : Nat} (h : s ∈ ns) : valB s (numb ns r) = some (r.testBit (idxN s ns)) := by
 obtain ⟨j, h1, h2, h3⟩ := numbF_find ns 0 r h
 unfold valB numb
 rw [h1, h2]
 show Option.map _ _ = _
 rw [h3]; simp
/-- the value of a condition in a row of its table -/
def rowV (ns : List ByteArray) (x : Ex) (r : Nat) : Bool := valE (numb ns r) x
open Go.RowKit Tk
theorem RRow.tok {w : World} {a : Option Addr} {c : Nat} {ts : List Tok} (h : RRow w 4 Tok.cells (.slice a ts.length c) ts) {i : Nat} {t : Tok} (ht : ts[i]? = some t) : ∃ g o, a = some ⟨g, o, none⟩ ∧ g < w.heap.size ∧
    w.cell? ⟨g, o + i * 4, none⟩ = some (.int .i64 t.kind) ∧ w.cell? ⟨g, o + i * 4 + 1, none⟩ = some (.string t.text) ∧ w.cell? ⟨g, o + i * 4 + 2, none⟩ = some (.int .i64 t.pos.1) ∧ w.cell? ⟨g, o + i * 4 + 3, none⟩ = some (.int .i64 t.pos.2) := by
 obtain ⟨hi, e⟩ := List.getElem?_eq_some_iff.1 ht
 obtain ⟨g, o, ha, hg, hc⟩ := RRow.cells h hi
 rw [e] at hc
 exact ⟨g, o, ha, hg, hc 0 (by omega), hc 1 (by omega), hc 2 (by omega), hc 3 (by omega)⟩
open Go.RowKit Tk
theorem Ex.ok.but0 {w w1 : World} {x : Ex} {X : Nat} (h : x.ok w) (hb : But X w w1) (hm : x.away X) : x.ok w1 := Ex.ok.only (Only.of_but hb (List.mem_singleton.2 rfl)) h hm
/-- the codes of the parser's faults -/
theorem prs_err (ts : List Tok) : ∀ f : Nat,
    (∀ n i d k j, prs ts f n i d = .err k j → k = 4 ∨ k = 9) ∧
    (∀ n x i d k j, plp ts f n x i d = .err k j → k = 4 ∨ k = 9)
 | 0 => ⟨fun n i d x j h => (by rw [prs] at h; cases h), fun n x i d y j h => (by rw [plp] at h; cases h)⟩
 | f + 1 => by
   obtain ⟨ihp, ihl⟩ := prs_err ts f
   refine ⟨fun n i d y k h => ?_, fun n x i d y k h => ?_⟩
   · rw [prs] at h
     by_cases hn : n = 5
     · subst hn
       rw [if_pos rfl] at h
       cases hnm : nameAt ts i with
       | some s => rw [hnm] at h; cases h
       | none =>
         rw [hnm] at h
         dsimp only at h
         by_cases hb : isM ts i ⟨#[33]⟩ = true
         · rw [if_pos hb] at h
           by_cases hd : 12 ≤ d
           · rw [if_pos hd] at h; injection h with h _; exact .inl h.symm
           · rw [if_neg hd] at h
             cases hr : prs ts f 5 (i + 1) (d + 1) with
             | none => rw [hr] at h; cases h
             | err c j => rw [hr] at h; injection h with h1 _; subst h1; exact ihp _ _ _ _ _ hr
             | ok x j => rw [hr] at h; cases h
         · rw [if_neg hb] at h
           by_cases hp : isM ts i ⟨#[40]⟩ = true
           · rw [if_pos hp] at h
             by_cases hd : 12 ≤ d
             · rw [if_pos hd] at h; injection h with h _; exact .inl h.symm
             · rw [if_neg hd] at h
               cases hr : prs ts f 1 (i + 1) (d + 1) with
               | none => rw [hr] at h; cases h
               | err c j => rw [hr] at h; injection h with h1 _; subst h1; exact ihp _ _ _ _ _ hr
               | ok x j =>
                 rw [hr] at h
                 dsimp only at h
                 by_cases hc : isM ts j ⟨#[41]⟩ = true
                 · rw [if_pos hc] at h; cases h
                 · rw [if_neg hc] at h; injection h with h _; exact .inr h.symm
           · rw [if_neg hp] at h; injection h with h _; exact .inr h.symm
     · rw [if_neg hn] at h
       cases hr : prs ts f (n + 1) i d with
       | none => rw [hr] at h; cases h
       | err c j => rw [hr] at h; injection h with h1 _; subst h1; exact ihp _ _ _ _ _ hr
       | ok x j => rw [hr] at h; exact ihl _ _ _ _ _ _ h
   · rw [plp] at h
     by_cases ho : opAt ts i n = 0
     · rw [if_pos ho] at h; cases h
     · rw [if_neg ho] at h
       cases hr : prs ts f (n + 1) (i + 1) d with
       | none => rw [hr] at h; cases h
       | err c j => rw [hr] at h; injection h with h1 _; subst h1; exact ihp _ _ _ _ _ hr
       | ok y j => rw [hr] at h; exact ihl _ _ _ _ _ _ h
theorem not_in1 {a X : Nat} (h : X ≠ a) : X ∉ [a] := by simp [h]
theorem isM_kind {ts : List Tok} {i : Nat} {m : ByteArray} (h : isM ts i m = true) : ∃ t, ts[i]? = some t ∧ t.kind = 4 := by
 unfold isM at h
 split at h
 · rename_i t ht
   simp only [Bool.and_eq_true, decide_eq_true_eq] at h
   exact ⟨t, ht, h.1⟩
 · cases h
open Go.RowKit Tk
mutual
/-- each node has at most four names -/
def Ex.four : Ex → Prop
 | .mk h k => h.names.length ≤ 4 ∧ Ex.fours k
def Ex.fours : List Ex → Prop
 | [] => True
 | e :: l => e.four ∧ Ex.fours l
end
open Go.RowKit Tk
theorem info_ex : (Tryz.prog.info? 28).map (fun i => (i.zero, i.size, i.bytes)) = some (some (.agg (exC zX).toArray), 10, 112) := by kernel_rfl
theorem und_kids : Tryz.prog.underlying 26 = some (.slice 28) := by kernel_rfl
theorem bclone_any {w : World} {a : Option Addr} {c : Nat} {xs : List ByteArray} (h : Reads w (.slice a xs.length c) xs) (hx : xs.length ≤ 1000000000000) :
    Calls Tryz.prog 73 #[.slice a xs.length c] w fun e w' => ∃ a' c', e = .returned (.slice a' xs.length c') ∧ OwnR w w' 9 1 strC (.slice a' xs.length c') xs ∧ Ext w w' := by
 cases a with
 | none =>
   obtain ⟨rfl, hn⟩ := RRow.none_nil h
   refine (Tryz.slices_Clone_string_nil 0 c w).mono ?_
   rintro e w' ⟨rfl, rfl⟩
   exact ⟨none, 0, rfl, OwnR.nil w' w' _ 1 strC, Ext.refl _⟩
 | some ad =>
   have done : ∀ (e : Ending) (w' : World), (∃ v', e = .returned v' ∧ w'.ownsRow w.heap.size 9 1 v' xs.length (xs.map Value.string) ∧ v' ≠ .slice none 0 0 ∧ Below w.heap.size w w') → ∃ a' c', e = .returned (.slice a' xs.length c') ∧ OwnR w w' 9 1 strC (.slice a' xs.length c') xs ∧ Ext w w' := fun e w' ⟨v', he, ho, hv, hb⟩ => by
    have hr : Row w' v' xs := own_base ho (Nat.zero_le _)
    obtain ⟨a', c', rfl, -⟩ := ORow.len hr.o
    exact ⟨a', c', he, ⟨hr.o, fun b hb => (World.ownsRow.lt ho b (mem_ownB.1 hb)).1⟩, hb⟩
   by_cases h0 : xs.length = 0
   · have : xs = [] := List.eq_nil_of_length_eq_zero h0
     subst this
     exact (Tryz.slices_Clone_string_zero ad c w).mono fun e w' he => done e w' he
   · obtain ⟨g, o, ha, hg, -⟩ := Reads.cells h (show 0 < xs.length by omega)
     injection ha with ha
     subst ha
     have hc : ∀ j, j < xs.length → w.cell? ⟨g, o + j, none⟩ = some (.string (xs.getD j ByteArray.empty)) := fun j hj => by
      obtain ⟨g', o', e', -, k⟩ := Reads.cells h hj
      injection e' with e'
      injection e' with e1 e2 _
      subst e1 e2
      rw [k, List.getD_eq_getElem?_getD, List.getElem?_eq_getElem hj]; rfl
     have := Tryz.slices_Clone_string g o xs.length c xs w (Nat.le_refl _) (by omega) hc
     rw [List.take_length] at this
     exact this.mono fun e w' he => done e w' he
section
variable {w0 w w1 : World} {X : Nat} {F : List Nat}
theorem nil_own (X : Nat) : X ∉ ownB (.slice Option.none 0 0) := by simp [ownB, Value.ownBlock]
theorem AppPost.notin {α : Type} {t : TypeId} {k : Nat} {f : α → List Value} {u v' : Value} {zs : List α} (h : X ∉ ownB u) (hl : X < w.heap.size) (hA : AppPost w w1 t k f u v' zs) : X ∉ ownB v' := fun hm => by
 have hm' := mem_ownB.1 hm
 rcases hA.lies with h1 | h1
 · exact h (mem_ownB.2 (h1 ▸ hm'))
 · rw [h1] at hm'
   injection hm' with e
   omega
theorem Loc.growX {α : Type} {t t2 : TypeId} {k : Nat} {cs : Array Value} {f : α → List Value} {u v' : Value} {zs : List α} (b : Loc F w0 w X t cs) (h : X ∉ ownB u) (hA : AppPost w w1 t2 k f u v' zs) : Loc F w0 w1 X t cs :=
 ⟨b.blk.grown hA.grown fun h1 => h (mem_ownB.2 h1.symm), b.may⟩
theorem ORow.growT {α β : Type} {t t2 : TypeId} {k k2 : Nat} {f : α → List Value} {f2 : β → List Value} {v v2 v' : Value} {xs : List α} {ys zs : List β} (h : ORow w t k f v xs) (r : ORow w t2 k2 f2 v2 ys) (hA : AppPost w w1 t2 k2 f2 v2 v' zs) (hne : t ≠ t2) : ORow w1 t k f v xs :=
 h.kept fun x hx => hA.grown.block x (h.lt hx) fun e => by
  obtain ⟨hl, ⟨e1, e2⟩ | ⟨g, cap, cur, e1, hb, hg, h2⟩⟩ := r
  · subst e1; simp [Value.ownBlock] at e
  · subst e1
    have : x = g := by simpa [Value.ownBlock] using e
    subst this
    exact h.ne (show Blk w x t2 cur from hg) hne (mem_ownB.2 hx)
theorem OwnR.grow {α β : Type} {wa : World} {t t2 : TypeId} {k k2 : Nat} {f : α → List Value} {f2 : β → List Value} {v v2 v' : Value} {xs : List α} {ys zs : List β} (h : OwnR w0 w t k f v xs) (r : OwnR wa w t2 k2 f2 v2 ys) (hA : AppPost w w1 t2 k2 f2 v2 v' zs) (hne : t ≠ t2) : OwnR w0 w1 t k f v xs := ⟨h.row.growT r.row hA hne, h.new⟩
end
/-! ### trees that lie apart from blocks -/
structure Trees (bs : List Nat) (w : World) (L : List Ex) : Prop where
 ok : Ex.oks w L
 away : ∀ b ∈ bs, Ex.aways b L
section
variable {bs : List Nat} {w w1 : World} {L : List Ex} {X : Nat}
theorem Trees.ext (h : Trees bs w L) (hx : Ext w w1) : Trees bs w1 L := ⟨Ex.oks.ext hx h.ok, h.away⟩
theorem Trees.nil (bs : List Nat) (w : World) : Trees bs w [] := ⟨by unfold Ex.oks; trivial, fun _ _ => by unfold Ex.aways; trivial⟩
theorem Trees.notin (h : Trees bs w L) (hX : w.heap.size ≤ X) : Ex.aways X L := Ex.oks.notin hX h.ok
theorem Trees.but0 (h : Trees bs w L) (hb : But X w w1) (hm : Ex.aways X L) : Trees bs w1 L := ⟨Ex.oks.only (Only.of_but hb (List.mem_singleton.2 rfl)) h.ok hm, h.away⟩
theorem Trees.with (h : Trees bs w L) (hm : Ex.aways X L) : Trees (X :: bs) w L := ⟨h.ok, fun b hb => (List.mem_cons.1 hb).elim (fun e => e ▸ hm) (h.away b)⟩
theorem Trees.sub {cs : List Nat} (h : Trees bs w L) (hs : ∀ b ∈ cs, b ∈ bs) : Trees cs w L := ⟨h.ok, fun b hb => h.away b (hs b hb)⟩
theorem aways_app {p : Nat} : ∀ {l : List Ex} {y : Ex}, Ex.aways p l → y.away p → Ex.aways p (l ++ [y])
 | [], y, _, hy => aways1 hy
 | e :: l, y, h, hy => by
   unfold Ex.aways at h
   rw [List.cons_append]
   unfold Ex.aways
   exact ⟨h.1, aways_app h.2 hy⟩
theorem oks_app {w : World} : ∀ {l : List Ex} {y : Ex}, Ex.oks w l → y.ok w → Ex.oks w (l ++ [y])
 | [], y, _, hy => oks1 hy
 | e :: l, y, h, hy => by
   unfold Ex.oks at h
   rw [List.cons_append]
   unfold Ex.oks
   exact ⟨h.1, oks_app h.2 hy⟩
theorem frs_app {N : Nat} : ∀ {l : List Ex} {y : Ex}, Ex.frs N l → y.fr N → Ex.frs N (l ++ [y])
 | [], y, _, hy => frs1 hy
 | e :: l, y, h, hy => by
   unfold Ex.frs at h
   rw [List.cons_append]
   unfold Ex.frs
   exact ⟨h.1, frs_app h.2 hy⟩
theorem Trees.snoc {y : Ex} (h : Trees bs w L) (hy : y.ok w) (ha : ∀ b ∈ bs, y.away b) : Trees bs w (L ++ [y]) := ⟨oks_app h.ok hy, fun b hb => aways_app (h.away b hb) (ha b hb)⟩
/-- trees, and a row of expressions that grows apart from them -/
theorem Trees.growA {α : Type} {t : TypeId} {k : Nat} {f : α → List Value} {u v' : Value} {zs : List α} (h : Trees bs w L) (hu : ∀ b ∈ ownB u, Ex.aways b L) (hA : AppPost w w1 t k f u v' zs) : Trees bs w1 L ∧ ∀ b ∈ ownB v', Ex.aways b L := by
 have hO : ∀ {b : Nat}, b ∈ ownB u → Ex.aways b L := fun hb => hu _ hb
 refine ⟨⟨?_, h.away⟩, fun b hb => ?_⟩
 · rcases hq : ownB u with _ | ⟨g, r⟩
   · refine Ex.oks.ext (Only.grown (Only.of_grown (F := []) hA.grown fun b hb => ?_) rfl) h.ok
     have := mem_ownB.2 hb
     rw [hq] at this
     exact this
   · have hg : Only [g] w w1 := Only.of_grown (F := [g]) hA.grown fun b hb => by
       have h1 : g ∈ ownB u := by rw [hq]; exact .head _
       have h2 := mem_ownB.1 h1
       rw [hb] at h2
       injection h2 with h2
       rw [h2]; exact .head _
     exact Ex.oks.only hg h.ok (hO (by rw [hq]; exact .head _))
 · have hb' := mem_ownB.1 hb
   rcases hA.lies with h1 | h1
   · exact hu b (mem_ownB.2 (h1 ▸ hb'))
   · rw [h1] at hb'
     injection hb' with e
     exact h.notin (Nat.le_of_eq e)
end
open Go.RowKit Tk
def u64C (n : Nat) : List Value := [.int .u64 n]
theorem u64C_len (n : Nat) : (u64C n).length = 1 := rfl
theorem u64C_one (n : Nat) : ∀ c ∈ u64C n, Value.oneCell' c = true := by intro c hc; simp [u64C] at hc; subst hc; rfl
theorem made_list (z : Value) (n : Nat) : madeCells #[z] n = (List.replicate n z).toArray := by
 apply Array.ext'
 simp [madeCells]
 apply List.ext_getElem <;> simp [Nat.mod_one]
theorem info_u64 : (Tryz.prog.info? 23).map (fun i => (i.zero, i.size, i.bytes)) = some (some (.int .u64 0), 1, 8) := by kernel_rfl
theorem und_u64s : Tryz.prog.underlying 92 = some (.slice 23) := by kernel_rfl
theorem len_int {n : Nat} (h : n ≤ 16) : max 1 (wrap64 ((wrap64 ((2 : Int) ^ n)).tdiv 64)) = (lenT n : Nat) := by
 have key : ∀ m : Fin 17, max 1 (wrap64 ((wrap64 ((2 : Int) ^ m.val)).tdiv 64)) = (lenT m.val : Nat) := by decide +kernel
 exact key ⟨n, by omega⟩
theorem lenT_le {n : Nat} (h : n ≤ 16) : 1 ≤ lenT n ∧ lenT n ≤ 1024 := by
 have key : ∀ m : Fin 17, 1 ≤ lenT m.val ∧ lenT m.val ≤ 1024 := by decide +kernel
 exact key ⟨n, by omega⟩
theorem mk_u64 {n : Nat} (hn : n ≤ 16) (w : World) : (Instr.makeSlice 92 (.int .i64 (max 1 (wrap64 ((wrap64 ((2 : Int) ^ n)).tdiv 64)))) (.int .i64 (max 1 (wrap64 ((wrap64 ((2 : Int) ^ n)).tdiv 64))))).run Tryz.prog w =
    .ok (.slice (some ⟨w.heap.size, 0, none⟩) (lenT n) (lenT n)) (w.alloc (.cells (List.replicate (lenT n) (Value.int .u64 0)).toArray 23)) := by
 have hl := lenT_le hn
 have hmk := run_make_row' (P := Tryz.prog) 92 23 (.int .u64 0) 8 und_u64s info_u64 rfl .i64 .i64 (lenT n) (by omega) (by omega) w
 rw [made_list] at hmk
 rw [len_int hn]
 exact hmk
/-! ### a column while it is made -/
def bitF (i W : Nat) (k : Nat) : Bool := (64 * W + k).testBit i
def colL (len i W k : Nat) : List Nat := (List.range len).map fun v => if v < W then tw64 (fun r => r.testBit i) v else if v = W then wdF (bitF i W) k else 0
theorem colL_len (len i W k : Nat) : (colL len i W k).length = len := by unfold colL; simp
theorem colL_start (len i : Nat) : colL len i 0 0 = List.replicate len 0 := by
 unfold colL
 apply List.ext_getElem
 · simp
 · intro v h1 h2
   simp [wdF]
theorem colL_at {len i W k : Nat} (h : W < len) : (colL len i W k)[W]? = some (wdF (bitF i W) k) := by unfold colL; simp [h]
theorem colL_set {len i W k : Nat} (h : W < len) : (colL len i W k).set W (wdF (bitF i W) (k + 1)) = colL len i W (k + 1) := by
 apply List.ext_getElem
 · simp [colL_len]
 · intro v h1 h2
   rw [List.getElem_set]
   by_cases hv : W = v
   · subst hv; simp [colL]
   · rw [if_neg hv]; simp [colL, show ¬ v = W from fun e => hv e.symm]
theorem colL_keep {len i W k : Nat} (hb : bitF i W k = false) : colL len i W (k + 1) = colL len i W k := by
 unfold colL
 have : wdF (bitF i W) (k + 1) = wdF (bitF i W) k := by rw [wdF, hb]; rfl
 rw [this]
theorem colL_next (len i W : Nat) : colL len i W 64 = colL len i (W + 1) 0 := by
 unfold colL
 apply List.map_congr_left
 intro v _
 by_cases h1 : v < W
 · rw [if_pos h1, if_pos (by omega)]
 · rw [if_neg h1]
   by_cases h2 : v = W
   · subst h2
     rw [if_pos rfl, if_pos (by omega)]; rfl
   · rw [if_neg h2, if_neg (by omega)]
     split <;> rfl
theorem colL_end (len i : Nat) : colL len i len 0 = tabN (fun r => r.testBit i) len := by
 unfold colL tabN
 apply List.map_congr_left
 intro v hv
 rw [if_pos (List.mem_range.1 hv)]
def TabPost (w : World) (xs : List Nat) (e : Ending) (w' : World) : Prop := ∃ X, e = .returned (.slice (some ⟨X, 0, none⟩) xs.length xs.length) ∧ OwnR w w' 23 1 u64C (.slice (some ⟨X, 0, none⟩) xs.length xs.length) xs ∧ Ext w w'
theorem u64_at {w0 w : World} {X n c W y : Nat} {xs : List Nat} (r : OwnR w0 w 23 1 u64C (.slice (some ⟨X, 0, none⟩) n c) xs) (h : xs[W]? = some y) : w.cell? ⟨X, W, none⟩ = some (.int .u64 y) := by
 obtain ⟨hi, e⟩ := List.getElem?_eq_some_iff.1 h
 obtain ⟨g, o, hgo, hg, hcl⟩ := RRow.cells (r.row.reads u64C_len) hi
 injection hgo with hgo
 injection hgo with e1 e2 _
 subst e1 e2
 have k0 := hcl 0 (by decide)
 rw [e] at k0
 simpa [u64C] using k0
theorem wp_put_u64 {P : Program} {w0 w : World} {o : Oper} {a : Act} {K : Act → World → Prop} {Q : Exit → Act → World → Prop} {ty : TypeId} {x y : Operand} {g n c i z' : Nat} {xs : List Nat} (z : Nat) (r : OwnR w0 w 23 1 u64C (.slice (some ⟨g, 0, none⟩) n c) xs) (hi' : xs[i]? = some z')
    (ho : o.op = .store ty x y) (hx : a.eval x = .pointer (some ⟨g, i, none⟩)) (hy : a.eval y = .int .u64 z) (hi : (P.info? ty).map (·.size) = some 1)
    (h : ∀ w', OwnR w0 w' 23 1 u64C (.slice (some ⟨g, 0, none⟩) n c) (xs.set i z) → But g w w' → K (a.put o.dst undef) w') : o.wp P a w K Q :=
 wp_put_row z r u64C_len u64C_one (List.getElem?_eq_some_iff.1 hi').1 ho (by rw [hx, Nat.mul_one]) (by rw [hy]; rfl) hi h
theorem i64_and1 (n : Int) : bits .and .i64 n 1 = n % 2 := by
 have h1 : (BitVec.ofInt 64 n).toNat = (n % 18446744073709551616).toNat := by simp [BitVec.toNat_ofInt]
 have hb : (BitVec.ofInt 64 (1 : Int)).toNat = 1 := rfl
 have h : bits .and .i64 n 1 = IntKind.i64.wrap (((BitVec.ofInt 64 n) &&& (BitVec.ofInt 64 (1 : Int))).toNat : Int) := rfl
 rw [h, BitVec.toNat_and, h1, hb, Nat.and_one_is_mod, IntKind.wrap_i64]
 omega
theorem bit_int (i W k : Nat) : (bits .and .i64 (((W : Int) * 64 + k) / 2 ^ i) 1 == 1) = bitF i W k := by
 rw [i64_and1]
 unfold bitF
 rw [Nat.testBit_eq_decide_div_mod_eq]
 have e : ((W : Int) * 64 + k) / 2 ^ i = (((64 * W + k) / 2 ^ i : Nat) : Int) := by
  rw [Int.natCast_ediv, Int.natCast_pow]
  congr 1
  omega
 rw [e]
 generalize (64 * W + k) / 2 ^ i = m
 rcases Nat.mod_two_eq_zero_or_one m with h | h
 · rw [decide_eq_false (by omega)]
   simp; omega
 · rw [decide_eq_true h]
   simp; omega
theorem or_bit {f : Nat → Bool} {k : Nat} (hf : f k = true) (hk : k < 64) : bits .or .u64 (wdF f k : Nat) (IntKind.u64.wrap (2 ^ k)) = (wdF f (k + 1) : Nat) := by
 have h2 : (2 : Nat) ^ k < 18446744073709551616 := Nat.pow_lt_pow_right (by decide) hk
 have h1 : wdF f k < 18446744073709551616 := Nat.lt_trans (wdF_lt f k) h2
 have e : IntKind.u64.wrap ((2 : Int) ^ k) = ((2 ^ k : Nat) : Int) := by
  rw [IntKind.wrap_u64, show ((2 : Int) ^ k) = ((2 ^ k : Nat) : Int) by rw [Int.natCast_pow]; rfl]
  exact Int.emod_eq_of_lt (Int.natCast_nonneg _) (Int.ofNat_lt.2 h2)
 rw [e, bits_or_u64_nat _ _ h1 h2, wdF, if_pos hf]
theorem bcolumn_any {w : World} {i n : Nat} (hi : i < n) (hn : n ≤ 16) : Calls Tryz.prog 91 #[.int .i64 i, .int .i64 n] w (TabPost w (tabN (fun r => r.testBit i) (lenT n))) := by
 have hmk := mk_u64 hn w
 have hl := lenT_le hn
 obtain ⟨len, hlen⟩ : ∃ len, lenT n = len := ⟨_, rfl⟩
 rw [hlen] at hl hmk ⊢
 obtain ⟨hl1, hl2⟩ := hl
 go_enter Tryz.func91, Tryz.ntmps91
 go_upto_region 3 with (first | fail)
 obtain ⟨X, hX⟩ : ∃ X, w.heap.size = X := ⟨_, rfl⟩
 have hb : Blk (w.alloc (.cells (Array.replicate len (Value.int .u64 0)) 23)) w.heap.size 23 (Array.replicate len (Value.int .u64 0)) := Blk.fresh w _ _
 have hx : Ext w (w.alloc (.cells (Array.replicate len (Value.int .u64 0)) 23)) := Ext.alloc w _
 generalize hwn : w.alloc (.cells (Array.replicate len (Value.int .u64 0)) 23) = wn at hb hx ⊢
 rw [hX] at hb ⊢
 have E := (Only.refl [] w).ext hx
 have b12 : Loc [] w wn X 23 (Array.replicate len (Value.int .u64 0)) := ⟨hb, .inr (Nat.le_of_eq hX)⟩
 have r0 : OwnR w wn 23 1 u64C (.slice (some ⟨X, 0, none⟩) len len) (colL len i 0 0) := by
  have := OwnR.ofBlk (k := 1) (f := u64C) (xs := colL len i 0 0) b12 rfl u64C_len (by rw [colL_start]; simp [u64C, List.flatMap_replicate]) (by rw [colL_len]; unfold maxLen; omega)
  rwa [colL_len] at this
 clear hmk hwn hb b12 hx
 go_loopw [15] (fun v wr => ∃ W : Nat, v = .int .i64 W ∧ W ≤ len ∧ Only [] w wr ∧ OwnR w wr 23 1 u64C (.slice (some ⟨X, 0, none⟩) len len) (colL len i W 0)) (fun v _ => len - (intOf v).toNat)
 case atStart => exact ⟨0, rfl, Nat.zero_le _, E, r0⟩
 case round =>
  clear E r0
  obtain ⟨W, rfl, hW, E, r0⟩ := hrel
  by_cases hlt : W < len
  · obtain ⟨wo, hwo⟩ : ∃ wo, wo = wr := ⟨_, rfl⟩
    subst hwo
    go_upto_region 6 with (first | fail)
    go_loopw [18] (fun v wr => ∃ k : Nat, v = .int .i64 k ∧ k ≤ 64 ∧ Only [] w wr ∧ OwnR w wr 23 1 u64C (.slice (some ⟨X, 0, none⟩) len len) (colL len i W k)) (fun v _ => 64 - (intOf v).toNat)
    case atStart => exact ⟨0, rfl, Nat.zero_le _, E, r0⟩
    case round =>
     clear E r0
     obtain ⟨k, rfl, hk, E, r0⟩ := hrel
     by_cases hkt : k < 64
     · have HK1 := Lib.hid (colL_at (i := i) (k := k) hlt)
       have k1 := u64_at r0 HK1.out
       have g1 := bit_int i W k
       obtain ⟨b, hb⟩ : ∃ b, bitF i W k = b := ⟨_, rfl⟩
       rw [hb] at g1
       have HB := Lib.hid hb
       cases b with
       | true =>
         have g2 := or_bit hb hkt
         clear hb
         go_upto_region 9999 with (first | ((with_reducible refine at_store 36 ?_); (refine wp_put_u64 (wdF (bitF i W) (k + 1)) r0 HK1.out rfl rfl ?_ ?_ ?_); (· first | rfl | exact congrArg (Value.int .u64) g2); (· kernel_rfl); intro wn rn hb; have E2 := r0.put E hb; clear E r0; have E := E2; clear E2; have r0 := rn; clear rn hb; dsimp only [Act.put]; (try replace hcE := bcell E.low); (try clear k1)) | ((with_reducible refine at_reg 9 ?_); (refine wp_region_x (id := 9) (spOf []) [0, 1, 2, 3, 4, 5, 6, 7] [] [8] mixed ?_ ?_); (· decide +kernel); intro K ws hx hK; (try replace E := E.ext hx); (try replace r0 := r0.ext hx); (try replace hcE := bcell E.low); (try clear k1); (try have k1 := u64_at r0 HK1.out); dsimp only [pickE, pickL, List.getElem?_cons_succ, List.getElem?_cons_zero] at hK ⊢) | ((with_reducible refine wpE_q ?_ ?_ ?_); rfl; rfl; intro wq hq _ _; (try replace hcE := bcell (E.ext hq).low); (try clear k1); (try have k1 := u64_at (r0.ext hq) HK1.out)) | ((with_reducible refine at_nil 0 ?_); refine wpE_nil (fun wn hx hΦ hfp hdis => ?_); (try replace E := E.ext hx); (try replace r0 := r0.ext hx); (try replace hcE := bcell E.low); (try clear k1); (try have k1 := u64_at r0 HK1.out); clear hΦ hfp hdis; refine hK _ _ ?_; clear hK) | ((with_reducible refine wpTxt_w0 ?_ ?_ ?_); rfl; rfl; intro _ _) | (with_reducible refine wpTxt_nil ?_))
         go_roundw
         case rel => exact ⟨k + 1, by go_num, by omega, E, by rw [← colL_set hlt]; exact r0⟩
         case measure => simp [intOf]; omega
       | false =>
         clear hb
         go_upto_region 9999 with (first | fail)
         go_roundw
         case rel => exact ⟨k + 1, by go_num, by omega, E, by rw [colL_keep HB.out]; exact r0⟩
         case measure => simp [intOf]; omega
     · have hk64 : k = 64 := by omega
       subst hk64
       rw [colL_next] at r0
       go_upto_region 9999 with (first | fail)
       go_roundw
       case rel => exact ⟨W + 1, by go_num, by omega, E, r0⟩
       case measure => simp [intOf]; omega
  · have hWl : W = len := by omega
    subst hWl
    rw [colL_end] at r0
    go_upto_region 9999 with (first | fail)
    go_ret
    have e := tabN_len (fun r => r.testBit i) W
    refine ⟨X, by rw [e]; rfl, by rw [e]; exact r0, E.low⟩
open Go.RowKit Tk
theorem idx_from {x : ByteArray} : ∀ {zs : List ByteArray} (i : Nat), x ∈ zs → Lib.idxFromS zs x i = ((i + idxN x zs : Nat) : Int)
 | z :: zs, i, h => by
   rw [Lib.idxFromS, idxN]
   by_cases hz : z = x
   · rw [if_pos hz, if_pos hz]; rfl
   · rw [if_neg hz, if_neg hz, idx_from (i + 1) ((List.mem_cons.1 h).resolve_left fun e => hz e.symm)]
     congr 1; omega
theorem idx_lt {x : ByteArray} : ∀ {zs : List ByteArray}, x ∈ zs → idxN x zs < zs.length
 | z :: zs, h => by
   rw [idxN]
   by_cases hz : z = x
   · rw [if_pos hz]; simp
   · rw [if_neg hz]
     have := idx_lt ((List.mem_cons.1 h).resolve_left fun e => hz e.symm)
     simp; omega
theorem bindex_any {w : World} {a : Option Addr} {c : Nat} {xs : List ByteArray} (h : Reads w (.slice a xs.length c) xs) {s : ByteArray} (hs : s ∈ xs) :
    Calls Tryz.prog 92 #[.slice a xs.length c, .string s] w (IPost (idxN s xs : Nat) w) := by
 have h0 : 0 < xs.length := by cases xs with
  | nil => cases hs
  | cons y l => simp
 obtain ⟨g, o, rfl, hg, -⟩ := h.cells h0
 have hc : ∀ j, j < xs.length → w.cell? ⟨g, o + j, none⟩ = some (.string (xs.getD j ByteArray.empty)) := fun j hj => by
  obtain ⟨g', o', e', -, k⟩ := Reads.cells h hj
  injection e' with e'
  injection e' with e1 e2 _
  subst e1 e2
  rw [k, List.getD_eq_getElem?_getD, List.getElem?_eq_getElem hj]; rfl
 have := Tryz.slices_Index_string g o xs.length c xs s w (Nat.le_refl _) h.lens.2 hc
 rw [List.take_length] at this
 refine this.mono ?_
 rintro e w' ⟨rfl, rfl⟩
 refine ⟨?_, Ext.refl _⟩
 unfold Lib.idxOfS
 rw [idx_from 0 hs, Nat.zero_add]
/-- a list, its first j elements those of another -/
def mixL (xs ys : List Nat) (j : Nat) : List Nat := ys.take j ++ xs.drop j
theorem mix_end {xs ys : List Nat} (h : ys.length = xs.length) : mixL xs ys xs.length = ys := by
 unfold mixL; rw [List.drop_length, List.append_nil, List.take_of_length_le (by omega)]
theorem mix_at {xs ys : List Nat} {j : Nat} (h : ys.length = xs.length) (hj : j < xs.length) : (mixL xs ys j)[j]? = xs[j]? := by
 unfold mixL
 rw [List.getElem?_append_right (by rw [List.length_take]; omega), List.length_take, List.getElem?_drop]
 congr 1; omega
theorem mix_set {xs ys : List Nat} {j z : Nat} (h : ys.length = xs.length) (hj : j < xs.length) (hz : ys[j]? = some z) : (mixL xs ys j).set j z = mixL xs ys (j + 1) := by
 unfold mixL
 have hl : (ys.take j).length = j := by rw [List.length_take]; omega
 rw [List.set_append_right _ _ (by omega), hl, Nat.sub_self, drop_at (List.getElem?_eq_getElem hj), List.set_cons_zero]
 rw [List.take_add_one, hz]
 simp
theorem OwnR.back {α : Type} {w0 w1 w : World} {t : TypeId} {k : Nat} {f : α → List Value} {v : Value} {xs : List α} (h : OwnR w1 w t k f v xs) (hs : w0.heap.size ≤ w1.heap.size) : OwnR w0 w t k f v xs := ⟨h.row, fun b hb => Nat.le_trans hs (h.new b hb)⟩
theorem row_name {ns : List ByteArray} {x : Ex} {nm : ByteArray} (hop : x.h.op = 1) (hn : x.h.names = [nm]) (hm : nm ∈ ns) : (fun r => r.testBit (idxN nm ns)) = rowV ns x := funext fun r => by
 unfold rowV
 rw [valE_eq, hn, show firstN [nm] = nm from rfl, numb_val hm]
 unfold bodyV
 rw [if_pos hop]; rfl
theorem row_not {ns : List ByteArray} {x a : Ex} (hop : x.h.op = 2) (hk : x.kids = [a]) (r : Nat) : rowV ns x r = !rowV ns a r := by
 unfold rowV
 rw [valE_eq, hk]
 unfold bodyV
 rw [if_neg (by omega), if_pos hop]; rfl
theorem row_two {ns : List ByteArray} {x a b : Ex} (h1 : ¬ x.h.op = 1) (h2 : ¬ x.h.op = 2) (hk : x.kids = [a, b]) (r : Nat) : rowV ns x r = opB x.h.op (rowV ns a r) (rowV ns b r) := by
 unfold rowV
 rw [valE_eq, hk]
 unfold bodyV
 rw [if_neg h1, if_neg h2]; rfl
theorem not_word (F : Nat → Bool) (W : Nat) : bits .xor .u64 IntKind.u64.max (tw64 F W : Nat) = (tw64 (fun r => !F r) W : Nat) := by
 have := wd_not fun k => F (64 * W + k)
 unfold wNot at this
 exact this
@[reducible] def TabOk (N : Nat) : Prop := ∀ (x : Ex) {w : World} {na : Option Addr} {nc : Nat} {ns : List ByteArray}, Reads w (.slice na ns.length nc) ns → x.ok w → x.wf → x.sz < N → ns.length ≤ 16 → (∀ n ∈ namesE x, n ∈ ns) → Calls Tryz.prog 62 #[.agg (exC x).toArray, .slice na ns.length nc] w (TabPost w (tabN (rowV ns x) (lenT ns.length)))
theorem btable_name (x : Ex) {w : World} {na : Option Addr} {nc : Nat} {ns : List ByteArray} (hns : Reads w (.slice na ns.length nc) ns) (hok : x.ok w) (hwf : x.wf) (hop : x.h.op = 1) (hn16 : ns.length ≤ 16) (hall : ∀ n ∈ namesE x, n ∈ ns) :
    Calls Tryz.prog 62 #[.agg (exC x).toArray, .slice na ns.length nc] w (TabPost w (tabN (rowV ns x) (lenT ns.length))) := by
 have hnm := hwf.names
 rw [hop, show namedE 1 = 1 from rfl] at hnm
 have n3 := (Reads.lens hok.names).2
 have hlt : 0 < x.h.names.length := by omega
 obtain ⟨nm, hnm2⟩ : ∃ nm, x.h.names = [nm] := by
  have h8 : x.h.names.length = 1 := by omega
  match hq : x.h.names, h8 with
  | [nm], _ => exact ⟨nm, rfl⟩
 obtain ⟨gg, oo, hgo, hg, k0⟩ := hok.names.cells hlt
 have hn0 : x.h.names[0] = nm := by simp [hnm2]
 rw [hn0, Nat.add_zero] at k0
 have hmem := hall nm (by rw [namesE_eq, hnm2]; simp)
 have hidx := idx_lt hmem
 have HF : Hid ((fun r => Nat.testBit r (idxN nm ns)) = rowV ns x) := Lib.hid (row_name hop hnm2 hmem)
 have HNM := Lib.hid hnm2
 have HOP := Lib.hid hop
 obtain ⟨s1, s2⟩ := kd_t hop
 clear hnm2 hn0 hnm hall hop
 go_enter Tryz.func62, Tryz.ntmps62
 have E := Only.refl [] w
 go_upto_region 9999 with (first | ((first | ((with_reducible refine at_dst 18 ?_); go_simp; (have hc := bindex_any (hns.ext E.low) hmem); (first | with_reducible refine hc.mono ?_ | refine hc.mono ?_); clear hc; unfold IPost; rintro e wn ⟨rfl, hx⟩) | ((with_reducible refine at_dst 21 ?_); go_simp; ((with_reducible refine (bcolumn_any hidx hn16).mono ?_)); unfold TabPost; rw [HF.out]; rintro e wn ⟨X21, rfl, r21, hx⟩; replace r21 := r21.back E.size) | ((with_reducible refine at_dst 2 ?_); go_simp; (generalize hXn : Array.size (World.heap _) = X2); refine new_block hXn ?_; intro wn bb hx; have b2 := Loc.new bb E hXn; have zz := Nat.le_trans E.size (Nat.le_of_eq hXn); clear bb hXn)); (try replace E := E.ext hx); (try replace b2 := b2.ext hx); (try replace hcE := bcell E.low); (try replace c2 := b2.cf)))
 go_ret
 exact ⟨X21, rfl, r21, E.low⟩
theorem btable_not {N : Nat} (IH : Hid (TabOk N)) (x : Ex) {w : World} {na : Option Addr} {nc : Nat} {ns : List ByteArray} (hns : Reads w (.slice na ns.length nc) ns) (hok : x.ok w) (hwf : x.wf) (hz : x.sz < N + 1) (hop : x.h.op = 2) (hn16 : ns.length ≤ 16) (hall : ∀ n ∈ namesE x, n ∈ ns) :
    Calls Tryz.prog 62 #[.agg (exC x).toArray, .slice na ns.length nc] w (TabPost w (tabN (rowV ns x) (lenT ns.length))) := by
 rw [Ex.sz_kids] at hz
 have hk := hwf.kids
 rw [hop, show opn 2 = 1 from rfl] at hk
 have n2 := (RRow.lens hok.kids).2
 obtain ⟨a, hka⟩ : ∃ a, x.kids = [a] := by
  have h8 : x.kids.length = 1 := by omega
  match hq : x.kids, h8 with
  | [a], _ => exact ⟨a, rfl⟩
 have ham : a ∈ x.kids := by rw [hka]; simp
 have hao := hok.subs.mem ham
 have haw := hwf.subs.mem ham
 have HNA : Hid (∀ n ∈ namesE a, n ∈ ns) := Lib.hid fun n hn => hall n (names_mem ham hn)
 have hs1 : Ex.szs x.kids = a.sz := by rw [hka, Ex.szs, Ex.szs]; rfl
 have has : a.sz < N := by omega
 have hlt : 0 < x.kids.length := by omega
 obtain ⟨g, o, hgo, hg, -⟩ := RRow.cells hok.kids hlt
 have hkc : RRow w 10 exC (.slice (some ⟨g, o, none⟩) x.kids.length x.h.hk.c) x.kids := hgo ▸ hok.kids
 have H0 : Hid (x.kids[0]? = some a) := Lib.hid (by rw [hka]; rfl)
 have e1 : rowV ns x = fun r => !rowV ns a r := funext fun r => row_not hop hka r
 rw [e1]
 have hl := lenT_le hn16
 obtain ⟨len, hlen⟩ : ∃ len, lenT ns.length = len := ⟨_, rfl⟩
 rw [hlen] at hl ⊢
 obtain ⟨hl1, hl2⟩ := hl
 have HLEN := Lib.hid hlen
 have HKA := Lib.hid hka
 have HOP := Lib.hid hop
 have HY1 : Hid ((tabN (fun r => !rowV ns a r) len).length = (tabN (rowV ns a) len).length) := Lib.hid (by rw [tabN_len, tabN_len])
 have HY2 : Hid ((tabN (rowV ns a) len).length = len) := Lib.hid (tabN_len _ _)
 obtain ⟨s1, s2⟩ := kd_f (show ¬ x.h.op = 1 by omega)
 obtain ⟨s3, s4⟩ := kd_t hop
 clear hka hk hs1 hwf ham hop hall e1 hlen
 go_enter Tryz.func62, Tryz.ntmps62
 have E := Only.refl [] w
 go_upto_region 6 with (first | ((first | ((with_reducible refine at_dst 27 ?_); go_simp; (have hc := IH.out a (hns.ext E.low) (hao.ext E.low) haw has hn16 HNA.out); (first | with_reducible refine hc.mono ?_ | refine hc.mono ?_); clear hc; unfold TabPost; rw [tabN_len]; rintro e wn ⟨X27, rfl, r0, hx⟩; replace r0 := r0.back E.size) | ((with_reducible refine at_dst 2 ?_); go_simp; (generalize hXn : Array.size (World.heap _) = X2); refine new_block hXn ?_; intro wn bb hx; have b2 := Loc.new bb E hXn; have zz := Nat.le_trans E.size (Nat.le_of_eq hXn); clear bb hXn)); (try replace E := E.ext hx); (try replace b2 := b2.ext hx); (try replace hcE := bcell E.low); (try replace c2 := b2.cf)) | ((with_reducible refine at_dst 25 ?_); (refine wp_rec2 ((RRow.ext hkc E.low)) (H0.out) exC_len rfl rfl ?_ ?_ ?_); (· kernel_rfl); (· kernel_rfl)))
 have hr0 := r0
 rw [HLEN.out] at hr0
 clear r0
 have r0 : OwnR w wn 23 1 u64C (.slice (some ⟨X27, 0, none⟩) len len) (mixL (tabN (rowV ns a) len) (tabN (fun r => !rowV ns a r) len) 0) := hr0
 rw [HLEN.out]
 go_loopw [33] (fun v wr => ∃ W : Nat, v = .int .i64 W ∧ W ≤ len ∧ Only [] w wr ∧ OwnR w wr 23 1 u64C (.slice (some ⟨X27, 0, none⟩) len len) (mixL (tabN (rowV ns a) len) (tabN (fun r => !rowV ns a r) len) W)) (fun v _ => len - (intOf v).toNat)
 case atStart => exact ⟨0, rfl, Nat.zero_le _, E, r0⟩
 case round =>
  clear E r0 hr0
  (try clear b2 c2)
  obtain ⟨W, rfl, hW, E, r0⟩ := hrel
  by_cases hlt : W < len
  · have HK1 : Hid ((mixL (tabN (rowV ns a) len) (tabN (fun r => !rowV ns a r) len) W)[W]? = some (tw64 (rowV ns a) W)) := Lib.hid (by rw [mix_at HY1.out (by rw [HY2.out]; exact hlt)]; exact tabN_at _ hlt)
    have k1 := u64_at r0 HK1.out
    have g2 := not_word (rowV ns a) W
    go_upto_region 9999 with (first | ((with_reducible refine at_store 43 ?_); (refine wp_put_u64 (tw64 (fun r => !rowV ns a r) W) r0 HK1.out rfl rfl ?_ ?_ ?_); (· first | rfl | exact congrArg (Value.int .u64) g2); (· kernel_rfl); intro wn rn hb; have E2 := r0.put E hb; clear E r0; have E := E2; clear E2; have r0 := rn; clear rn hb; dsimp only [Act.put]; (try replace hcE := bcell E.low); (try clear k1)))
    go_roundw
    case rel => exact ⟨W + 1, by go_num, by omega, E, by rw [← mix_set HY1.out (by rw [HY2.out]; exact hlt) (tabN_at _ hlt)]; exact r0⟩
    case measure => simp [intOf]; omega
  · have hWl : W = len := by omega
    subst hWl
    have e2 : mixL (tabN (rowV ns a) W) (tabN (fun r => !rowV ns a r) W) W = tabN (fun r => !rowV ns a r) W := by
     have := mix_end HY1.out
     rwa [HY2.out] at this
    rw [e2] at r0
    clear e2
    go_upto_region 9999 with (first | fail)
    go_ret
    have e := tabN_len (fun r => !rowV ns a r) W
    refine ⟨X27, by rw [e]; rfl, by rw [e]; exact r0, E.low⟩
end Go.Proofs.YtbobbbhgdfapjaaGreat
