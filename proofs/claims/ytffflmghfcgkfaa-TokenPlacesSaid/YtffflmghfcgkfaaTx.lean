/- The walks of both functions Text. -/
import Derived.Test.YtffflmghfcgkfaaFe
set_option linter.unusedSimpArgs false
set_option linter.unusedVariables false
namespace Go.Proofs.Ytffflmghfcgkfaa
open Go.RowKit Tk

theorem join_snoc : ∀ (b : Bool) (l : List Tok) (t : Tok), joinF b (l ++ [t]) = joinF b l ++ ((if b || !l.isEmpty then [32] else []) ++ t.src)
  | b, [], t => by simp [joinF]
  | b, x :: l, t => by
    rw [List.cons_append, joinF, join_snoc true l t, joinF]
    simp
theorem join_take {ts : List Tok} {k : Nat} (h : k < ts.length) : joinF false (ts.take (k + 1)) = joinF false (ts.take k) ++ ((if 0 < k then [32] else []) ++ ts[k].src) := by
  rw [List.take_succ_eq_append_getElem h, join_snoc]
  have : (false || !(ts.take k).isEmpty) = decide (0 < k) := by
    cases k with
    | zero => simp
    | succ k =>
      cases ts with
      | nil => simp at h
      | cons => simp
  rw [this]
  simp
def TPost (ts : List Tok) (w : World) (e : Ending) (w' : World) : Prop := e = .returned (.tuple #[.string ⟨(textS ts).1.toArray⟩, .int .i64 (textS ts).2]) ∧ Below w.heap.size w w'
theorem tpost {ts : List Tok} {l : List UInt8} {c : Int} {s : ByteArray} {w w' : World} (h : textS ts = (l, c)) (hs : s = ⟨l.toArray⟩) (hw : Below w.heap.size w w') : TPost ts w (.returned (.tuple #[.string s, .int .i64 c])) w' := by
  unfold TPost; rw [h, hs]; exact ⟨rfl, hw⟩
/-- the first k tokens are in order and in front of the end -/
def Fine (ts : List Tok) (k : Nat) : Prop := ∀ j (_ : j < k) (h1 : j < ts.length), ¬ ts[j].kind = 0 ∧ ts[j].ok = true
theorem Fine.succ {ts : List Tok} {k : Nat} (h : Fine ts k) (hk : k < ts.length) (h0 : ¬ ts[k].kind = 0) (h1 : ts[k].ok = true) : Fine ts (k + 1) := by
  intro j hj hj1
  by_cases e : j = k
  · subst e; exact ⟨h0, h1⟩
  · exact h j (by omega) hj1
theorem Fine.body0 {ts : List Tok} {k : Nat} (h : Fine ts k) (hk : k < ts.length) (h0 : ts[k].kind = 0) : body ts = ts.take k := body_take hk (fun j hj h1 => (h j hj h1).1) h0
theorem Fine.body1 {ts : List Tok} {k : Nat} (h : Fine ts k) (hk : ts.length ≤ k) : body ts = ts.take k := by
  rw [body_all hk (fun j hj h1 => (h j hj h1).1), List.take_of_length_le hk]
theorem Fine.all {ts : List Tok} {k : Nat} (h : Fine ts k) : (ts.take k).all Tok.ok = true := by
  rw [List.all_eq_true]
  intro x hx
  obtain ⟨i, hi, rfl⟩ := List.getElem_of_mem hx
  rw [List.length_take] at hi
  rw [List.getElem_take]
  exact (h i (by omega) (by omega)).2
theorem body_has {ts : List Tok} {k : Nat} (hk : k < ts.length) (h : ∀ j (_ : j ≤ k) (h1 : j < ts.length), ¬ ts[j].kind = 0) : ts[k] ∈ body ts := by
  induction ts generalizing k with
  | nil => simp at hk
  | cons t ts ih =>
    have h0 : ¬ t.kind = 0 := h 0 (by omega) (by simp)
    unfold body
    rw [List.takeWhile_cons, if_pos (by simpa using h0)]
    cases k with
    | zero => simp
    | succ k => exact List.mem_cons_of_mem _ (ih (by simpa using hk) fun j hj h1 => h (j + 1) (by omega) (by simpa using h1))
theorem text_bad {ts : List Tok} {k : Nat} (h : Fine ts k) (hk : k < ts.length) (h0 : ¬ ts[k].kind = 0) (h1 : ts[k].ok = false) : textS ts = ([], 2) := by
  have hm := body_has hk (fun j hj hj1 => by
    by_cases e : j = k
    · subst e; exact h0
    · exact (h j (by omega) hj1).1)
  unfold textS
  rw [if_pos]
  rw [List.all_eq_false]
  exact ⟨_, hm, by simp [h1]⟩
theorem text_long {ts : List Tok} {k : Nat} (h : Fine ts k) (hb : body ts = ts.take k) (hl : 65536 < (joinF false (ts.take k)).length) : textS ts = ([], 4) := by
  unfold textS
  rw [hb, h.all, if_neg (by simp), if_pos hl]
theorem text_ok {ts : List Tok} {k : Nat} (h : Fine ts k) (hb : body ts = ts.take k) (hl : ¬ 65536 < (joinF false (ts.take k)).length) : textS ts = (joinF false (ts.take k), 0) := by
  unfold textS
  rw [hb, h.all, if_neg (by simp), if_neg hl]

theorem Blk.others {w w' : World} {g b : Nat} {t e : TypeId} {cs : Array Value} (h : Blk w g t cs) (ho : Lib.OthersKept e (some b) w w') (hg : g ≠ b) (ht : t ≠ e) : Blk w' g t cs :=
  ho g _ h (fun h' => hg (Option.some.inj h')) (fun c fz h' => by injection h' with _ h2; exact ht h2)

theorem bld_below {T e : TypeId} {B b : Nat} {bs : List Value} {w w' : World} (h : Lib.IsBuilder T e B b bs w) (hb : Below w.heap.size w w') : Lib.IsBuilder T e B b bs w' := by
  have key : ∀ p, Lib.BuilderAt T e B b p bs w → Lib.BuilderAt T e B b p bs w' := by
    rintro p ⟨h1, v, h2, h3, h4⟩
    exact ⟨h1, v, (hb.block b (Blk.lt h2)).trans h2, own_below h3 hb, h4⟩
  exact h.imp (key _) (key _)
theorem byteCells_snoc (l : List UInt8) (c : UInt8) : Lib.byteCells l ++ [.int .u8 c.toNat] = Lib.byteCells (l ++ [c]) := by simp [Lib.byteCells]
theorem byteCells_app (l : List UInt8) (s : ByteArray) : Lib.byteCells l ++ Lib.strCells s = Lib.byteCells (l ++ s.data.toList) := by simp [Lib.byteCells, Lib.strCells]
theorem bWriteByte_sp (B b : Nat) (l : List UInt8) (w : World) (h : Lib.IsBuilder 57 5 B b (Lib.byteCells l) w) (hlen : l.length ≤ 70000) (hBw : B ≤ w.heap.size) :
    Calls Try.prog 46 #[.pointer (some ⟨b, 0, none⟩), .int .u8 32] w fun e w' => e = .returned .nilIface ∧ Lib.IsBuilder 57 5 B b (Lib.byteCells (l ++ [32])) w' ∧ Below B w w' ∧ Lib.OthersKept 5 (some b) w w' := by
  have := bWriteByte_any B b (Lib.byteCells l) 32 w h (by rw [Lib.byteCells_length]; omega) hBw
  have e : Lib.byteCells l ++ [Value.int .u8 32] = Lib.byteCells (l ++ [32]) := byteCells_snoc l 32
  rwa [e] at this
theorem bWriteString_l (B b : Nat) (l : List UInt8) (s : ByteArray) (w : World) (h : Lib.IsBuilder 57 5 B b (Lib.byteCells l) w) (hlen : l.length ≤ 70001) (hs : s.size ≤ 70002) (hBw : B ≤ w.heap.size) :
    Calls Try.prog 47 #[.pointer (some ⟨b, 0, none⟩), .string s] w fun e w' => e = .returned (.tuple #[.int .i64 s.size, .nilIface]) ∧ Lib.IsBuilder 57 5 B b (Lib.byteCells (l ++ s.data.toList)) w' ∧ Below B w w' ∧ Lib.OthersKept 5 (some b) w w' := by
  have := bWriteString_any B b (Lib.byteCells l) s w h (by rw [Lib.byteCells_length]; omega) hBw
  rwa [byteCells_app] at this
theorem bLen_l (B b : Nat) (l : List UInt8) (w : World) (h : Lib.IsBuilder 57 5 B b (Lib.byteCells l) w) : Calls Try.prog 48 #[.pointer (some ⟨b, 0, none⟩)] w fun e w' => e = .returned (.int .i64 l.length) ∧ w = w' :=
  (Try.Builder_Len B b _ w h).mono fun e w' ⟨h1, h2⟩ => ⟨by rw [h1, Lib.byteCells_length], h2.symm⟩
/-- what holds ahead of a round -/
def TextRel (ts : List Tok) (w : World) (lg i : Value) (wr : World) : Prop :=
  ∃ (k : Nat) (b : Bool) (l : List UInt8), i = .int .i64 k ∧ lg = .bool b ∧ k ≤ ts.length ∧ Hid (Fine ts k) ∧ Hid (Lib.IsBuilder 57 5 w.heap.size w.heap.size (Lib.byteCells l) wr) ∧ Hid (Below w.heap.size w wr) ∧
    Hid (b = false → l = joinF false (ts.take k) ∧ l.length ≤ 65536) ∧ Hid (b = true → 65536 < (joinF false (ts.take k)).length)

theorem text_step {ts : List Tok} {w w5 : World} {k : Nat} {l' : List UInt8} {n : Int} (hk : k < ts.length) (hF : Fine ts (k + 1)) (hB : Lib.IsBuilder 57 5 w.heap.size w.heap.size (Lib.byteCells l') w5) (hL : Below w.heap.size w w5) (hl : l' = joinF false (ts.take (k + 1))) (hn : n = l'.length) :
    TextRel ts w (.bool (decide (65536 < n))) (.int .i64 (k + 1)) w5 := by
  refine ⟨k + 1, decide (65536 < n), l', by go_num, rfl, hk, hF, hB, hL, fun h => ⟨hl, ?_⟩, fun h => ?_⟩
  · have : ¬ 65536 < n := of_decide_eq_false h
    omega
  · have : 65536 < n := of_decide_eq_true h
    rw [← hl]; omega
def Small (ts : List Tok) : Prop := ts.length ≤ 70000 ∧ ∀ j (h : j < ts.length), ts[j].text.size ≤ 70000
theorem bString_l (B b : Nat) (l : List UInt8) (w : World) (h : Lib.IsBuilder 57 5 B b (Lib.byteCells l) w) (hBw : B ≤ w.heap.size) : Calls Try.prog 49 #[.pointer (some ⟨b, 0, none⟩)] w fun e w' => e = .returned (.string ⟨l.toArray⟩) ∧ Below B w w' := Try.Builder_String_any B b l w h hBw
set_option maxHeartbeats 1000000 in
theorem tText_any (ts : List Tok) (v : Value) (w : World) (ha : Toks w v ts) (hs : Small ts) : Calls Try.prog 24 #[v] w (TPost ts w) := by
  have hA := Lib.hid ha
  obtain ⟨ao, ca, rfl, a1, a2, a3⟩ := ha
  have hm := a2
  obtain ⟨hs1, hs2⟩ := hs
  unfold maxLen at a2
  go_enter Try.func24, Try.ntmps24
  go_wp2_with (first | ((with_reducible refine wpTxt_q ?_ ?_ ?_); rfl; rfl; intro _ _) | ((with_reducible refine wpTxt_w0 ?_ ?_ ?_); rfl; rfl; intro _ _) | ((with_reducible refine wpTxt_s ?_ ?_); rfl; intro _ _; go_simp) | ((with_reducible refine wpTxt_sw ?_ ?_); rfl; intro _ _; go_simp) | (with_reducible refine wpTxt_nil ?_) | ((with_reducible refine wp_region_t mixed ?_ ?_); decide +kernel; intro _ _))
  go_loopw [5, 10] (fun lg i wr => TextRel ts w lg i wr) (fun _ i _ => ts.length - (intOf i).toNat)
  case atStart =>
    refine ⟨0, false, [], rfl, rfl, by omega, fun j hj => absurd hj (by omega), Lib.fresh_isBuilder _ _ w, ?_, fun _ => ⟨rfl, by simp⟩, fun h => by cases h⟩
    show Below _ _ _
    (repeat (first | with_reducible assumption | with_reducible exact Below.refl _ _ | ((with_reducible refine Below.setCell ?_ ?_ _); rotate_left; (· first | omega | (simp only [World.size_alloc, World.size_drew, World.size_setCell]; omega))) | ((with_reducible refine Below.alloc ?_ ?_ _); rotate_left; (· first | omega | (simp only [World.size_alloc, World.size_drew, World.size_setCell]; omega))) | ((with_reducible refine Below.drewN' ?_ _)) | ((with_reducible refine Below.drew ?_))))
  case round =>
    obtain ⟨k, b, l, rfl, rfl, hk, hF, hB, hL, hf, ht⟩ := hrel
    by_cases hlt : k < ts.length
    · rcases a3 with h0' | ⟨ga, oa, rfl, hga, hca⟩
      · omega
      have hx : ts[k].text.size ≤ maxLen := by have := hs2 k hlt; unfold maxLen; omega
      obtain ⟨p0, p1, p2, p3⟩ := hca.of (hL.out.block ga hga) k hlt
      clear hca
      by_cases hk0 : ts[k].kind = 0
      · obtain ⟨g1, g2⟩ := kd_t hk0
        have hbd : Hid (body ts = ts.take k) := Lib.hid (hF.out.body0 hlt hk0)
        clear hk0
        cases b with
        | true =>
          have HO := Lib.hid (text_long hF.out hbd.out (ht.out rfl))
          go_wp2_with (first | ((with_reducible refine wpTxt_q ?_ ?_ ?_); rfl; rfl; intro _ _) | ((with_reducible refine wpTxt_w0 ?_ ?_ ?_); rfl; rfl; intro _ _) | ((with_reducible refine wpTxt_s ?_ ?_); rfl; intro _ _; go_simp) | ((with_reducible refine wpTxt_sw ?_ ?_); rfl; intro _ _; go_simp) | (with_reducible refine wpTxt_nil ?_) | ((with_reducible refine wp_region_t mixed ?_ ?_); decide +kernel; intro _ _))
          go_ret2
          exact tpost HO.out rfl (by have hL1 := hL.out; have hL3 := hL1.size; (repeat (first | with_reducible assumption | with_reducible exact Below.refl _ _ | ((with_reducible refine Below.setCell ?_ ?_ _); rotate_left; (· first | omega | (simp only [World.size_alloc, World.size_drew, World.size_setCell]; omega))) | ((with_reducible refine Below.alloc ?_ ?_ _); rotate_left; (· first | omega | (simp only [World.size_alloc, World.size_drew, World.size_setCell]; omega))) | ((with_reducible refine Below.drewN' ?_ _)) | ((with_reducible refine Below.drew ?_)))))
        | false =>
          have hl1 := (hf.out rfl).1
          have hl2 := (hf.out rfl).2
          have HO := Lib.hid (text_ok hF.out hbd.out (by rw [← hl1]; omega))
          have HE := Lib.hid hl1
          clear hl1
          go_wp2_with (first | ((with_reducible refine wpTxt_q ?_ ?_ ?_); rfl; rfl; intro _ _) | ((with_reducible refine wpTxt_w0 ?_ ?_ ?_); rfl; rfl; intro _ _) | ((with_reducible refine wpTxt_s ?_ ?_); rfl; intro _ _; go_simp) | ((with_reducible refine wpTxt_sw ?_ ?_); rfl; intro _ _; go_simp) | (with_reducible refine wpTxt_nil ?_) | ((with_reducible refine wp_region_t mixed ?_ ?_); decide +kernel; intro _ _) | (go_at_call 49; ((with_reducible refine (bString_l _ _ _ _ (bld_below hB.out ?_) ?_).mono ?_); (· (repeat (first | with_reducible assumption | with_reducible exact Below.refl _ _ | ((with_reducible refine Below.setCell ?_ ?_ _); rotate_left; (· first | omega | (simp only [World.size_alloc, World.size_drew, World.size_setCell]; omega))) | ((with_reducible refine Below.alloc ?_ ?_ _); rotate_left; (· first | omega | (simp only [World.size_alloc, World.size_drew, World.size_setCell]; omega))) | ((with_reducible refine Below.drewN' ?_ _)) | ((with_reducible refine Below.drew ?_))))); (· have := hL.out.size; simp; omega); rintro e w9 ⟨rfl, hb9⟩)))
          go_ret2
          exact tpost (l := l) (by rw [HO.out, HE.out]) rfl (by have hL1 := hL.out.alloc hL.out.size (.cells #[.int .i64 ts[k].kind, .string ts[k].text, .int .i64 ts[k].pos.1, .int .i64 ts[k].pos.2] 34) |>.trans hb9; (repeat (first | with_reducible assumption | with_reducible exact Below.refl _ _ | ((with_reducible refine Below.setCell ?_ ?_ _); rotate_left; (· first | omega | (simp only [World.size_alloc, World.size_drew, World.size_setCell]; omega))) | ((with_reducible refine Below.alloc ?_ ?_ _); rotate_left; (· first | omega | (simp only [World.size_alloc, World.size_drew, World.size_setCell]; omega))) | ((with_reducible refine Below.drewN' ?_ _)) | ((with_reducible refine Below.drew ?_)))))
      · obtain ⟨g1, g2⟩ := kd_f hk0
        have HK := Lib.hid hk0
        clear hk0
        go_upto_region 7 with (first | ((with_reducible refine wpTxt_q ?_ ?_ ?_); rfl; rfl; intro _ _) | ((with_reducible refine wpTxt_w0 ?_ ?_ ?_); rfl; rfl; intro _ _) | ((with_reducible refine wpTxt_s ?_ ?_); rfl; intro _ _; go_simp) | ((with_reducible refine wpTxt_sw ?_ ?_); rfl; intro _ _; go_simp) | (with_reducible refine wpTxt_nil ?_) | ((with_reducible refine wp_region_t mixed ?_ ?_); decide +kernel; intro _ _))
        generalize hw2 : wr.alloc _ = w2
        have hx2 : Below wr.heap.size wr w2 := by rw [← hw2]; (repeat (first | with_reducible assumption | with_reducible exact Below.refl _ _ | ((with_reducible refine Below.setCell ?_ ?_ _); rotate_left; (· first | omega | (simp only [World.size_alloc, World.size_drew, World.size_setCell]; omega))) | ((with_reducible refine Below.alloc ?_ ?_ _); rotate_left; (· first | omega | (simp only [World.size_alloc, World.size_drew, World.size_setCell]; omega))) | ((with_reducible refine Below.drewN' ?_ _)) | ((with_reducible refine Below.drew ?_))))
        have hT2 : Blk w2 wr.heap.size 34 #[.int .i64 ts[k].kind, .string ts[k].text, .int .i64 ts[k].pos.1, .int .i64 ts[k].pos.2] := by rw [← hw2]; exact Blk.fresh _ _ _
        have hbw : w.heap.size < wr.heap.size := by
          rcases hB.out with h | h
          · exact h.lt
          · exact h.lt
        have hL2 := hL.out.trans (hx2.mono hL.out.size)
        have HB2 := Lib.hid (bld_below hB.out hx2)
        have HT2 := Lib.hid hT2
        have HL2 := Lib.hid hL2
        obtain ⟨q0, q1, q2, q3, s0, s1, s2, s3⟩ := hT2.four
        have hz2 := hT2.lt
        clear hw2 hx2 hT2 hL2
        cases hok : ts[k].ok with
        | false =>
          have HO := Lib.hid (text_bad hF.out hlt HK.out hok)
          have hok' : checkB ts[k].kind ts[k].text.data.toList = false := hok
          clear hok
          go_wp2_with (first | ((with_reducible refine wpTxt_q ?_ ?_ ?_); rfl; rfl; intro _ _) | ((with_reducible refine wpTxt_w0 ?_ ?_ ?_); rfl; rfl; intro _ _) | ((with_reducible refine wpTxt_s ?_ ?_); rfl; intro _ _; go_simp) | ((with_reducible refine wpTxt_sw ?_ ?_); rfl; intro _ _; go_simp) | (with_reducible refine wpTxt_nil ?_) | ((with_reducible refine wp_region_t mixed ?_ ?_); decide +kernel; intro _ _) | (go_at_call 21; ((with_reducible refine (tCheck_any _ _ _ _ _ hx).mono ?_); rintro e w1 ⟨rfl, hb1⟩)))
          go_ret2
          exact tpost HO.out rfl (HL2.out.trans (hb1.mono HL2.out.size))
        | true =>
          have HF1 := Lib.hid (hF.out.succ hlt HK.out hok)
          have hok' : checkB ts[k].kind ts[k].text.data.toList = true := hok
          have HJ := Lib.hid (join_take hlt)
          clear hok
          cases b with
          | true =>
            go_wp2_with (first | ((with_reducible refine wpTxt_q ?_ ?_ ?_); rfl; rfl; intro _ _) | ((with_reducible refine wpTxt_w0 ?_ ?_ ?_); rfl; rfl; intro _ _) | ((with_reducible refine wpTxt_s ?_ ?_); rfl; intro _ _; go_simp) | ((with_reducible refine wpTxt_sw ?_ ?_); rfl; intro _ _; go_simp) | (with_reducible refine wpTxt_nil ?_) | ((with_reducible refine wp_region_t mixed ?_ ?_); decide +kernel; intro _ _) | (go_at_call 21; ((with_reducible refine (tCheck_any _ _ _ _ _ hx).mono ?_); rintro e w1 ⟨rfl, hb1⟩)))
            go_roundw
            case rel =>
              refine ⟨k + 1, true, l, by go_num, rfl, by omega, HF1.out, bld_below HB2.out hb1, HL2.out.trans (hb1.mono HL2.out.size), fun h => (by cases h), fun _ => ?_⟩
              have := ht.out trivial
              rw [HJ.out]; simp only [List.length_append]; omega
            case measure => simp [intOf]; omega
          | false =>
            have hl1 := (hf.out rfl).1
            have hl2 := (hf.out rfl).2
            have HE := Lib.hid hl1
            clear hl1
            by_cases hk1 : 0 < k
            · have HJ2 := Lib.hid (HJ.out.trans (by rw [if_pos hk1]))
              have hsz := hs2 k hlt
              by_cases h3 : ts[k].kind = 3
              · have hsrc : Hid (ts[k].src = 34 :: (ts[k].text.data.toList ++ [34])) := Lib.hid (if_pos h3)
                obtain ⟨g3, g4⟩ := kd_t h3
                clear h3
                go_wp2_with (first | ((with_reducible refine wpTxt_q ?_ ?_ ?_); rfl; rfl; intro _ _) | ((with_reducible refine wpTxt_w0 ?_ ?_ ?_); rfl; rfl; intro _ _) | ((with_reducible refine wpTxt_s ?_ ?_); rfl; intro _ _; go_simp) | ((with_reducible refine wpTxt_sw ?_ ?_); rfl; intro _ _; go_simp) | (with_reducible refine wpTxt_nil ?_) | ((with_reducible refine wp_region_t mixed ?_ ?_); decide +kernel; intro _ _) | (go_at_call 21; ((with_reducible refine (tCheck_any _ _ _ _ _ hx).mono ?_); rintro e w1 ⟨rfl, hb1⟩; have HB1 := Lib.hid (bld_below HB2.out hb1); have HT1 := Lib.hid (HT2.out.low hb1); have hL1 := HL2.out.trans (hb1.mono HL2.out.size); have HL1 := Lib.hid hL1; have hz1 := hL1.size; obtain ⟨c0, c1, c2, c3, d0, d1, d2, d3⟩ := HT1.out.four; have hlt1 := HT1.out.lt; clear hL1)) | (go_at_call 46; ((with_reducible refine (bWriteByte_sp w.heap.size w.heap.size l _ HB1.out ?_ ?_).mono ?_); (· omega); (· omega); rintro e w4 ⟨rfl, hB4, hb4, ho4⟩; have HB4 := Lib.hid hB4; have HT4 := Lib.hid (HT1.out.others ho4 (by omega) (by decide)); have HL4 := Lib.hid (HL1.out.trans hb4); have hz4 := hb4.size; obtain ⟨e0, e1, e2, e3, f0, f1, f2, f3⟩ := HT4.out.four; clear hB4 hb4 ho4)) | (go_at_call 47; ((with_reducible refine (bWriteString_l w.heap.size w.heap.size (l ++ [32]) _ _ HB4.out ?_ ?_ ?_).mono ?_); (· simp; omega); (· first | omega | (simp only [ByteArray.size_append]; show 1 + _ + 1 ≤ _; omega)); (· omega); rintro e w5 ⟨rfl, hB5, hb5, ho5⟩; have HB5 := Lib.hid hB5; have HL5 := Lib.hid (HL4.out.trans hb5); clear ho5)) | (go_at_call 48; ((with_reducible refine (bLen_l _ _ _ _ hB5).mono ?_); rintro e w' ⟨rfl, rfl⟩)))
                go_roundw
                case rel => exact text_step hlt HF1.out HB5.out HL5.out (by rw [HJ2.out, ← HE.out, hsrc.out]; simp) (by simp; try omega)
                case measure => simp [intOf]; omega
              · have hsrc : Hid (ts[k].src = ts[k].text.data.toList) := Lib.hid (if_neg h3)
                obtain ⟨g3, g4⟩ := kd_f h3
                clear h3
                go_wp2_with (first | ((with_reducible refine wpTxt_q ?_ ?_ ?_); rfl; rfl; intro _ _) | ((with_reducible refine wpTxt_w0 ?_ ?_ ?_); rfl; rfl; intro _ _) | ((with_reducible refine wpTxt_s ?_ ?_); rfl; intro _ _; go_simp) | ((with_reducible refine wpTxt_sw ?_ ?_); rfl; intro _ _; go_simp) | (with_reducible refine wpTxt_nil ?_) | ((with_reducible refine wp_region_t mixed ?_ ?_); decide +kernel; intro _ _) | (go_at_call 21; ((with_reducible refine (tCheck_any _ _ _ _ _ hx).mono ?_); rintro e w1 ⟨rfl, hb1⟩; have HB1 := Lib.hid (bld_below HB2.out hb1); have HT1 := Lib.hid (HT2.out.low hb1); have hL1 := HL2.out.trans (hb1.mono HL2.out.size); have HL1 := Lib.hid hL1; have hz1 := hL1.size; obtain ⟨c0, c1, c2, c3, d0, d1, d2, d3⟩ := HT1.out.four; have hlt1 := HT1.out.lt; clear hL1)) | (go_at_call 46; ((with_reducible refine (bWriteByte_sp w.heap.size w.heap.size l _ HB1.out ?_ ?_).mono ?_); (· omega); (· omega); rintro e w4 ⟨rfl, hB4, hb4, ho4⟩; have HB4 := Lib.hid hB4; have HT4 := Lib.hid (HT1.out.others ho4 (by omega) (by decide)); have HL4 := Lib.hid (HL1.out.trans hb4); have hz4 := hb4.size; obtain ⟨e0, e1, e2, e3, f0, f1, f2, f3⟩ := HT4.out.four; clear hB4 hb4 ho4)) | (go_at_call 47; ((with_reducible refine (bWriteString_l w.heap.size w.heap.size (l ++ [32]) _ _ HB4.out ?_ ?_ ?_).mono ?_); (· simp; omega); (· first | omega | (simp only [ByteArray.size_append]; show 1 + _ + 1 ≤ _; omega)); (· omega); rintro e w5 ⟨rfl, hB5, hb5, ho5⟩; have HB5 := Lib.hid hB5; have HL5 := Lib.hid (HL4.out.trans hb5); clear ho5)) | (go_at_call 48; ((with_reducible refine (bLen_l _ _ _ _ hB5).mono ?_); rintro e w' ⟨rfl, rfl⟩)))
                go_roundw
                case rel => exact text_step hlt HF1.out HB5.out HL5.out (by rw [HJ2.out, ← HE.out, hsrc.out]; simp) (by simp; try omega)
                case measure => simp [intOf]; omega
            · have HJ2 := Lib.hid (HJ.out.trans (by rw [if_neg hk1]))
              have hsz := hs2 k hlt
              by_cases h3 : ts[k].kind = 3
              · have hsrc : Hid (ts[k].src = 34 :: (ts[k].text.data.toList ++ [34])) := Lib.hid (if_pos h3)
                obtain ⟨g3, g4⟩ := kd_t h3
                clear h3
                go_wp2_with (first | ((with_reducible refine wpTxt_q ?_ ?_ ?_); rfl; rfl; intro _ _) | ((with_reducible refine wpTxt_w0 ?_ ?_ ?_); rfl; rfl; intro _ _) | ((with_reducible refine wpTxt_s ?_ ?_); rfl; intro _ _; go_simp) | ((with_reducible refine wpTxt_sw ?_ ?_); rfl; intro _ _; go_simp) | (with_reducible refine wpTxt_nil ?_) | ((with_reducible refine wp_region_t mixed ?_ ?_); decide +kernel; intro _ _) | (go_at_call 21; ((with_reducible refine (tCheck_any _ _ _ _ _ hx).mono ?_); rintro e w1 ⟨rfl, hb1⟩; have HB1 := Lib.hid (bld_below HB2.out hb1); have HT1 := Lib.hid (HT2.out.low hb1); have hL1 := HL2.out.trans (hb1.mono HL2.out.size); have HL1 := Lib.hid hL1; have hz1 := hL1.size; obtain ⟨c0, c1, c2, c3, d0, d1, d2, d3⟩ := HT1.out.four; have hlt1 := HT1.out.lt; clear hL1)) | (go_at_call 47; ((with_reducible refine (bWriteString_l w.heap.size w.heap.size l _ _ HB1.out ?_ ?_ ?_).mono ?_); (· omega); (· first | omega | (simp only [ByteArray.size_append]; show 1 + _ + 1 ≤ _; omega)); (· omega); rintro e w5 ⟨rfl, hB5, hb5, ho5⟩; have HB5 := Lib.hid hB5; have HL5 := Lib.hid (HL1.out.trans hb5); clear ho5)) | (go_at_call 48; ((with_reducible refine (bLen_l _ _ _ _ hB5).mono ?_); rintro e w' ⟨rfl, rfl⟩)))
                go_roundw
                case rel => exact text_step hlt HF1.out HB5.out HL5.out (by rw [HJ2.out, ← HE.out, hsrc.out]; simp) (by simp; try omega)
                case measure => simp [intOf]; omega
              · have hsrc : Hid (ts[k].src = ts[k].text.data.toList) := Lib.hid (if_neg h3)
                obtain ⟨g3, g4⟩ := kd_f h3
                clear h3
                go_wp2_with (first | ((with_reducible refine wpTxt_q ?_ ?_ ?_); rfl; rfl; intro _ _) | ((with_reducible refine wpTxt_w0 ?_ ?_ ?_); rfl; rfl; intro _ _) | ((with_reducible refine wpTxt_s ?_ ?_); rfl; intro _ _; go_simp) | ((with_reducible refine wpTxt_sw ?_ ?_); rfl; intro _ _; go_simp) | (with_reducible refine wpTxt_nil ?_) | ((with_reducible refine wp_region_t mixed ?_ ?_); decide +kernel; intro _ _) | (go_at_call 21; ((with_reducible refine (tCheck_any _ _ _ _ _ hx).mono ?_); rintro e w1 ⟨rfl, hb1⟩; have HB1 := Lib.hid (bld_below HB2.out hb1); have HT1 := Lib.hid (HT2.out.low hb1); have hL1 := HL2.out.trans (hb1.mono HL2.out.size); have HL1 := Lib.hid hL1; have hz1 := hL1.size; obtain ⟨c0, c1, c2, c3, d0, d1, d2, d3⟩ := HT1.out.four; have hlt1 := HT1.out.lt; clear hL1)) | (go_at_call 47; ((with_reducible refine (bWriteString_l w.heap.size w.heap.size l _ _ HB1.out ?_ ?_ ?_).mono ?_); (· omega); (· first | omega | (simp only [ByteArray.size_append]; show 1 + _ + 1 ≤ _; omega)); (· omega); rintro e w5 ⟨rfl, hB5, hb5, ho5⟩; have HB5 := Lib.hid hB5; have HL5 := Lib.hid (HL1.out.trans hb5); clear ho5)) | (go_at_call 48; ((with_reducible refine (bLen_l _ _ _ _ hB5).mono ?_); rintro e w' ⟨rfl, rfl⟩)))
                go_roundw
                case rel => exact text_step hlt HF1.out HB5.out HL5.out (by rw [HJ2.out, ← HE.out, hsrc.out]; simp) (by simp; try omega)
                case measure => simp [intOf]; omega
    · have hbd : Hid (body ts = ts.take k) := Lib.hid (hF.out.body1 (by omega))
      cases b with
      | true =>
        have HO := Lib.hid (text_long hF.out hbd.out (ht.out rfl))
        go_wp2_with (first | ((with_reducible refine wpTxt_q ?_ ?_ ?_); rfl; rfl; intro _ _) | ((with_reducible refine wpTxt_w0 ?_ ?_ ?_); rfl; rfl; intro _ _) | ((with_reducible refine wpTxt_s ?_ ?_); rfl; intro _ _; go_simp) | ((with_reducible refine wpTxt_sw ?_ ?_); rfl; intro _ _; go_simp) | (with_reducible refine wpTxt_nil ?_) | ((with_reducible refine wp_region_t mixed ?_ ?_); decide +kernel; intro _ _))
        go_ret2
        exact tpost HO.out rfl (by have hL1 := hL.out; have hL3 := hL1.size; (repeat (first | with_reducible assumption | with_reducible exact Below.refl _ _ | ((with_reducible refine Below.setCell ?_ ?_ _); rotate_left; (· first | omega | (simp only [World.size_alloc, World.size_drew, World.size_setCell]; omega))) | ((with_reducible refine Below.alloc ?_ ?_ _); rotate_left; (· first | omega | (simp only [World.size_alloc, World.size_drew, World.size_setCell]; omega))) | ((with_reducible refine Below.drewN' ?_ _)) | ((with_reducible refine Below.drew ?_)))))
      | false =>
        have hl1 := (hf.out rfl).1
        have hl2 := (hf.out rfl).2
        have HO := Lib.hid (text_ok hF.out hbd.out (by rw [← hl1]; omega))
        have HE := Lib.hid hl1
        clear hl1
        go_wp2_with (first | ((with_reducible refine wpTxt_q ?_ ?_ ?_); rfl; rfl; intro _ _) | ((with_reducible refine wpTxt_w0 ?_ ?_ ?_); rfl; rfl; intro _ _) | ((with_reducible refine wpTxt_s ?_ ?_); rfl; intro _ _; go_simp) | ((with_reducible refine wpTxt_sw ?_ ?_); rfl; intro _ _; go_simp) | (with_reducible refine wpTxt_nil ?_) | ((with_reducible refine wp_region_t mixed ?_ ?_); decide +kernel; intro _ _) | (go_at_call 49; ((with_reducible refine (bString_l _ _ _ _ hB.out ?_).mono ?_); (· have := hL.out.size; omega); rintro e w9 ⟨rfl, hb9⟩)))
        go_ret2
        exact tpost (l := l) (by rw [HO.out, HE.out]) rfl (by have hL1 := hL.out.trans hb9; (repeat (first | with_reducible assumption | with_reducible exact Below.refl _ _ | ((with_reducible refine Below.setCell ?_ ?_ _); rotate_left; (· first | omega | (simp only [World.size_alloc, World.size_drew, World.size_setCell]; omega))) | ((with_reducible refine Below.alloc ?_ ?_ _); rotate_left; (· first | omega | (simp only [World.size_alloc, World.size_drew, World.size_setCell]; omega))) | ((with_reducible refine Below.drewN' ?_ _)) | ((with_reducible refine Below.drew ?_)))))

def RTextRel (ts : List Tok) (w : World) (s i : Value) (wr : World) : Prop :=
  ∃ (k : Nat) (u : ByteArray), i = .int .i64 k ∧ s = .string u ∧ k ≤ ts.length ∧ Hid (Fine ts k) ∧ u.size ≤ k * 70010 ∧ Hid (Below w.heap.size w wr) ∧ Hid (u.data.toList = joinF false (ts.take k))
theorem ba_eq {s : ByteArray} {l : List UInt8} (h : s.data.toList = l) : s = ⟨l.toArray⟩ := by
  obtain ⟨⟨m⟩⟩ := s
  simp only at h
  rw [h]
set_option maxHeartbeats 1000000 in
theorem rText_any (ts : List Tok) (v : Value) (w : World) (ha : Toks w v ts) (hs : Small ts) : Calls Try.prog 25 #[v] w (TPost ts w) := by
  obtain ⟨ao, ca, rfl, a1, a2, a3⟩ := ha
  have hm := a2
  obtain ⟨hs1, hs2⟩ := hs
  unfold maxLen at a2
  go_enter Try.func25, Try.ntmps25
  go_wp2_with (first | ((with_reducible refine wpTxt_q ?_ ?_ ?_); rfl; rfl; intro _ _) | ((with_reducible refine wpTxt_w0 ?_ ?_ ?_); rfl; rfl; intro _ _) | ((with_reducible refine wpTxt_s ?_ ?_); rfl; intro _ _; go_simp) | ((with_reducible refine wpTxt_sw ?_ ?_); rfl; intro _ _; go_simp) | (with_reducible refine wpTxt_nil ?_) | ((with_reducible refine wp_region_t mixed ?_ ?_); decide +kernel; intro _ _))
  go_loopw [4, 5] (fun s i wr => RTextRel ts w s i wr) (fun _ i _ => ts.length - (intOf i).toNat)
  case atStart => exact ⟨0, _, rfl, rfl, by omega, fun j hj => absurd hj (by omega), Nat.zero_le _, Below.refl _ _, rfl⟩
  case round =>
    obtain ⟨k, u, rfl, rfl, hk, hF, hub, hL, hu⟩ := hrel
    have fin : ∀ (w' : World), Below w.heap.size w w' → body ts = ts.take k → ∀ c : Bool, c = decide ((65536 : Int) < u.size) → TPost ts w (if c = true then .returned (.tuple #[.string ⟨#[]⟩, .int .i64 4]) else .returned (.tuple #[.string u, .int .i64 0])) w' := by
      intro w' hw hb c hc
      have e : u.size = (joinF false (ts.take k)).length := by rw [← hu.out]; simp
      by_cases hlg : 65536 < u.size
      · rw [if_pos (by rw [hc]; simp; omega)]
        exact tpost (text_long hF.out hb (by omega)) rfl hw
      · rw [if_neg (by rw [hc]; simp; omega)]
        exact tpost (text_ok hF.out hb (by omega)) (ba_eq hu.out) hw
    have FIN := Lib.hid fin
    clear fin
    by_cases hlt : k < ts.length
    · rcases a3 with h0' | ⟨ga, oa, rfl, hga, hca⟩
      · omega
      have hx : ts[k].text.size ≤ maxLen := by have := hs2 k hlt; unfold maxLen; omega
      have HC := Lib.hid (hca.of (hL.out.block ga hga))
      obtain ⟨p0, p1, p2, p3⟩ := HC.out k hlt
      clear hca
      by_cases hk0 : ts[k].kind = 0
      · obtain ⟨g1, g2⟩ := kd_t hk0
        have hbd : Hid (body ts = ts.take k) := Lib.hid (hF.out.body0 hlt hk0)
        clear hk0
        by_cases hlg : 65536 < u.size
        · go_wp2_with (first | ((with_reducible refine wpTxt_q ?_ ?_ ?_); rfl; rfl; intro _ _) | ((with_reducible refine wpTxt_w0 ?_ ?_ ?_); rfl; rfl; intro _ _) | ((with_reducible refine wpTxt_s ?_ ?_); rfl; intro _ _; go_simp) | ((with_reducible refine wpTxt_sw ?_ ?_); rfl; intro _ _; go_simp) | (with_reducible refine wpTxt_nil ?_) | ((with_reducible refine wp_region_t mixed ?_ ?_); decide +kernel; intro _ _))
          go_ret2
          exact (FIN.out _ (by have hL1 := hL.out; (repeat (first | with_reducible assumption | with_reducible exact Below.refl _ _ | ((with_reducible refine Below.setCell ?_ ?_ _); rotate_left; (· first | omega | (simp only [World.size_alloc, World.size_drew, World.size_setCell]; omega))) | ((with_reducible refine Below.alloc ?_ ?_ _); rotate_left; (· first | omega | (simp only [World.size_alloc, World.size_drew, World.size_setCell]; omega))) | ((with_reducible refine Below.drewN' ?_ _)) | ((with_reducible refine Below.drew ?_))))) hbd.out true (by simp; omega))
        · go_wp2_with (first | ((with_reducible refine wpTxt_q ?_ ?_ ?_); rfl; rfl; intro _ _) | ((with_reducible refine wpTxt_w0 ?_ ?_ ?_); rfl; rfl; intro _ _) | ((with_reducible refine wpTxt_s ?_ ?_); rfl; intro _ _; go_simp) | ((with_reducible refine wpTxt_sw ?_ ?_); rfl; intro _ _; go_simp) | (with_reducible refine wpTxt_nil ?_) | ((with_reducible refine wp_region_t mixed ?_ ?_); decide +kernel; intro _ _))
          go_ret2
          exact (FIN.out _ (by have hL1 := hL.out; (repeat (first | with_reducible assumption | with_reducible exact Below.refl _ _ | ((with_reducible refine Below.setCell ?_ ?_ _); rotate_left; (· first | omega | (simp only [World.size_alloc, World.size_drew, World.size_setCell]; omega))) | ((with_reducible refine Below.alloc ?_ ?_ _); rotate_left; (· first | omega | (simp only [World.size_alloc, World.size_drew, World.size_setCell]; omega))) | ((with_reducible refine Below.drewN' ?_ _)) | ((with_reducible refine Below.drew ?_))))) hbd.out false (by simp; omega))
      · obtain ⟨g1, g2⟩ := kd_f hk0
        have HK := Lib.hid hk0
        clear hk0
        cases hok : ts[k].ok with
        | false =>
          have HO := Lib.hid (text_bad hF.out hlt HK.out hok)
          have hok' : checkB ts[k].kind ts[k].text.data.toList = false := hok
          clear hok
          go_wp2_with (first | ((with_reducible refine wpTxt_q ?_ ?_ ?_); rfl; rfl; intro _ _) | ((with_reducible refine wpTxt_w0 ?_ ?_ ?_); rfl; rfl; intro _ _) | ((with_reducible refine wpTxt_s ?_ ?_); rfl; intro _ _; go_simp) | ((with_reducible refine wpTxt_sw ?_ ?_); rfl; intro _ _; go_simp) | (with_reducible refine wpTxt_nil ?_) | ((with_reducible refine wp_region_t mixed ?_ ?_); decide +kernel; intro _ _) | (go_at_call 22; ((with_reducible refine (rCheck_any _ _ _ _ _ hx).mono ?_); rintro e w1 ⟨rfl, hb1⟩; have HL1 := Lib.hid (hL.out.trans (hb1.mono hL.out.size)); have HC1 := Lib.hid (HC.out.of (hb1.block ga (by have := hL.out.size; omega))); obtain ⟨c0, c1, c2, c3⟩ := HC1.out k hlt)))
          go_ret2
          exact tpost HO.out rfl HL1.out
        | true =>
          have HF1 := Lib.hid (hF.out.succ hlt HK.out hok)
          have hok' : checkB ts[k].kind ts[k].text.data.toList = true := hok
          have HJ := Lib.hid (join_take hlt)
          have hsz := hs2 k hlt
          clear hok
          by_cases hk1 : 0 < k
          · have HJ2 := Lib.hid (HJ.out.trans (by rw [if_pos hk1]))
            by_cases h3 : ts[k].kind = 3
            · have hsrc : Hid (ts[k].src = 34 :: (ts[k].text.data.toList ++ [34])) := Lib.hid (if_pos h3)
              obtain ⟨g3, g4⟩ := kd_t h3
              clear h3
              go_wp2_with (first | ((with_reducible refine wpTxt_q ?_ ?_ ?_); rfl; rfl; intro _ _) | ((with_reducible refine wpTxt_w0 ?_ ?_ ?_); rfl; rfl; intro _ _) | ((with_reducible refine wpTxt_s ?_ ?_); rfl; intro _ _; go_simp) | ((with_reducible refine wpTxt_sw ?_ ?_); rfl; intro _ _; go_simp) | (with_reducible refine wpTxt_nil ?_) | ((with_reducible refine wp_region_t mixed ?_ ?_); decide +kernel; intro _ _) | (go_at_call 22; ((with_reducible refine (rCheck_any _ _ _ _ _ hx).mono ?_); rintro e w1 ⟨rfl, hb1⟩; have HL1 := Lib.hid (hL.out.trans (hb1.mono hL.out.size)); have HC1 := Lib.hid (HC.out.of (hb1.block ga (by have := hL.out.size; omega))); obtain ⟨c0, c1, c2, c3⟩ := HC1.out k hlt)))
              go_roundw
              case rel => exact ⟨k + 1, _, by go_num, rfl, by omega, HF1.out, (by simp only [ByteArray.size_append]; (try show _ + 1 + _ ≤ _); (try show _ + 1 + _ + 1 ≤ _); (try show _ + 1 + 1 + _ + 1 ≤ _); omega), (by have hL1 := HL1.out; (repeat (first | with_reducible assumption | with_reducible exact Below.refl _ _ | ((with_reducible refine Below.setCell ?_ ?_ _); rotate_left; (· first | omega | (simp only [World.size_alloc, World.size_drew, World.size_setCell]; omega))) | ((with_reducible refine Below.alloc ?_ ?_ _); rotate_left; (· first | omega | (simp only [World.size_alloc, World.size_drew, World.size_setCell]; omega))) | ((with_reducible refine Below.drewN' ?_ _)) | ((with_reducible refine Below.drew ?_))))), by show _ = _; rw [HJ2.out, ← hu.out, hsrc.out]; simp⟩
              case measure => simp [intOf]; omega
            · have hsrc : Hid (ts[k].src = ts[k].text.data.toList) := Lib.hid (if_neg h3)
              obtain ⟨g3, g4⟩ := kd_f h3
              clear h3
              go_wp2_with (first | ((with_reducible refine wpTxt_q ?_ ?_ ?_); rfl; rfl; intro _ _) | ((with_reducible refine wpTxt_w0 ?_ ?_ ?_); rfl; rfl; intro _ _) | ((with_reducible refine wpTxt_s ?_ ?_); rfl; intro _ _; go_simp) | ((with_reducible refine wpTxt_sw ?_ ?_); rfl; intro _ _; go_simp) | (with_reducible refine wpTxt_nil ?_) | ((with_reducible refine wp_region_t mixed ?_ ?_); decide +kernel; intro _ _) | (go_at_call 22; ((with_reducible refine (rCheck_any _ _ _ _ _ hx).mono ?_); rintro e w1 ⟨rfl, hb1⟩; have HL1 := Lib.hid (hL.out.trans (hb1.mono hL.out.size)); have HC1 := Lib.hid (HC.out.of (hb1.block ga (by have := hL.out.size; omega))); obtain ⟨c0, c1, c2, c3⟩ := HC1.out k hlt)))
              go_roundw
              case rel => exact ⟨k + 1, _, by go_num, rfl, by omega, HF1.out, (by simp only [ByteArray.size_append]; (try show _ + 1 + _ ≤ _); (try show _ + 1 + _ + 1 ≤ _); (try show _ + 1 + 1 + _ + 1 ≤ _); omega), (by have hL1 := HL1.out; (repeat (first | with_reducible assumption | with_reducible exact Below.refl _ _ | ((with_reducible refine Below.setCell ?_ ?_ _); rotate_left; (· first | omega | (simp only [World.size_alloc, World.size_drew, World.size_setCell]; omega))) | ((with_reducible refine Below.alloc ?_ ?_ _); rotate_left; (· first | omega | (simp only [World.size_alloc, World.size_drew, World.size_setCell]; omega))) | ((with_reducible refine Below.drewN' ?_ _)) | ((with_reducible refine Below.drew ?_))))), by show _ = _; rw [HJ2.out, ← hu.out, hsrc.out]; simp⟩
              case measure => simp [intOf]; omega
          · have HJ2 := Lib.hid (HJ.out.trans (by rw [if_neg hk1]))
            by_cases h3 : ts[k].kind = 3
            · have hsrc : Hid (ts[k].src = 34 :: (ts[k].text.data.toList ++ [34])) := Lib.hid (if_pos h3)
              obtain ⟨g3, g4⟩ := kd_t h3
              clear h3
              go_wp2_with (first | ((with_reducible refine wpTxt_q ?_ ?_ ?_); rfl; rfl; intro _ _) | ((with_reducible refine wpTxt_w0 ?_ ?_ ?_); rfl; rfl; intro _ _) | ((with_reducible refine wpTxt_s ?_ ?_); rfl; intro _ _; go_simp) | ((with_reducible refine wpTxt_sw ?_ ?_); rfl; intro _ _; go_simp) | (with_reducible refine wpTxt_nil ?_) | ((with_reducible refine wp_region_t mixed ?_ ?_); decide +kernel; intro _ _) | (go_at_call 22; ((with_reducible refine (rCheck_any _ _ _ _ _ hx).mono ?_); rintro e w1 ⟨rfl, hb1⟩; have HL1 := Lib.hid (hL.out.trans (hb1.mono hL.out.size)); have HC1 := Lib.hid (HC.out.of (hb1.block ga (by have := hL.out.size; omega))); obtain ⟨c0, c1, c2, c3⟩ := HC1.out k hlt)))
              go_roundw
              case rel => exact ⟨k + 1, _, by go_num, rfl, by omega, HF1.out, (by simp only [ByteArray.size_append]; (try show _ + 1 + _ ≤ _); (try show _ + 1 + _ + 1 ≤ _); (try show _ + 1 + 1 + _ + 1 ≤ _); omega), (by have hL1 := HL1.out; (repeat (first | with_reducible assumption | with_reducible exact Below.refl _ _ | ((with_reducible refine Below.setCell ?_ ?_ _); rotate_left; (· first | omega | (simp only [World.size_alloc, World.size_drew, World.size_setCell]; omega))) | ((with_reducible refine Below.alloc ?_ ?_ _); rotate_left; (· first | omega | (simp only [World.size_alloc, World.size_drew, World.size_setCell]; omega))) | ((with_reducible refine Below.drewN' ?_ _)) | ((with_reducible refine Below.drew ?_))))), by show _ = _; rw [HJ2.out, ← hu.out, hsrc.out]; simp⟩
              case measure => simp [intOf]; omega
            · have hsrc : Hid (ts[k].src = ts[k].text.data.toList) := Lib.hid (if_neg h3)
              obtain ⟨g3, g4⟩ := kd_f h3
              clear h3
              go_wp2_with (first | ((with_reducible refine wpTxt_q ?_ ?_ ?_); rfl; rfl; intro _ _) | ((with_reducible refine wpTxt_w0 ?_ ?_ ?_); rfl; rfl; intro _ _) | ((with_reducible refine wpTxt_s ?_ ?_); rfl; intro _ _; go_simp) | ((with_reducible refine wpTxt_sw ?_ ?_); rfl; intro _ _; go_simp) | (with_reducible refine wpTxt_nil ?_) | ((with_reducible refine wp_region_t mixed ?_ ?_); decide +kernel; intro _ _) | (go_at_call 22; ((with_reducible refine (rCheck_any _ _ _ _ _ hx).mono ?_); rintro e w1 ⟨rfl, hb1⟩; have HL1 := Lib.hid (hL.out.trans (hb1.mono hL.out.size)); have HC1 := Lib.hid (HC.out.of (hb1.block ga (by have := hL.out.size; omega))); obtain ⟨c0, c1, c2, c3⟩ := HC1.out k hlt)))
              go_roundw
              case rel => exact ⟨k + 1, _, by go_num, rfl, by omega, HF1.out, (by simp only [ByteArray.size_append]; (try show _ + 1 + _ ≤ _); (try show _ + 1 + _ + 1 ≤ _); (try show _ + 1 + 1 + _ + 1 ≤ _); omega), (by have hL1 := HL1.out; (repeat (first | with_reducible assumption | with_reducible exact Below.refl _ _ | ((with_reducible refine Below.setCell ?_ ?_ _); rotate_left; (· first | omega | (simp only [World.size_alloc, World.size_drew, World.size_setCell]; omega))) | ((with_reducible refine Below.alloc ?_ ?_ _); rotate_left; (· first | omega | (simp only [World.size_alloc, World.size_drew, World.size_setCell]; omega))) | ((with_reducible refine Below.drewN' ?_ _)) | ((with_reducible refine Below.drew ?_))))), by show _ = _; rw [HJ2.out, ← hu.out, hsrc.out]; simp⟩
              case measure => simp [intOf]; omega
    · have hbd : Hid (body ts = ts.take k) := Lib.hid (hF.out.body1 (by omega))
      by_cases hlg : 65536 < u.size
      · go_wp2_with (first | ((with_reducible refine wpTxt_q ?_ ?_ ?_); rfl; rfl; intro _ _) | ((with_reducible refine wpTxt_w0 ?_ ?_ ?_); rfl; rfl; intro _ _) | ((with_reducible refine wpTxt_s ?_ ?_); rfl; intro _ _; go_simp) | ((with_reducible refine wpTxt_sw ?_ ?_); rfl; intro _ _; go_simp) | (with_reducible refine wpTxt_nil ?_) | ((with_reducible refine wp_region_t mixed ?_ ?_); decide +kernel; intro _ _))
        go_ret2
        exact (FIN.out _ (by have hL1 := hL.out; (repeat (first | with_reducible assumption | with_reducible exact Below.refl _ _ | ((with_reducible refine Below.setCell ?_ ?_ _); rotate_left; (· first | omega | (simp only [World.size_alloc, World.size_drew, World.size_setCell]; omega))) | ((with_reducible refine Below.alloc ?_ ?_ _); rotate_left; (· first | omega | (simp only [World.size_alloc, World.size_drew, World.size_setCell]; omega))) | ((with_reducible refine Below.drewN' ?_ _)) | ((with_reducible refine Below.drew ?_))))) hbd.out true (by simp; omega))
      · go_wp2_with (first | ((with_reducible refine wpTxt_q ?_ ?_ ?_); rfl; rfl; intro _ _) | ((with_reducible refine wpTxt_w0 ?_ ?_ ?_); rfl; rfl; intro _ _) | ((with_reducible refine wpTxt_s ?_ ?_); rfl; intro _ _; go_simp) | ((with_reducible refine wpTxt_sw ?_ ?_); rfl; intro _ _; go_simp) | (with_reducible refine wpTxt_nil ?_) | ((with_reducible refine wp_region_t mixed ?_ ?_); decide +kernel; intro _ _))
        go_ret2
        exact (FIN.out _ (by have hL1 := hL.out; (repeat (first | with_reducible assumption | with_reducible exact Below.refl _ _ | ((with_reducible refine Below.setCell ?_ ?_ _); rotate_left; (· first | omega | (simp only [World.size_alloc, World.size_drew, World.size_setCell]; omega))) | ((with_reducible refine Below.alloc ?_ ?_ _); rotate_left; (· first | omega | (simp only [World.size_alloc, World.size_drew, World.size_setCell]; omega))) | ((with_reducible refine Below.drewN' ?_ _)) | ((with_reducible refine Below.drew ?_))))) hbd.out false (by simp; omega))
end Go.Proofs.Ytffflmghfcgkfaa
