/- Rd, Hw, L1, M6 -/
import Derived.Deep.Cut
import Derived.Outline
import Derived.Test.YtbobbbhgdfapjaaGreatZB1
import Derived.Test.YtbobbbhgdfapjaaGreatZB2
import Derived.Test.YtbobbbhgdfapjaaGreatZB3
import Derived.Test.YtbobbbhgdfapjaaGreatZB4
import Derived.Test.YtbobbbhgdfapjaaGreatZBt1
import Derived.Test.YtbobbbhgdfapjaaGreatZB5
import Derived.Test.YtbobbbhgdfapjaaGreatZB11
import Derived.Test.YtbobbbhgdfapjaaGreatZB12
import Derived.Test.YtbobbbhgdfapjaaGreatZB13
import Derived.Test.YtbobbbhgdfapjaaGreatZB14
import Derived.Test.YtbobbbhgdfapjaaGreatZB15
import Derived.Test.YtbobbbhgdfapjaaGreatZB16
import Derived.Test.YtbobbbhgdfapjaaGreatZB31
import Derived.Test.YtbobbbhgdfapjaaGreatZB6
import Derived.Test.YtbobbbhgdfapjaaGreatZB7
import Derived.Test.YtbobbbhgdfapjaaGreatZBkt1
import Derived.Test.YtbobbbhgdfapjaaGreatZB10
import Derived.Test.YtbobbbhgdfapjaaGreatZB17
import Derived.Test.YtbobbbhgdfapjaaGreatZB18
import Derived.Test.YtbobbbhgdfapjaaGreatZB19
import Derived.Test.YtbobbbhgdfapjaaGreatZB20
import Derived.Test.YtbobbbhgdfapjaaGreatZBikst1
import Derived.Test.YtbobbbhgdfapjaaGreatZB21
import Derived.Test.YtbobbbhgdfapjaaGreatZBkt2
import Derived.Test.YtbobbbhgdfapjaaGreatZBkt3
import Derived.Test.YtbobbbhgdfapjaaGreatZB32
import Derived.Test.YtbobbbhgdfapjaaGreatZBkt4
import Derived.Test.YtbobbbhgdfapjaaGreatZB8
import Derived.Test.YtbobbbhgdfapjaaGreatZB9
import Derived.Test.YtbobbbhgdfapjaaGreatZBnk1
import Derived.Test.YtbobbbhgdfapjaaGreatZB22
import Derived.Test.YtbobbbhgdfapjaaGreatZB23
import Derived.Test.YtbobbbhgdfapjaaGreatZB24
import Derived.Test.YtbobbbhgdfapjaaGreatZB25
import Derived.Test.YtbobbbhgdfapjaaGreatZBncv1
import Derived.Test.YtbobbbhgdfapjaaGreatZB26
import Derived.Test.YtbobbbhgdfapjaaGreatZB27
import Derived.Test.YtbobbbhgdfapjaaGreatZB28
import Derived.Test.YtbobbbhgdfapjaaGreatZB29
import Derived.Test.YtbobbbhgdfapjaaGreatZB30
import Derived.Test.YtbobbbhgdfapjaaGreatZB33
import Derived.Test.YtbobbbhgdfapjaaGreatZB34
import Derived.Test.YtbobbbhgdfapjaaGreatZB35
set_option linter.unusedSimpArgs false
set_option linter.unusedVariables false
namespace Go.Proofs.YtbobbbhgdfapjaaGreat
set_option maxHeartbeats 8000000
set_option maxRecDepth 100000
open Go.RowKit Tk

theorem oneR_off (l : List UInt8) (c : Int) (off : Nat) (h : oneR l = .err c off) : off ≤ l.length := by
 unfold oneR nameR numR Tk.textR markR at h
 split at h
 · split at h
   · injection h with h1 h2; omega
   · cases h
 · split at h
   · split at h
     · injection h with h1 h2; omega
     · split at h
       · injection h with h1 h2; omega
       · cases h
   · split at h
     · split at h
       · injection h with h1 h2; omega
       · split at h
         · rename_i h3 _
           rw [List.length_drop] at h3
           injection h with h1 h2; omega
         · split at h
           · injection h with h1 h2; omega
           · cases h
     · split at h
       · injection h with h1 h2; omega
       · cases h
theorem rLocate_nat (src : ByteArray) (i : Int) (n : Nat) (hi : i = n) (w : World) (hs : src.size ≤ 65536) (h : n ≤ src.size) : Calls Tryz.prog 86 #[.string src, .int .i64 i] w fun e w' =>
    e = .returned (.agg #[.int .i64 (loc src.data.toList n).1, .int .i64 (loc src.data.toList n).2]) ∧ Below w.heap.size w w' := by
 subst hi
 refine (rLocate_any src n w hs (by omega)).mono fun e w' h' => ?_
 unfold LocPost at h'
 rwa [locI_in h] at h'
theorem rOne_err (src : ByteArray) (k : Nat) (w : World) (hs : src.size ≤ 65536) (hk : k < src.size) (c : Int) (off : Nat) (ho : oneR (src.data.toList.drop k) = .err c off) : Calls Tryz.prog 85 #[.string src, .int .i64 k] w fun e w' =>
    ∃ x y : Int, e = .returned (.tuple #[.int .i64 x, .int .i64 y, .int .i64 c, .int .i64 ((k + off : Nat) : Int)]) ∧ w = w' :=
 (rOne_any src k w hs hk).mono fun e w' ⟨x, y, h1, h2⟩ => ⟨x, y, by rw [h1, ho]; rfl, h2⟩
theorem rOne_ok (src : ByteArray) (k : Nat) (w : World) (hs : src.size ≤ 65536) (hk : k < src.size) (kd : Int) (n : Nat) (ho : oneR (src.data.toList.drop k) = .ok kd n) : Calls Tryz.prog 85 #[.string src, .int .i64 k] w fun e w' =>
    e = .returned (.tuple #[.int .i64 kd, .int .i64 ((k + n : Nat) : Int), .int .i64 0, .int .i64 0]) ∧ w = w' :=
 (rOne_any src k w hs hk).mono fun e w' ⟨x, y, h1, h2⟩ => ⟨by rw [h1, ho]; rfl, h2⟩
theorem rskip_zero (src : ByteArray) (w : World) (hs : src.size ≤ 65536) :
    Calls Tryz.prog 84 #[.string src, .int .i64 0] w fun e w' => e = .returned (.int .i64 ((0 + Tk.skipL false (src.data.toList.drop 0) : Nat) : Int)) ∧ w = w' := rskip_any src 0 w hs (by omega)

/-- what holds ahead of a round -/
def RefRel (src : ByteArray) (w : World) (v i : Value) (wr : World) : Prop :=
 ∃ (k k1 f : Nat) (acc : List Tok), k ≤ src.size ∧ i = .int .i64 k1 ∧ Hid (k1 = k + skipL false (src.data.toList.drop k)) ∧ Hid (src.size < k + f) ∧ Hid (acc.length ≤ k) ∧ Hid (SR.add acc (scanF src f k) = scanF src (src.size + 1) 0) ∧
   Hid (wr.ownsRow (w.heap.size + 1) 80 4 v acc.length (cellsT acc)) ∧
   Hid (Blk wr w.heap.size 46 #[.int .i64 0, .int .i64 0, .int .i64 0, .string ⟨#[]⟩]) ∧ Hid (Below w.heap.size w wr)

theorem oneR_3 (l : List UInt8) (kd : Int) (n : Nat) (h : oneR l = .ok kd n) (h3 : kd = 3) : 2 ≤ n := by
 unfold oneR nameR numR Tk.textR markR at h
 split at h
 · split at h
   · cases h
   · injection h with h1 h2; omega
 · split at h
   · split at h
     · cases h
     · split at h
       · cases h
       · injection h with h1 h2; omega
   · split at h
     · split at h
       · cases h
       · split at h
         · cases h
         · split at h
           · cases h
           · injection h with h1 h2; omega
     · split at h
       · cases h
       · injection h with h1 h2; omega
theorem rskip_nat (src : ByteArray) (i : Int) (n : Nat) (hi : i = n) (w : World) (hs : src.size ≤ 65536) (h : n ≤ src.size) :
    Calls Tryz.prog 84 #[.string src, .int .i64 i] w fun e w' => e = .returned (.int .i64 ((n + Tk.skipL false (src.data.toList.drop n) : Nat) : Int)) ∧ w = w' := by subst hi; exact rskip_any src n w hs h
theorem rScan_any (src : ByteArray) (w : World) : Calls Tryz.prog 55 #[.string src] w (ScanPost src w) := by
 by_cases hs : 65536 < src.size
 · have e0 : scanS src = .err 4 (0, 0) := by unfold scanS; rw [if_pos hs]
   have E0 := Lib.hid e0
   clear e0
   go_enter Tryz.func55, Tryz.ntmps55
   go_wp2_with (first | ((with_reducible refine wpTxt_q ?_ ?_ ?_); rfl; rfl; intro _ _) | ((with_reducible refine wpTxt_w0 ?_ ?_ ?_); rfl; rfl; intro _ _) | ((with_reducible refine wpTxt_s ?_ ?_); rfl; intro _ _; go_simp) | ((with_reducible refine wpTxt_sw ?_ ?_); rfl; intro _ _; go_simp) | (with_reducible refine wpTxt_nil ?_) | ((with_reducible refine wp_region_t mixed ?_ ?_); decide +kernel; intro _ _))
   refine bodyPost_ret (v := .tuple #[.slice none 0 0, flt 4 0 0]) (by simp [results, Tryz.f55, go_sem]) rfl ?_
   unfold ScanPost
   rw [E0.out]
   refine ⟨rfl, ?_⟩
   (repeat (first | (with_reducible first | assumption | exact Below.refl _ _ | refine Below.drewN' ?_ _ | refine Below.drew ?_) | ((with_reducible first | refine Below.setCell ?_ ?_ _ | refine Below.alloc ?_ ?_ _); rotate_left; (· first | omega | (simp only [szW]; omega) | (dsimp only; omega)))))
 · have hs : src.size ≤ 65536 := by omega
   obtain ⟨i0, hi, iz0, iz1, iz2⟩ := info_parts info_tok
   obtain ⟨k0, HK⟩ : ∃ k0, Hid (0 + Tk.skipL false (src.data.toList.drop 0) = k0) := ⟨_, rfl⟩
   go_enter Tryz.func55, Tryz.ntmps55
   go_wp2_with (first | ((with_reducible refine wpTxt_q ?_ ?_ ?_); rfl; rfl; intro _ _) | ((with_reducible refine wpTxt_w0 ?_ ?_ ?_); rfl; rfl; intro _ _) | ((with_reducible refine wpTxt_s ?_ ?_); rfl; intro _ _; go_simp) | ((with_reducible refine wpTxt_sw ?_ ?_); rfl; intro _ _; go_simp) | (with_reducible refine wpTxt_nil ?_) | ((with_reducible refine wp_region_t mixed ?_ ?_); decide +kernel; intro _ _) | (go_at_call 84; ((with_reducible refine (rskip_zero src _ hs).mono ?_); rintro e w' ⟨rfl, rfl⟩; rw [HK.out])))
   go_loopw [4, 5] (fun v i wr => RefRel src w v i wr) (fun _ i _ => src.size - (intOf i).toNat)
   case atStart =>
    refine ⟨0, k0, src.size + 1, [], by omega, rfl, HK.out.symm, ?_, Nat.le_refl _, SR.add_nil _, World.ownsRow_nil _ _ _ _, Blk.fresh _ _ _, ?_⟩
    · show src.size < 0 + (src.size + 1); omega
    · show Below _ _ _; (repeat (first | (with_reducible first | assumption | exact Below.refl _ _ | refine Below.drewN' ?_ _ | refine Below.drew ?_) | ((with_reducible first | refine Below.setCell ?_ ?_ _ | refine Below.alloc ?_ ?_ _); rotate_left; (· first | omega | (simp only [szW]; omega) | (dsimp only; omega)))))
   case round =>
    obtain ⟨k, k1, f, acc, hk, rfl, HK, hf, ha, hR, hO, hF, hL⟩ := hrel
    by_cases hle : src.size ≤ k1
    · have hlt : ¬ k1 < src.size := by omega
      go_wp2_with (first | (at_builtin; refine wpList_append_own _ rfl _ _ 50 rfl (w.heap.size + 1) 80 i0 _ 4 40 und_toks hi iz0 iz1 iz2 rfl (by decide) u4 acc.length (cellsT acc) rfl ?c0 _ 1 1 [.int .i64 0, .string ⟨#[]⟩, .int .i64 (loc src.data.toList src.size).1, .int .i64 (loc src.data.toList src.size).2] rfl rfl ?c1 ?c2 ?c3 ?c4 ?c5 ?_) | ((with_reducible refine wpTxt_q ?_ ?_ ?_); rfl; rfl; intro _ _) | ((with_reducible refine wpTxt_w0 ?_ ?_ ?_); rfl; rfl; intro _ _) | ((with_reducible refine wpTxt_s ?_ ?_); rfl; intro _ _; go_simp) | ((with_reducible refine wpTxt_sw ?_ ?_); rfl; intro _ _; go_simp) | (with_reducible refine wpTxt_nil ?_) | ((with_reducible refine wp_region_t mixed ?_ ?_); decide +kernel; intro _ _) | (go_at_call 86; ((with_reducible refine (rLocate_nat src _ src.size rfl _ hs ?_).mono ?_); (· omega); rintro e w1 ⟨rfl, hb1⟩; have hF1 : Blk w1 _ _ _ := Blk.low hF.out hb1; have hz1 := hF1.lt)))
      case c0 => exact own_below (own_below hO.out hb1) (by (repeat (first | (with_reducible first | assumption | exact Below.refl _ _ | refine Below.drewN' ?_ _ | refine Below.drew ?_) | ((with_reducible first | refine Below.setCell ?_ ?_ _ | refine Below.alloc ?_ ?_ _); rotate_left; (· first | omega | (simp only [szW]; omega) | (dsimp only; omega))))))
      case c1 => intro j u hj; exact fresh_cells _ _ _ j u hj
      case c2 => intro u hu; simp at hu; rcases hu with rfl | rfl | rfl | rfl <;> rfl
      case c3 => have := ha.out; unfold maxLen; omega
      case c4 => have := ha.out; omega
      case c5 => simp; omega
      · intro v' w3 hown hgrow _
        have hF3 : Blk w3 _ _ _ := Blk.grown (Blk.low hF1 (by (repeat (first | (with_reducible first | assumption | exact Below.refl _ _ | refine Below.drewN' ?_ _ | refine Below.drew ?_) | ((with_reducible first | refine Below.setCell ?_ ?_ _ | refine Below.alloc ?_ ?_ _); rotate_left; (· first | omega | (simp only [szW]; omega) | (dsimp only; omega))))))) hgrow (own_ne hO.out (by omega))
        obtain ⟨c0, c1, c2, c3, f0, f1, f2, f3⟩ := hF3.four
        have hz := hF3.lt
        go_wp2_with (first | ((with_reducible refine wpTxt_q ?_ ?_ ?_); rfl; rfl; intro _ _) | ((with_reducible refine wpTxt_w0 ?_ ?_ ?_); rfl; rfl; intro _ _) | ((with_reducible refine wpTxt_s ?_ ?_); rfl; intro _ _; go_simp) | ((with_reducible refine wpTxt_sw ?_ ?_); rfl; intro _ _; go_simp) | (with_reducible refine wpTxt_nil ?_) | ((with_reducible refine wp_region_t mixed ?_ ?_); decide +kernel; intro _ _))
        refine bodyPost_ret (v := .tuple #[v', flt 0 0 0]) (by simp [results, Tryz.f55, go_sem, c0, c1, c2, c3]) rfl ?_
        obtain ⟨f, rfl⟩ : ∃ f', f = f' + 1 := ⟨f - 1, by have := hf.out; omega⟩
        unfold ScanPost scanS
        rw [if_neg (by omega), ← hR.out, scanF_end HK.out hle]
        refine ⟨v', rfl, ?_, ?_⟩
        · simp only [List.length_append, List.length_cons, List.length_nil, Nat.zero_add]
          rw [cellsT_snoc]
          exact own_base (own_but hown (b := w.heap.size) (by (repeat (first | (with_reducible first | assumption | exact But.refl _ _ | refine But.alloc ?_ _ | refine But.drewN ?_ _ | refine But.drew ?_) | ((with_reducible refine But.set ?_ ?_ _); rotate_left; (· first | exact Or.inl rfl | exact Or.inr (by first | omega | (simp only [szW]; omega))))))) (by omega)) (by omega)
        · have hb2 : Below w.heap.size w w1 := hL.out.trans (hb1.mono hL.out.size)
          have hb3 : Below w.heap.size w w3 := Below.grown (by (repeat (first | (with_reducible first | assumption | exact Below.refl _ _ | refine Below.drewN' ?_ _ | refine Below.drew ?_) | ((with_reducible first | refine Below.setCell ?_ ?_ _ | refine Below.alloc ?_ ?_ _); rotate_left; (· first | omega | (simp only [szW]; omega) | (dsimp only; omega)))))) hgrow (by simp; omega) (fun g hg => by have := (hO.out.lt g hg).1; omega)
          (repeat (first | (with_reducible first | assumption | exact Below.refl _ _ | refine Below.drewN' ?_ _ | refine Below.drew ?_) | ((with_reducible first | refine Below.setCell ?_ ?_ _ | refine Below.alloc ?_ ?_ _); rotate_left; (· first | omega | (simp only [szW]; omega) | (dsimp only; omega)))))
    · have hlt : k1 < src.size := by omega
      obtain ⟨f, rfl⟩ : ∃ f', f = f' + 1 := ⟨f - 1, by have := hf.out; omega⟩
      cases ho : oneR (src.data.toList.drop k1) with
      | err c off =>
        have hc := oneR_err _ _ _ ho
        have hoff := oneR_off _ _ _ ho
        rw [List.length_drop, sz] at hoff
        have HO := Lib.hid ho
        clear ho
        go_wp2_with (first | ((with_reducible refine wpTxt_q ?_ ?_ ?_); rfl; rfl; intro _ _) | ((with_reducible refine wpTxt_w0 ?_ ?_ ?_); rfl; rfl; intro _ _) | ((with_reducible refine wpTxt_s ?_ ?_); rfl; intro _ _; go_simp) | ((with_reducible refine wpTxt_sw ?_ ?_); rfl; intro _ _; go_simp) | (with_reducible refine wpTxt_nil ?_) | ((with_reducible refine wp_region_t mixed ?_ ?_); decide +kernel; intro _ _) | (go_at_call 85; ((with_reducible refine (rOne_err src k1 _ hs hlt c off HO.out).mono ?_); rintro e w' ⟨x, y, rfl, rfl⟩)) | (go_at_call 86; ((with_reducible refine (rLocate_nat src _ (k1 + off) ?_ _ hs ?_).mono ?_); (· omega); (· omega); rintro e w1 ⟨rfl, hb1⟩; have hF1 : Blk w1 _ _ _ := Blk.low hF.out hb1; have hz1 := hF1.lt; obtain ⟨c0, c1, c2, c3, f0, f1, f2, f3⟩ := hF1.four)))
        refine bodyPost_ret (v := .tuple #[.slice none 0 0, flt c (loc src.data.toList (k1 + off)).1 (loc src.data.toList (k1 + off)).2]) (by simp [results, Tryz.f55, go_sem, c0, c1, c2, c3]) rfl ?_
        unfold ScanPost scanS
        rw [if_neg (by omega), ← hR.out, scanF_err HK.out hle HO.out]
        refine ⟨rfl, ?_⟩
        have hb2 : Below w.heap.size w w1 := hL.out.trans (hb1.mono hL.out.size)
        (repeat (first | (with_reducible first | assumption | exact Below.refl _ _ | refine Below.drewN' ?_ _ | refine Below.drew ?_) | ((with_reducible first | refine Below.setCell ?_ ?_ _ | refine Below.alloc ?_ ?_ _); rotate_left; (· first | omega | (simp only [szW]; omega) | (dsimp only; omega)))))
      | ok kd n =>
        obtain ⟨hn0, hn1⟩ := oneR_ok _ _ _ (by rw [List.length_drop, sz]; omega) ho
        rw [List.length_drop, sz] at hn1
        obtain ⟨k2, HK2⟩ : ∃ k2, Hid ((k1 + n) + Tk.skipL false (src.data.toList.drop (k1 + n)) = k2) := ⟨_, rfl⟩
        have HO := Lib.hid ho
        clear ho
        go_wp2_with (first | ((with_reducible refine wpTxt_q ?_ ?_ ?_); rfl; rfl; intro _ _) | ((with_reducible refine wpTxt_w0 ?_ ?_ ?_); rfl; rfl; intro _ _) | ((with_reducible refine wpTxt_s ?_ ?_); rfl; intro _ _; go_simp) | ((with_reducible refine wpTxt_sw ?_ ?_); rfl; intro _ _; go_simp) | (with_reducible refine wpTxt_nil ?_) | ((with_reducible refine wp_region_t mixed ?_ ?_); decide +kernel; intro _ _) | (go_at_call 85; ((with_reducible refine (rOne_ok src k1 _ hs hlt kd n HO.out).mono ?_); rintro e w' ⟨rfl, rfl⟩)))
        refine wp_region_e (spOf [(7, spVal (.agg #[.int .i64 (loc src.data.toList k1).1, .int .i64 (loc src.data.toList k1).2])), (9, spNew 80 #[.int .i64 0, .string ⟨#[]⟩, .int .i64 0, .int .i64 0])]) [0, 1, 2, 3, 4, 5, 6, 7, 8, 9] [10] mixed ?_ ?_
        · decide +kernel
        · intro K ws hws hK
          have hxw : Ext wr ws := by rw [hws]; exact Ext.drew wr
          clear hws
          dsimp only [pickE, pickL, List.getElem?_cons_succ, List.getElem?_cons_zero] at hK ⊢
          go_wp2_with (first | ((with_reducible refine wpE_q ?_ ?_ ?_); rfl; rfl; intro wq hq _ _) | ((with_reducible refine wpE_s ?_ ?_); rfl; intro wq hq _ _; go_simp))
          refine wpE_w (spVal (.agg #[.int .i64 (loc src.data.toList k1).1, .int .i64 (loc src.data.toList k1).2])) _ rfl rfl rfl rfl rfl ⟨_, rfl⟩ ?_ ?_
          · intro wq hq K2 hK2
            go_wp2_with (go_at_call 86; ((with_reducible refine (rLocate_nat src _ k1 rfl _ hs ?_).mono ?_); (· omega); rintro e w1 ⟨rfl, hb1⟩))
            exact good_val hb1
          · rintro v rfl
            go_wp2_with (first | ((with_reducible refine wpE_q ?_ ?_ ?_); rfl; rfl; intro wq hq _ _) | ((with_reducible refine wpE_s ?_ ?_); rfl; intro wq hq _ _; go_simp))
            refine wpE_w (spNew 80 #[.int .i64 0, .string ⟨#[]⟩, .int .i64 0, .int .i64 0]) _ rfl rfl rfl rfl rfl ⟨_, 0, rfl⟩ ?_ ?_
            · intro wq hq K2 hK2
              go_wp2_with fail
              exact good_new _ _ _
            · rintro v ⟨b, rfl⟩
              refine wpE_nil (fun w1 hx hΦ hfp hdis => ?_)
              have hB : Blk w1 b 80 #[.int .i64 0, .string ⟨#[]⟩, .int .i64 0, .int .i64 0] := hΦ (9, .pointer (some ⟨b, 0, none⟩)) (by simp)
              have hb := (hfp (9, .pointer (some ⟨b, 0, none⟩)) (by simp) b (by simp [spOf, spNew, blkOf])).1
              obtain ⟨p0, p1, p2, p3, r0, r1, r2, r3⟩ := hB.four
              have hz1 := hB.lt
              clear hΦ hfp hdis
              refine hK _ _ ?_
              clear hK
              (with_reducible refine wpTxt_w0 ?_ ?_ ?_)
              · rfl
              · rfl
              intro _ _
              go_simp
              go_upto_region 11 with (first | ((with_reducible refine wpTxt_q ?_ ?_ ?_); rfl; rfl; intro _ _) | ((with_reducible refine wpTxt_w0 ?_ ?_ ?_); rfl; rfl; intro _ _) | ((with_reducible refine wpTxt_s ?_ ?_); rfl; intro _ _; go_simp) | ((with_reducible refine wpTxt_sw ?_ ?_); rfl; intro _ _; go_simp) | (with_reducible refine wpTxt_nil ?_) | ((with_reducible refine wp_region_t mixed ?_ ?_); decide +kernel; intro _ _))
              generalize hw2 : World.setCell (World.setCell (World.setCell (World.setCell _ _ _) _ _) _ _) _ _ = w2
              have hB2 : Blk w2 b 80 #[.int .i64 kd, .string (src.extract k1 (k1 + n)), .int .i64 (loc src.data.toList k1).1, .int .i64 (loc src.data.toList k1).2] := by
               rw [← hw2]; exact (((hB.set 0 _).set 1 _).set 2 _).set 3 _
              have hbw : Below wr.heap.size wr w2 := by
               rw [← hw2]; have h1 : Below wr.heap.size wr w1 := hxw.trans hx
               have h2 := hxw.size
               refine (((h1.setCell ?_ _).setCell ?_ _).setCell ?_ _).setCell ?_ _ <;> (dsimp only; omega)
              have hb' : wr.heap.size ≤ b := by have := hxw.size; omega
              have HF2 := Lib.hid (hF.out.low hbw)
              have hO2 := Lib.hid (own_below hO.out hbw)
              have hL2 := Lib.hid (hL.out.trans (hbw.mono hL.out.size))
              have HB2 := Lib.hid hB2
              obtain ⟨p0, p1, p2, p3, r0, r1, r2, r3⟩ := hB2.four
              have hz1 := hB2.lt
              have hsw : w.heap.size ≤ wr.heap.size := hL.out.size
              clear hw2 hB hx hb hB2
              by_cases h3 : kd = 3
              · have hn2 := oneR_3 _ _ _ HO.out h3
                have hb3 := beq_t h3
                have ht : tokT src k1 kd n = src.extract (k1 + 1) (k1 + n - 1) := if_pos h3
                have HT := Lib.hid ht
                clear ht h3
                go_upto_region 13 with (first | ((with_reducible refine wpTxt_q ?_ ?_ ?_); rfl; rfl; intro _ _) | ((with_reducible refine wpTxt_w0 ?_ ?_ ?_); rfl; rfl; intro _ _) | ((with_reducible refine wpTxt_s ?_ ?_); rfl; intro _ _; go_simp) | ((with_reducible refine wpTxt_sw ?_ ?_); rfl; intro _ _; go_simp) | (with_reducible refine wpTxt_nil ?_) | ((with_reducible refine wp_region_t mixed ?_ ?_); decide +kernel; intro _ _))
                generalize hw3 : World.setCell _ _ _ = w3
                have hB3 : Blk w3 b 80 #[.int .i64 kd, .string (src.extract (k1 + 1) (k1 + n - 1)), .int .i64 (loc src.data.toList k1).1, .int .i64 (loc src.data.toList k1).2] := by
                 rw [← hw3]; exact HB2.out.set 1 _
                have hbw3 : Below wr.heap.size wr w3 := by
                 rw [← hw3]; exact hbw.setCell (by dsimp only; omega) _
                have HF3 := Lib.hid (hF.out.low hbw3)
                have hO3 := Lib.hid (own_below hO.out hbw3)
                have hL3 := Lib.hid (hL.out.trans (hbw3.mono hL.out.size))
                have HB3 := Lib.hid hB3
                obtain ⟨q0, q1, q2, q3, s0, s1, s2, s3⟩ := hB3.four
                have hz3 := hB3.lt
                clear hw3 hB3 p0 p1 p2 p3 r0 r1 r2 r3 hz1 HB2
                go_wp2_with (first | (at_builtin; refine wpList_append_own _ rfl _ _ 50 rfl (w.heap.size + 1) 80 i0 _ 4 40 und_toks hi iz0 iz1 iz2 rfl (by decide) u4 acc.length (cellsT acc) rfl ?c0 _ 1 1 [.int .i64 kd, .string (src.extract (k1 + 1) (k1 + n - 1)), .int .i64 (loc src.data.toList k1).1, .int .i64 (loc src.data.toList k1).2] rfl rfl ?c1 ?c2 ?c3 ?c4 ?c5 ?_) | ((with_reducible refine wpTxt_q ?_ ?_ ?_); rfl; rfl; intro _ _) | ((with_reducible refine wpTxt_w0 ?_ ?_ ?_); rfl; rfl; intro _ _) | ((with_reducible refine wpTxt_s ?_ ?_); rfl; intro _ _; go_simp) | ((with_reducible refine wpTxt_sw ?_ ?_); rfl; intro _ _; go_simp) | (with_reducible refine wpTxt_nil ?_) | ((with_reducible refine wp_region_t mixed ?_ ?_); decide +kernel; intro _ _))
                case c0 => exact own_below hO3.out (by (repeat (first | (with_reducible first | assumption | exact Below.refl _ _ | refine Below.drewN' ?_ _ | refine Below.drew ?_) | ((with_reducible first | refine Below.setCell ?_ ?_ _ | refine Below.alloc ?_ ?_ _); rotate_left; (· first | omega | (simp only [szW]; omega) | (dsimp only; omega))))))
                case c1 => intro j u hj; exact fresh_cells _ _ _ j u hj
                case c2 => intro u hu; simp at hu; rcases hu with rfl | rfl | rfl | rfl <;> rfl
                case c3 => have := ha.out; unfold maxLen; omega
                case c4 => have := ha.out; omega
                case c5 => have := HF3.out.lt; simp; omega
                · intro v' w5 hown hgrow _
                  go_wp2_with (first | ((with_reducible refine wpTxt_q ?_ ?_ ?_); rfl; rfl; intro _ _) | ((with_reducible refine wpTxt_w0 ?_ ?_ ?_); rfl; rfl; intro _ _) | ((with_reducible refine wpTxt_s ?_ ?_); rfl; intro _ _; go_simp) | ((with_reducible refine wpTxt_sw ?_ ?_); rfl; intro _ _; go_simp) | (with_reducible refine wpTxt_nil ?_) | ((with_reducible refine wp_region_t mixed ?_ ?_); decide +kernel; intro _ _) | (go_at_call 84; ((with_reducible refine (rskip_nat src _ (k1 + n) ?_ _ hs ?_).mono ?_); (· omega); (· omega); rintro e w' ⟨rfl, rfl⟩; rw [HK2.out])))
                  go_roundw
                  case rel =>
                   refine ⟨k1 + n, k2, f, acc ++ [⟨kd, tokT src k1 kd n, loc src.data.toList k1⟩], by omega, rfl, HK2.out.symm, ?_, ?_, ?_, ?_, ?_, ?_⟩
                   · have := hf.out; have := HK.out; show src.size < k1 + n + f; omega
                   · have := ha.out; have := HK.out; show (acc ++ [_]).length ≤ k1 + n; rw [List.length_append]; simp only [List.length_cons, List.length_nil]; omega
                   · show SR.add _ _ = _
                     rw [← SR.add_add, ← scanF_ok HK.out hle HO.out]; exact hR.out
                   · show w5.ownsRow _ _ _ _ _ _
                     rw [List.length_append, cellsT_snoc, HT.out]; exact hown
                   · exact Blk.grown (Blk.alloc HF3.out _) hgrow (own_ne hO.out (by omega))
                   · have hsz := HF3.out.lt
                     exact Below.grown (hL3.out.alloc (by omega) _) hgrow (by simp; omega) (fun g hg => by have := (hO.out.lt g hg).1; omega)
                  case measure =>
                   have := HK2.out
                   simp only [intOf]
                   omega
              · have hb3 := beq_f h3
                have ht : tokT src k1 kd n = src.extract k1 (k1 + n) := if_neg h3
                have HT := Lib.hid ht
                clear ht h3
                go_wp2_with (first | (at_builtin; refine wpList_append_own _ rfl _ _ 50 rfl (w.heap.size + 1) 80 i0 _ 4 40 und_toks hi iz0 iz1 iz2 rfl (by decide) u4 acc.length (cellsT acc) rfl ?c0 _ 1 1 [.int .i64 kd, .string (src.extract k1 (k1 + n)), .int .i64 (loc src.data.toList k1).1, .int .i64 (loc src.data.toList k1).2] rfl rfl ?c1 ?c2 ?c3 ?c4 ?c5 ?_) | ((with_reducible refine wpTxt_q ?_ ?_ ?_); rfl; rfl; intro _ _) | ((with_reducible refine wpTxt_w0 ?_ ?_ ?_); rfl; rfl; intro _ _) | ((with_reducible refine wpTxt_s ?_ ?_); rfl; intro _ _; go_simp) | ((with_reducible refine wpTxt_sw ?_ ?_); rfl; intro _ _; go_simp) | (with_reducible refine wpTxt_nil ?_) | ((with_reducible refine wp_region_t mixed ?_ ?_); decide +kernel; intro _ _))
                case c0 => exact own_below hO2.out (by (repeat (first | (with_reducible first | assumption | exact Below.refl _ _ | refine Below.drewN' ?_ _ | refine Below.drew ?_) | ((with_reducible first | refine Below.setCell ?_ ?_ _ | refine Below.alloc ?_ ?_ _); rotate_left; (· first | omega | (simp only [szW]; omega) | (dsimp only; omega))))))
                case c1 => intro j u hj; exact fresh_cells _ _ _ j u hj
                case c2 => intro u hu; simp at hu; rcases hu with rfl | rfl | rfl | rfl <;> rfl
                case c3 => have := ha.out; unfold maxLen; omega
                case c4 => have := ha.out; omega
                case c5 => have := HF2.out.lt; simp; omega
                · intro v' w5 hown hgrow _
                  go_wp2_with (first | ((with_reducible refine wpTxt_q ?_ ?_ ?_); rfl; rfl; intro _ _) | ((with_reducible refine wpTxt_w0 ?_ ?_ ?_); rfl; rfl; intro _ _) | ((with_reducible refine wpTxt_s ?_ ?_); rfl; intro _ _; go_simp) | ((with_reducible refine wpTxt_sw ?_ ?_); rfl; intro _ _; go_simp) | (with_reducible refine wpTxt_nil ?_) | ((with_reducible refine wp_region_t mixed ?_ ?_); decide +kernel; intro _ _) | (go_at_call 84; ((with_reducible refine (rskip_nat src _ (k1 + n) ?_ _ hs ?_).mono ?_); (· omega); (· omega); rintro e w' ⟨rfl, rfl⟩; rw [HK2.out])))
                  go_roundw
                  case rel =>
                   refine ⟨k1 + n, k2, f, acc ++ [⟨kd, tokT src k1 kd n, loc src.data.toList k1⟩], by omega, rfl, HK2.out.symm, ?_, ?_, ?_, ?_, ?_, ?_⟩
                   · have := hf.out; have := HK.out; show src.size < k1 + n + f; omega
                   · have := ha.out; have := HK.out; show (acc ++ [_]).length ≤ k1 + n; rw [List.length_append]; simp only [List.length_cons, List.length_nil]; omega
                   · show SR.add _ _ = _
                     rw [← SR.add_add, ← scanF_ok HK.out hle HO.out]; exact hR.out
                   · show w5.ownsRow _ _ _ _ _ _
                     rw [List.length_append, cellsT_snoc, HT.out]; exact hown
                   · exact Blk.grown (Blk.alloc HF2.out _) hgrow (own_ne hO.out (by omega))
                   · have hsz := HF2.out.lt
                     exact Below.grown (hL2.out.alloc (by omega) _) hgrow (by simp; omega) (fun g hg => by have := (hO.out.lt g hg).1; omega)
                  case measure =>
                   have := HK2.out
                   simp only [intOf]
                   omega
open Go.RowKit Tk
/-! ### Tokens of the reference -/
/-! ### Parse -/
theorem qscan_any (s : ByteArray) (w : World) : Calls Tryz.prog 55 #[.string s] w (ScPost s w) := (rScan_any s w).mono fun _ _ h => sc_post h
theorem qParse_any (s : ByteArray) (w : World) : Calls Tryz.prog 26 #[.string s] w (PaPost (parseR s) w) := by
 obtain ⟨r, hr⟩ : ∃ r, scanS s = r := ⟨_, rfl⟩
 have HS := Lib.hid hr
 unfold parseR
 rw [hr]
 cases r
 case' err c q =>
  obtain ⟨s1, s2⟩ := kd_f (scanS_err hr)
  clear hr
  dsimp only
 case' ok ts =>
  obtain ⟨bd, p0, hend, hlen0, hsm⟩ := scanS_end hr
  have hlen : ts.length ≤ 1000000000000 := by omega
  have HE := Lib.hid hend
  clear hr hend
  dsimp only
  obtain ⟨r, hr⟩ : ∃ r, toksR ts = r := ⟨_, rfl⟩
  have HT := Lib.hid hr
  rw [hr]
  cases r
  case' err c9 q =>
   obtain ⟨s1, s2⟩ := kd_f (toks_err hr)
   clear hr
   dsimp only
  case' ok x n =>
   have hn := toks_lt HE.out hr
   clear hr
   obtain ⟨t, hti⟩ := at_some hn
   dsimp only
   rw [hti]
   dsimp only
   have hPA : Hid (posAt ts n = t.pos) := Lib.hid (by unfold posAt; rw [hti])
   have HTI := Lib.hid hti
   clear hti
   refine Classical.byCases (p := t.kind = 0) (fun hk => ?k2p) (fun hk => ?k2n)
   case' k2p =>
    obtain ⟨s1, s2⟩ := kd_t hk
    rw [if_pos hk]
    have HK := Lib.hid hk
    clear hk
   case' k2n =>
    obtain ⟨s1, s2⟩ := kd_f hk
    rw [if_neg hk]
    have HK := Lib.hid hk
    clear hk
 all_goals
  go_enter Tryz.func26, Tryz.ntmps26
  have E := Only.refl [] w
  go_upto_region 9999 with (first | ((first | ((with_reducible refine at_dst 11 ?_); go_simp; (have hc := qscan_any s wn); (first | with_reducible refine hc.mono ?_ | refine hc.mono ?_); clear hc; unfold ScPost; rw [HS.out]; dsimp only [fltV]; rintro e wn ⟨rfl, hx⟩) | ((with_reducible refine at_dst 11 ?_); go_simp; (have hc := qscan_any s wn); (first | with_reducible refine hc.mono ?_ | refine hc.mono ?_); clear hc; unfold ScPost; rw [HS.out]; dsimp only [fltV]; rintro e wn ⟨a, c, rfl, ht, hnb, hx⟩; have hq9 := ht.tok HTI.out; obtain ⟨g, o, hgo, hg, k0, k1, k2, k3⟩ := hq9; subst hgo; have hn2 : ts.length = 0 ∨ ∀ x ∈ ownB (.slice (some ⟨g, o, none⟩) ts.length c), x ∉ [X2] := .inr (fun x hx hm => by have h5 := hnb x hx; have h6 := b2.lt; rw [List.mem_singleton.1 hm] at h5; omega)) | ((with_reducible refine at_dst 11 ?_); go_simp; (have hc := qscan_any s wn); (first | with_reducible refine hc.mono ?_ | refine hc.mono ?_); clear hc; unfold ScPost; rw [HS.out]; dsimp only [fltV]; rintro e wn ⟨a, c, rfl, ht, hnb, hx⟩) | ((with_reducible refine at_dst 21 ?_); go_simp; (have hc := qtokens_any ht hsm hlen); (first | with_reducible refine hc.mono ?_ | refine hc.mono ?_); clear hc; unfold TkPost; rw [HT.out]; dsimp only [fltV]; rintro e wn ⟨rfl, hx⟩) | ((with_reducible refine at_dst 21 ?_); go_simp; (have hc := qtokens_any ht hsm hlen); (first | with_reducible refine hc.mono ?_ | refine hc.mono ?_); clear hc; unfold TkPost; rw [HT.out]; dsimp only [fltV]; rintro e wn ⟨y, rfl, hy, hf, hyb, hx⟩; (try have mhy_2 := hf.away b2.lt); (try have mhy_3 := hf.away b3.lt); (try have mhy_5 := hf.away b5.lt); (try replace hf := hf.mono E.size)) | ((with_reducible refine at_dst 45 ?_); go_simp; (have hc := qfault_any ht n 9); (first | with_reducible refine hc.mono ?_ | refine hc.mono ?_); clear hc; unfold FltPost; dsimp only [fltV]; rintro e wn ⟨rfl, hx⟩) | ((with_reducible refine at_reg 3 ?_); (refine Pn.wp_region_o (id := 3) [X2] (fun _ _ _ => False) [0, 2, 3, 0] [0, 1, 2, 3] mixed ?_ ?_ ?_); (· decide +kernel); (· exact fun _ _ _ h => h.elim); intro K hK wn hx; dsimp only [pickL, List.getElem?_cons_succ, List.getElem?_cons_zero]) | ((with_reducible refine at_reg 6 ?_); (refine Pn.wp_region_o (id := 6) [X2] (fun _ _ _ => False) [0, 2, 3, 0] [0, 1, 2, 3] mixed ?_ ?_ ?_); (· decide +kernel); (· exact fun _ _ _ h => h.elim); intro K hK wn hx; dsimp only [pickL, List.getElem?_cons_succ, List.getElem?_cons_zero]) | ((first | ((with_reducible refine at_store 5 ?_); have bo := b5; refine wp_put bo rfl rfl ?_ ?_ ?_ ?_) | ((with_reducible refine at_store 2 ?_); have bo := b2; refine wp_put bo rfl rfl ?_ ?_ ?_ ?_) | ((with_reducible refine at_store 3 ?_); have bo := b3; refine wp_put bo rfl rfl ?_ ?_ ?_ ?_) | ((with_reducible refine at_store 6 ?_); have bo := b6; refine wp_put bo rfl rfl ?_ ?_ ?_ ?_) | ((with_reducible refine at_store 8 ?_); have bo := b8; refine wp_put bo rfl rfl ?_ ?_ ?_ ?_)); (· kernel_rfl); (· first | rfl | kernel_rfl); (· first | decide | exact Nat.le_refl _ | simp [Act.eval, Value.cells] | (simp [Act.eval, Act.put, Value.cells]; done)); intro wn bn hb; dsimp only [Act.put]; simp only [putA, Act.eval, Value.cells, Nat.reduceAdd, putL, exC_size] at bn; have hbk := hb; have E2 := E.put bo hb; (try replace b2 := b2.but hb (by assumption)); (try replace b3 := b3.but hb (by assumption)); (try replace b5 := b5.but hb (by assumption)); (try replace b6 := b6.but hb (by assumption)); (try replace b8 := b8.but hb (by assumption)); (first | (replace hy := hy.but hb bo.blk (of_decide_eq_true rfl)) | (replace hy := hy.but0 hb (by assumption)) | skip); (first | (replace ht := ht.but hb bo.blk (of_decide_eq_true rfl)) | (replace ht := ht.but0 hb (by assumption)) | skip); clear E bo; have E := E2; clear E2; (try replace b5 := b5.re bn); (try replace b2 := b2.re bn); (try replace b3 := b3.re bn); (try replace b6 := b6.re bn); (try replace b8 := b8.re bn); clear bn hb) | ((first | ((with_reducible refine at_dst 2 ?_); go_simp; (generalize hXn : Array.size (World.heap _) = X2); refine new_block hXn ?_; intro wn bb hx; have b2 := Loc.new bb E hXn) | ((with_reducible refine at_dst 3 ?_); go_simp; (generalize hXn : Array.size (World.heap _) = X3); refine new_block hXn ?_; intro wn bb hx; (try have ⟨n2_3, n3_2⟩ := b2.ne hXn); have b3 := Loc.new bb E hXn) | ((with_reducible refine at_dst 5 ?_); go_simp; (generalize hXn : Array.size (World.heap _) = X5); refine new_block hXn ?_; intro wn bb hx; (try have ⟨n2_5, n5_2⟩ := b2.ne hXn); have b5 := Loc.new bb E hXn) | ((with_reducible refine at_dst 6 ?_); go_simp; (generalize hXn : Array.size (World.heap _) = X6); refine new_block hXn ?_; intro wn bb hx; (try have ⟨n2_6, n6_2⟩ := b2.ne hXn); have b6 := Loc.new bb E hXn) | ((with_reducible refine at_dst 8 ?_); go_simp; (generalize hXn : Array.size (World.heap _) = X8); refine new_block hXn ?_; intro wn bb hx; (try have ⟨n2_8, n8_2⟩ := b2.ne hXn); have b8 := Loc.new bb E hXn)); (try have ⟨nn, nm⟩ := b2.ne hXn); (try have ⟨nn, nm⟩ := b3.ne hXn); (try have ⟨nn, nm⟩ := b5.ne hXn); (try have ⟨nn, nm⟩ := b6.ne hXn); have zz := Nat.le_trans E.size (Nat.le_of_eq hXn); (try have mm := ht.notin (Nat.le_of_eq hXn)); (try have mm := hy.notin (Nat.le_of_eq hXn)); clear bb hXn)); (try replace E := E.ext hx); (try replace b2 := b2.ext hx); (try replace b3 := b3.ext hx); (try replace b5 := b5.ext hx); (try replace b6 := b6.ext hx); (try replace b8 := b8.ext hx); (try replace hy := hy.ext hx); (try replace ht := ht.ext hx); (try replace hcE := bcell E.low); (try replace c2 := b2.cf); (try replace c3 := b3.cf); (try replace c5 := b5.cf); (try replace c6 := b6.cf); (try replace c8 := b8.cf); (try clear k0 k1 k2 k3); (try (have hkk := ht.tok0 HTI.out; obtain ⟨k0, k1, k2, k3⟩ := hkk))) | ((with_reducible refine at_dst 46 ?_); (refine wp_all b6.blk rfl rfl ?_ ?_ ?_); (· kernel_rfl); (· kernel_rfl)) | ((with_reducible refine Pn.at_tag 0 ?_); (first | ((with_reducible refine Pn.wpTag_q ?_ ?_ ?_); rfl; rfl; intro _ _) | ((with_reducible refine Pn.wpTag_w ?_ ?_ ?_); rfl; rfl; intro _ _) | ((with_reducible refine Pn.wpTag_no ?_ ?_); (· first | rfl | (go_simp; done))) | ((with_reducible refine Pn.wpTag_s ?_ ?_); rfl; intro _ _; go_simp))) | ((with_reducible refine Pn.at_tag 2 ?_); (first | ((with_reducible refine Pn.wpTag_no ?_ ?_); (· first | rfl | (go_simp; done))) | (apply Pn.wpTag_2; (· rfl); (· first | rfl | go_simp); (· intro wq hq; (try replace c3 := (b3.only hq (not_in1 n3_2)).cf); (try replace c5 := (b5.only hq (not_in1 n5_2)).cf); (try replace c6 := (b6.only hq (not_in1 n6_2)).cf); (try replace c8 := (b8.only hq (not_in1 n8_2)).cf); go_simp <;> rfl); (try simp only [Act.put, actL])))) | ((with_reducible refine Pn.at_tag 3 ?_); (first | ((with_reducible refine Pn.wpTag_no ?_ ?_); (· first | rfl | (go_simp; done))) | ((refine Pn.wpTag_3 ?_ ?_ (fun K2 hK2 => ?_)); (· rfl); (· first | rfl | go_simp)))) | ((with_reducible refine at_ando ?_ ?_); (· first | exact Only.of_but hbk (by simp) | exact hxo | exact Only.of_below hx | exact Only.refl _ _)) | ((with_reducible refine Pn.at_tagn ?_); (with_reducible refine Pn.wpTag_nil ?_)))
  first
   | (refine bodyPost_ret (v := .tuple #[.agg exZ, fltV c q]) (by simp [results, Tryz.f26, go_sem, c2, c3]; first | rfl | exact ⟨rfl, rfl⟩) rfl ⟨rfl, E.low⟩)
   | (refine bodyPost_ret (v := .tuple #[.agg exZ, fltV c9 q]) (by simp [results, Tryz.f26, go_sem, c2, c3]; first | rfl | exact ⟨rfl, rfl⟩) rfl ⟨rfl, E.low⟩)
   | (refine bodyPost_ret (v := .tuple #[.agg (exC y).toArray, fltV 0 (0, 0)]) (by simp [results, Tryz.f26, go_sem, c2, c3]; first | rfl | exact ⟨rfl, rfl⟩) rfl ⟨_, rfl, hy, hyb, E.low⟩)
   | (rw [← hPA.out]
      refine bodyPost_ret (v := .tuple #[.agg exZ, fltV 9 (posAt ts n)]) (by simp [results, Tryz.f26, go_sem, c2, c3]; first | rfl | exact ⟨rfl, rfl⟩) rfl ⟨rfl, E.low⟩)
open Go.RowKit Tk
/-! ### Text, for any expression -/
theorem qText_bad {w : World} {x : Ex} (hxo : x.ok w) (hs : x.small) (hsz : x.sz ≤ 1000000000000) {c : Int} (hc : chk x 1 = c) (h0 : ¬ c = 0) : Calls Tryz.prog 24 #[.agg (exC x).toArray] w (TIPost ⟨#[]⟩ c w) := by
 have HC := Lib.hid hc
 obtain ⟨g1, g2⟩ := kd_f h0
 clear hc h0
 go_enter Tryz.func24, Tryz.ntmps24
 have E := Only.refl [] w
 go_upto_region 9999 with (first | ((first | ((with_reducible refine at_dst 6 ?_); go_simp; (have hc := qCheck_any (hxo.ext E.low) hs hsz); (first | with_reducible refine hc.mono ?_ | refine hc.mono ?_); clear hc; unfold IPost; rw [HC.out]; rintro e wn ⟨rfl, hx⟩) | ((with_reducible refine at_dst 1 ?_); go_simp; (generalize hXn : Array.size (World.heap _) = X1); refine new_block hXn ?_; intro wn bb hx; have b1 := Loc.new bb E hXn; have zz := Nat.le_trans E.size (Nat.le_of_eq hXn); clear bb hXn)); (try replace E := E.ext hx); (try replace b1 := b1.ext hx); (try replace hcE := bcell E.low); (try replace c1 := b1.cf)) | ((with_reducible refine at_dst 5 ?_); (refine wp_all b1.blk rfl rfl ?_ ?_ ?_); (· kernel_rfl); (· kernel_rfl)))
 refine bodyPost_ret (v := .tuple #[.string ⟨#[]⟩, .int .i64 c]) (by simp [results, Tryz.f24, go_sem]) rfl ⟨rfl, E.low⟩
theorem qText_law {w : World} {x : Ex} (hxo : x.ok w) (hs : x.small) (hsz : x.sz ≤ 1000000000) : Calls Tryz.prog 24 #[.agg (exC x).toArray] w (TIPost (textR x).1 (textR x).2 w) := by
 by_cases h0 : chk x 1 = 0
 · have := wz_good (good_chk x 1 h0)
   exact qText_any hxo hs (by omega) (by omega)
 · have e : textR x = (⟨#[]⟩, chk x 1) := by unfold textR; rw [if_pos h0]
   rw [e]
   exact qText_bad hxo hs (by omega) rfl h0
/-! ### at expressions that are the same but for where they lie -/
section
variable {u v x y : Ex} {w : World}
end
open Go.RowKit Tk
theorem lawTexts {x : Ex} {w : World} (s : ByteArray) (hxo : x.ok w) (hsmx : x.small) (hss : s.size ≤ maxLen) : Calls Tryz.prog 5 #[.agg (exC x).toArray, .string s] w (BPost true w) := by
 have hi : -9000000000000000000 ≤ (200 : Int) ∧ (200 : Int) ≤ 9000000000000000000 := by omega
 obtain ⟨bx, hbx⟩ : ∃ b, decide (0 ≤ cntE x 200) = b := ⟨_, rfl⟩
 have HFX := Lib.hid hbx
 unfold maxLen at hss
 cases bx
 case' false =>
  clear hbx
 case' true =>
  have hsx : x.sz ≤ 200 := by have h0 := of_decide_eq_true hbx; have := (cntE_le x 200).2 h0; omega
  have h4x : x.four := cntE_four x 200 (of_decide_eq_true hbx)
  have hzx : x.sz ≤ 1000000000 := by omega
  clear hbx
  obtain ⟨r, hr⟩ : ∃ r, textR x = r := ⟨_, rfl⟩
  obtain ⟨tx, k⟩ := r
  have HT := Lib.hid hr
  clear hr
  obtain ⟨p, hp⟩ : ∃ p, parseR s = p := ⟨_, rfl⟩
  have HP := Lib.hid hp
  clear hp
  refine Classical.byCases (p := 400 < s.size) (fun h4 => ?k1p) (fun h4 => ?k1n)
  case' k1p =>
   have g1 : decide ((400 : Int) < (s.size : Int)) = true := decide_eq_true (by omega)
  case' k1n =>
   have g1 : decide ((400 : Int) < (s.size : Int)) = false := decide_eq_false (by omega)
   cases p
   case' err c q =>
    skip
   case' ok y n =>
    skip
 all_goals
  go_enter Tryz.func5, Tryz.ntmps5
  have E := Only.refl [] w
  go_upto_region 9999 with (first | ((first | ((with_reducible refine at_dst 14 ?_); go_simp; (have hc := few_any (hxo.ext E.low) 200 hi); (first | with_reducible refine hc.mono ?_ | refine hc.mono ?_); clear hc; unfold BPost; rw [HFX.out]; rintro e wn ⟨rfl, hx⟩) | ((with_reducible refine at_dst 21 ?_); go_simp; ((with_reducible refine (awake_any _).mono ?_)); unfold BPost; rintro e wn ⟨rfl, hx⟩) | ((with_reducible refine at_dst 24 ?_); go_simp; (have hc := bText_law (hxo.ext E.low) hsmx hzx); (first | with_reducible refine hc.mono ?_ | refine hc.mono ?_); clear hc; unfold TIPost; rw [HT.out]; dsimp only; rintro e wn ⟨rfl, hx⟩) | ((with_reducible refine at_dst 29 ?_); go_simp; (have hc := qText_law (hxo.ext E.low) hsmx hzx); (first | with_reducible refine hc.mono ?_ | refine hc.mono ?_); clear hc; unfold TIPost; rw [HT.out]; dsimp only; rintro e wn ⟨rfl, hx⟩) | ((with_reducible refine at_dst 34 ?_); go_simp; (have hc := bParse_any s wn); (first | with_reducible refine hc.mono ?_ | refine hc.mono ?_); clear hc; unfold PaPost; rw [HP.out]; dsimp only [fltV]; rintro e wn ⟨rfl, hx⟩) | ((with_reducible refine at_dst 34 ?_); go_simp; (have hc := bParse_any s wn); (first | with_reducible refine hc.mono ?_ | refine hc.mono ?_); clear hc; unfold PaPost; rw [HP.out]; dsimp only [fltV]; rintro e wn ⟨u, rfl, hu, hub, hx⟩) | ((with_reducible refine at_dst 39 ?_); go_simp; (have hc := qParse_any s wn); (first | with_reducible refine hc.mono ?_ | refine hc.mono ?_); clear hc; unfold PaPost; rw [HP.out]; dsimp only [fltV]; rintro e wn ⟨rfl, hx⟩) | ((with_reducible refine at_dst 39 ?_); go_simp; (have hc := qParse_any s wn); (first | with_reducible refine hc.mono ?_ | refine hc.mono ?_); clear hc; unfold PaPost; rw [HP.out]; dsimp only [fltV]; rintro e wn ⟨v, rfl, hv, hvb, hx⟩) | ((with_reducible refine at_dst 53 ?_); go_simp; (have hc := qsame_true hu hv (hub.trans hvb.symm)); (first | with_reducible refine hc.mono ?_ | refine hc.mono ?_); clear hc; unfold BPost; rintro e wn ⟨rfl, hx⟩) | ((with_reducible refine at_dst 61 ?_); go_simp; ((with_reducible refine (awake_any _).mono ?_)); unfold BPost; rintro e wn ⟨rfl, hx⟩) | ((first | ((with_reducible refine at_store 9 ?_); have bo := b9; refine wp_put bo rfl rfl ?_ ?_ ?_ ?_) | ((with_reducible refine at_store 10 ?_); have bo := b10; refine wp_put bo rfl rfl ?_ ?_ ?_ ?_) | ((with_reducible refine at_store 11 ?_); have bo := b11; refine wp_put bo rfl rfl ?_ ?_ ?_ ?_) | ((with_reducible refine at_store 12 ?_); have bo := b12; refine wp_put bo rfl rfl ?_ ?_ ?_ ?_)); (· kernel_rfl); (· first | rfl | kernel_rfl); (· first | decide | exact Nat.le_refl _ | simp [Act.eval, Value.cells] | (simp [Act.eval, Act.put, Value.cells]; done)); intro wn bn hb; dsimp only [Act.put]; simp only [putA, Act.eval, Value.cells, Nat.reduceAdd, putL, exC_size] at bn; have E2 := E.put bo hb; (try replace b2 := b2.but hb (by assumption)); (try replace b9 := b9.but hb (by assumption)); (try replace b10 := b10.but hb (by assumption)); (try replace b12 := b12.but hb (by assumption)); (try replace b11 := b11.but hb (by assumption)); (first | (replace hu := hu.but hb bo.blk (of_decide_eq_true rfl)) | (replace hu := hu.but0 hb (by assumption)) | skip); (first | (replace hv := hv.but hb bo.blk (of_decide_eq_true rfl)) | (replace hv := hv.but0 hb (by assumption)) | skip); clear E bo; have E := E2; clear E2; (try replace b9 := b9.re bn); (try replace b10 := b10.re bn); (try replace b11 := b11.re bn); (try replace b12 := b12.re bn); clear bn hb) | ((first | ((with_reducible refine at_dst 2 ?_); go_simp; (generalize hXn : Array.size (World.heap _) = X2); refine new_block hXn ?_; intro wn bb hx; have b2 := Loc.new bb E hXn) | ((with_reducible refine at_dst 9 ?_); go_simp; (generalize hXn : Array.size (World.heap _) = X9); refine new_block hXn ?_; intro wn bb hx; have b9 := Loc.new bb E hXn) | ((with_reducible refine at_dst 10 ?_); go_simp; (generalize hXn : Array.size (World.heap _) = X10); refine new_block hXn ?_; intro wn bb hx; have b10 := Loc.new bb E hXn) | ((with_reducible refine at_dst 11 ?_); go_simp; (generalize hXn : Array.size (World.heap _) = X11); refine new_block hXn ?_; intro wn bb hx; have b11 := Loc.new bb E hXn) | ((with_reducible refine at_dst 12 ?_); go_simp; (generalize hXn : Array.size (World.heap _) = X12); refine new_block hXn ?_; intro wn bb hx; have b12 := Loc.new bb E hXn)); (try have ⟨nn, nm⟩ := b2.ne hXn); (try have ⟨nn, nm⟩ := b9.ne hXn); (try have ⟨nn, nm⟩ := b10.ne hXn); (try have ⟨nn, nm⟩ := b11.ne hXn); have zz := Nat.le_trans E.size (Nat.le_of_eq hXn); (try have mm := hu.notin (Nat.le_of_eq hXn)); (try have mm := hv.notin (Nat.le_of_eq hXn)); clear bb hXn)); (try replace E := E.ext hx); (try replace b2 := b2.ext hx); (try replace b9 := b9.ext hx); (try replace b10 := b10.ext hx); (try replace b11 := b11.ext hx); (try replace b12 := b12.ext hx); (try replace hu := hu.ext hx); (try replace hv := hv.ext hx); (try replace hcE := bcell E.low); (try replace c2 := b2.cf); (try replace c9 := b9.cf); (try replace c10 := b10.cf); (try replace c11 := b11.cf); (try replace c12 := b12.cf)) | ((with_reducible refine at_dsts [13, 23, 28, 51, 56] ?_ ?_); (· rfl); (refine wp_all (Loc.blk (by assumption)) rfl rfl ?_ ?_ ?_); (· kernel_rfl); (· kernel_rfl)) | (go_at_call 18; ((have hc := qsame_true (u := zX) (v := zX) (zX_ok wn) (zX_ok wn) rfl); (first | with_reducible refine hc.mono ?_ | refine hc.mono ?_); clear hc; unfold BPost); rintro e9 wn ⟨rfl, hx⟩; (try replace E := E.ext hx); (try replace b2 := b2.ext hx); (try replace b9 := b9.ext hx); (try replace b10 := b10.ext hx); (try replace b11 := b11.ext hx); (try replace b12 := b12.ext hx); (try replace hcE := bcell E.low); (try replace c2 := b2.cf); (try replace c9 := b9.cf); (try replace c10 := b10.cf); (try replace c11 := b11.cf); (try replace c12 := b12.cf)))
  first
   | (go_ret
      exact ⟨rfl, E.low⟩)
end Go.Proofs.YtbobbbhgdfapjaaGreat
