/- Td -/
import Derived.Test.YtbobbbhgdfapjaaZR1
import Derived.Test.YtbobbbhgdfapjaaZR2
import Derived.Test.YtbobbbhgdfapjaaZR4
import Derived.Test.YtbobbbhgdfapjaaZR5
import Derived.Test.YtbobbbhgdfapjaaZR10
set_option linter.unusedSimpArgs false
set_option linter.unusedVariables false
namespace Go.Proofs.Ytbobbbhgdfapjaa
set_option maxHeartbeats 8000000
set_option maxRecDepth 100000
open Go.RowKit Tk

/-- the scanner at index k of a source lies in block b -/
def Scn (w : World) (b : Nat) (src : ByteArray) (k : Nat) : Prop :=
 Blk w b 81 #[.string src, .int .i64 k, .int .i64 (loc src.data.toList k).1, .int .i64 (loc src.data.toList k).2]
section
variable {w w' : World} {b k : Nat} {src : ByteArray}
theorem Scn.drew (h : Scn w b src k) : Scn w.drew b src k := h
theorem Scn.drewN (h : Scn w b src k) (n : Nat) : Scn (w.drewN n) b src k := h
theorem Scn.low (h : Scn w b src k) (hb : Below w.heap.size w w') : Scn w' b src k := Blk.low h hb
theorem Scn.alloc (h : Scn w b src k) (o : Obj) : Scn (w.alloc o) b src k := Blk.alloc h o
theorem Scn.but {g : Nat} (h : Scn w b src k) (hb : But g w w') (hg : b ≠ g) : Scn w' b src k := Blk.but h hb hg
theorem Scn.far (h : Scn w b src k) {p : Addr} (hp : b ≠ p.block) (u : Value) : Scn (w.setCell p u) b src k := Blk.far h hp u
theorem Scn.c0 (h : Scn w b src k) : w.cell? ⟨b, 0, none⟩ = some (.string src) := (Blk.cell h 0).trans rfl
theorem Scn.c1 (h : Scn w b src k) : w.cell? ⟨b, 1, none⟩ = some (.int .i64 k) := (Blk.cell h 1).trans rfl
theorem Scn.c2 (h : Scn w b src k) : w.cell? ⟨b, 2, none⟩ = some (.int .i64 (loc src.data.toList k).1) := (Blk.cell h 2).trans rfl
theorem Scn.c3 (h : Scn w b src k) : w.cell? ⟨b, 3, none⟩ = some (.int .i64 (loc src.data.toList k).2) := (Blk.cell h 3).trans rfl
end
theorem fin_bool {b1 b2 : Bool} {w w' : World} (h : b1 = b2) (hw : w = w') : Ending.returned (.bool b1) = .returned (.bool b2) ∧ w = w' := ⟨by rw [h], hw⟩

theorem after_any (l c : Int) (x : UInt8) (w : World) (hl : 0 ≤ l ∧ l ≤ 1000000) (hc : 0 ≤ c ∧ c ≤ 1000000) : Calls Try.prog 82 #[.agg #[.int .i64 l, .int .i64 c], .int .u8 x.toNat] w fun e w' =>
    e = .returned (.agg #[.int .i64 (aft (l, c) x).1, .int .i64 (aft (l, c) x).2]) ∧ Below w.heap.size w w' := by
 by_cases h : (x.toNat : Int) = 10
 · have hb : ((x.toNat : Int) == 10) = true := by simpa using h
   have ha : aft (l, c) x = (l + 1, 1) := by simp [aft, bi, h]
   have HA := Lib.hid ha
   clear ha h
   go_enter Try.func82, Try.ntmps82
   go_wp2_with (first | ((with_reducible refine wpTxt_q ?_ ?_ ?_); rfl; rfl; intro _ _) | ((with_reducible refine wpTxt_w0 ?_ ?_ ?_); rfl; rfl; intro _ _) | ((with_reducible refine wpTxt_s ?_ ?_); rfl; intro _ _; go_simp) | ((with_reducible refine wpTxt_sw ?_ ?_); rfl; intro _ _; go_simp) | (with_reducible refine wpTxt_nil ?_) | ((with_reducible refine wp_region_t mixed ?_ ?_); decide +kernel; intro _ _))
   refine bodyPost_ret (v := .agg #[.int .i64 (l + 1), .int .i64 1]) (by simp [results, Try.f82, go_sem]) rfl ⟨?_, ?_⟩
   · rw [HA.out]
   · exact ((Below.refl _ _).alloc (Nat.le_refl _) _).alloc (by simp) _
 · have hb : ((x.toNat : Int) == 10) = false := by simpa using h
   have ha : aft (l, c) x = (l, c + 1) := by simp [aft, bi, h]
   have HA := Lib.hid ha
   clear ha h
   go_enter Try.func82, Try.ntmps82
   go_wp2_with (first | ((with_reducible refine wpTxt_q ?_ ?_ ?_); rfl; rfl; intro _ _) | ((with_reducible refine wpTxt_w0 ?_ ?_ ?_); rfl; rfl; intro _ _) | ((with_reducible refine wpTxt_s ?_ ?_); rfl; intro _ _; go_simp) | ((with_reducible refine wpTxt_sw ?_ ?_); rfl; intro _ _; go_simp) | (with_reducible refine wpTxt_nil ?_) | ((with_reducible refine wp_region_t mixed ?_ ?_); decide +kernel; intro _ _))
   refine bodyPost_ret (v := .agg #[.int .i64 l, .int .i64 (c + 1)]) (by simp [results, Try.f82, go_sem]) rfl ⟨?_, ?_⟩
   · rw [HA.out]
   · exact ((Below.refl _ _).alloc (Nat.le_refl _) _).alloc (by simp) _

theorem sended_any (b : Nat) (src : ByteArray) (k : Nat) (w : World) (h : Scn w b src k) :
    Calls Try.prog 39 #[.pointer (some ⟨b, 0, none⟩)] w fun e w' => e = .returned (.bool (decide (src.size ≤ k))) ∧ w.drew = w' := by
 have h0 := h.c0
 have h1 := h.c1
 go_enter Try.func39, Try.ntmps39
 go_wp2_with (first | ((with_reducible refine wpTxt_q ?_ ?_ ?_); rfl; rfl; intro _ _) | ((with_reducible refine wpTxt_w0 ?_ ?_ ?_); rfl; rfl; intro _ _) | ((with_reducible refine wpTxt_s ?_ ?_); rfl; intro _ _; go_simp) | ((with_reducible refine wpTxt_sw ?_ ?_); rfl; intro _ _; go_simp) | (with_reducible refine wpTxt_nil ?_) | ((with_reducible refine wp_region_t mixed ?_ ?_); decide +kernel; intro _ _))
 go_ret
 exact fin_bool (by simp) rfl

theorem fin_int {k : IntKind} {a b : Int} {w w' : World} (h : a = b) (hw : w = w') : Ending.returned (.int k a) = .returned (.int k b) ∧ w = w' := ⟨by rw [h], hw⟩
theorem snext_any (b : Nat) (src : ByteArray) (k : Nat) (w : World) (h : Scn w b src k) (hk : k < src.size) :
    Calls Try.prog 53 #[.pointer (some ⟨b, 0, none⟩)] w fun e w' => e = .returned (.int .i32 (src[k].toNat)) ∧ w.drew.drew = w' := by
 have h0 := h.c0
 have h1 := h.c1
 go_enter Try.func53, Try.ntmps53
 go_wp2_with (first | ((with_reducible refine wpTxt_q ?_ ?_ ?_); rfl; rfl; intro _ _) | ((with_reducible refine wpTxt_w0 ?_ ?_ ?_); rfl; rfl; intro _ _) | ((with_reducible refine wpTxt_s ?_ ?_); rfl; intro _ _; go_simp) | ((with_reducible refine wpTxt_sw ?_ ?_); rfl; intro _ _; go_simp) | (with_reducible refine wpTxt_nil ?_) | ((with_reducible refine wp_region_t mixed ?_ ?_); decide +kernel; intro _ _) | (go_at_call 39; ((with_reducible refine (sended_any _ _ _ _ (by assumption)).mono ?_); rintro e w' ⟨rfl, rfl⟩)))
 go_ret
 exact fin_int rfl rfl

theorem sfault_any (b : Nat) (src : ByteArray) (k : Nat) (c : Int) (w : World) (h : Scn w b src k) :
    Calls Try.prog 61 #[.pointer (some ⟨b, 0, none⟩), .int .i64 c] w fun e w' =>
     e = .returned (.agg #[.int .i64 c, .int .i64 (loc src.data.toList k).1, .int .i64 (loc src.data.toList k).2, .string ⟨#[]⟩]) ∧ Below w.heap.size w w' := by
 have h2 := h.c2
 have h3 := h.c3
 have hl := Blk.lt h
 go_enter Try.func61, Try.ntmps61
 go_wp2_with (first | ((with_reducible refine wpTxt_q ?_ ?_ ?_); rfl; rfl; intro _ _) | ((with_reducible refine wpTxt_w0 ?_ ?_ ?_); rfl; rfl; intro _ _) | ((with_reducible refine wpTxt_s ?_ ?_); rfl; intro _ _; go_simp) | ((with_reducible refine wpTxt_sw ?_ ?_); rfl; intro _ _; go_simp) | (with_reducible refine wpTxt_nil ?_) | ((with_reducible refine wp_region_t mixed ?_ ?_); decide +kernel; intro _ _))
 refine bodyPost_ret (v := .agg #[.int .i64 c, .int .i64 (loc src.data.toList k).1, .int .i64 (loc src.data.toList k).2, .string ⟨#[]⟩]) (by simp [results, Try.f61, go_sem]) rfl ⟨rfl, ?_⟩
 exact (Below.refl _ _).alloc (Nat.le_refl _) _

theorem Scn.step {w w' : World} {b : Nat} {src : ByteArray} {k : Nat} (h : Scn w b src k) (hk : k < src.size) {w1 : World} (hb : Below w.heap.size w w1)
    (hw : w' = (((w1.setCell ⟨b, 2, none⟩ (.int .i64 (aft (loc src.data.toList k) src[k]).1)).setCell ⟨b, 3, none⟩ (.int .i64 (aft (loc src.data.toList k) src[k]).2)).setCell ⟨b, 1, none⟩ (.int .i64 (k + 1)))) : Scn w' b src (k + 1) ∧ But b w w' := by
 have h1 : Blk w1 b _ _ := Blk.low h hb
 have h2 := ((h1.set 2 (.int .i64 (aft (loc src.data.toList k) src[k]).1)).set 3 (.int .i64 (aft (loc src.data.toList k) src[k]).2)).set 1 (.int .i64 (k + 1))
 subst hw
 refine ⟨?_, (((But.of_below hb).set (p := ⟨b, 2, none⟩) (.inl rfl) _).set (p := ⟨b, 3, none⟩) (.inl rfl) _).set (p := ⟨b, 1, none⟩) (.inl rfl) _⟩
 unfold Scn
 have e : loc src.data.toList (k + 1) = aft (loc src.data.toList k) src[k] := by
  rw [loc_succ _ k (by rw [sz]; exact hk), at_ src k hk]
 rw [e]
 exact h2

theorem sskip_any (b : Nat) (src : ByteArray) (k n : Nat) (w : World) (h : Scn w b src k) (hs : src.size ≤ 65536) (hk : k + n ≤ src.size) :
    Calls Try.prog 54 #[.pointer (some ⟨b, 0, none⟩), .int .i64 n] w fun e w' => e = .returned (.tuple #[]) ∧ Scn w' b src (k + n) ∧ But b w w' := by
 go_enter Try.func54, Try.ntmps54
 go_wp2_with (first | ((with_reducible refine wpTxt_q ?_ ?_ ?_); rfl; rfl; intro _ _) | ((with_reducible refine wpTxt_w0 ?_ ?_ ?_); rfl; rfl; intro _ _) | ((with_reducible refine wpTxt_s ?_ ?_); rfl; intro _ _; go_simp) | ((with_reducible refine wpTxt_sw ?_ ?_); rfl; intro _ _; go_simp) | (with_reducible refine wpTxt_nil ?_) | ((with_reducible refine wp_region_t mixed ?_ ?_); decide +kernel; intro _ _))
 go_loopw [5] (fun i wr => ∃ j m : Nat, j ≤ n ∧ k + j ≤ m ∧ m ≤ k + j ∧ i = .int .i64 j ∧ Hid (Scn wr b src m) ∧ Hid (But b w wr)) (fun i _ => n - (intOf i).toNat)
 case atStart => exact ⟨0, k, by omega, by omega, by omega, rfl, h, But.refl _ _⟩
 case round =>
  obtain ⟨j, m, hj, hm1, hm2, rfl, hS, hB⟩ := hrel
  have h0 := hS.out.c0
  have h1 := hS.out.c1
  have h2 := hS.out.c2
  have h3 := hS.out.c3
  have f1 := Blk.free hS.out 1
  have f2 := Blk.free hS.out 2
  have f3 := Blk.free hS.out 3
  have hlt := Blk.lt hS.out
  have hl := loc_le src.data.toList m
  by_cases hn : j < n
  · have hms : m < src.size := by omega
    have hdr : Hid (Scn wr.drew b src m) := Blk.drew hS.out
    clear h0 h1 h2 h3 f1 f2 f3
    have h0 := hdr.out.c0
    have h1 := hdr.out.c1
    have h2 := hdr.out.c2
    have h3 := hdr.out.c3
    go_wp2_with (first | ((with_reducible refine wpTxt_q ?_ ?_ ?_); rfl; rfl; intro _ _) | ((with_reducible refine wpTxt_w0 ?_ ?_ ?_); rfl; rfl; intro _ _) | ((with_reducible refine wpTxt_s ?_ ?_); rfl; intro _ _; go_simp) | ((with_reducible refine wpTxt_sw ?_ ?_); rfl; intro _ _; go_simp) | (with_reducible refine wpTxt_nil ?_) | ((with_reducible refine wp_region_t mixed ?_ ?_); decide +kernel; intro _ _) | (go_at_call 82; ((with_reducible refine (after_any _ _ src[m] _ ?_ ?_).mono ?_); (· omega); (· omega); rintro e w1 ⟨rfl, hb1⟩; have hS1 : Hid (Scn w1 b src m) := Blk.low hdr.out hb1; have g0 := hS1.out.c0; have g1 := hS1.out.c1; have g2 := hS1.out.c2; have g3 := hS1.out.c3; have f1 := Blk.free hS1.out 1; have f2 := Blk.free hS1.out 2; have f3 := Blk.free hS1.out 3)))
    go_roundw
    case rel =>
     have hst := Scn.step (Blk.drew hS.out : Scn wr.drew b src m) hms hb1 rfl
     exact ⟨j + 1, m + 1, by omega, by omega, by omega, by go_num, hst.1, (hB.out.drew).trans hst.2⟩
    case measure => simp [intOf]; omega
  · go_wp2
    go_end0
    have e : m = k + n := by omega
    rw [← e]
    exact ⟨rfl, hS.out, hB.out⟩

theorem sskip_one (b : Nat) (src : ByteArray) (k : Nat) (w : World) (h : Scn w b src k) (hs : src.size ≤ 65536) (hk : k + 1 ≤ src.size) :
    Calls Try.prog 54 #[.pointer (some ⟨b, 0, none⟩), .int .i64 1] w fun e w' => e = .returned (.tuple #[]) ∧ Scn w' b src (k + 1) ∧ But b w w' := sskip_any b src k 1 w h hs hk
theorem sword_any (b : Nat) (src : ByteArray) (k n : Nat) (w : World) (h : Scn w b src k) (hs : src.size ≤ 65536) (hk : k + n ≤ src.size) :
    Calls Try.prog 62 #[.pointer (some ⟨b, 0, none⟩), .int .i64 n] w fun e w' => e = .returned (.string (src.extract k (k + n))) ∧ Scn w' b src (k + n) ∧ But b w w' := by
 have h0 := h.c0
 have h1 := h.c1
 have hi : IntKind.i64.wrap ((k : Int) + n) = k + n := IntWalk.i64_in _ ⟨by omega, by omega⟩
 go_enter Try.func62, Try.ntmps62
 go_wp2_with (first | ((with_reducible refine wpTxt_q ?_ ?_ ?_); rfl; rfl; intro _ _) | ((with_reducible refine wpTxt_w0 ?_ ?_ ?_); rfl; rfl; intro _ _) | ((with_reducible refine wpTxt_s ?_ ?_); rfl; intro _ _; go_simp) | ((with_reducible refine wpTxt_sw ?_ ?_); rfl; intro _ _; go_simp) | (with_reducible refine wpTxt_nil ?_) | ((with_reducible refine wp_region_t mixed ?_ ?_); decide +kernel; intro _ _) | (go_at_call 54; refine (sskip_any b src k n _ (Blk.drew h) hs hk).mono ?_; rintro e w1 ⟨rfl, hS1, hB1⟩))
 go_ret
 exact ⟨rfl, hS1, ((But.refl _ _).drew).trans hB1⟩

theorem srun_name_fn (c : UInt8) (w : World) : Calls Try.prog 84 #[.int .i32 c.toNat] w fun e w' => e = .returned (.bool (nmB c)) ∧ w = w' := by
 first
  | exact digit_any _ w
  | exact printable_any _ w
  | (cases hl : letB (c.toNat : Int)
     · go_enter Try.func84, Try.ntmps84
       go_wp2_with (first | (go_at_call 55; ((with_reducible refine (letter_any _ _).mono ?_); rintro e w' ⟨rfl, rfl⟩)) | (go_at_call 57; ((with_reducible refine (digit_any _ _).mono ?_); rintro e w' ⟨rfl, rfl⟩)))
       go_ret
       exact fin_bool (by simp [nmB, bi, hl]) rfl
     · go_enter Try.func84, Try.ntmps84
       go_wp2_with (first | (go_at_call 55; ((with_reducible refine (letter_any _ _).mono ?_); rintro e w' ⟨rfl, rfl⟩)) | (go_at_call 57; ((with_reducible refine (digit_any _ _).mono ?_); rintro e w' ⟨rfl, rfl⟩)))
       go_ret
       exact fin_bool (by simp [nmB, bi, hl]) rfl)
theorem srun_name (b : Nat) (src : ByteArray) (k : Nat) (w : World) (h : Scn w b src k) (hs : src.size ≤ 65536) (hk : k ≤ src.size) :
    Calls Try.prog 83 #[.pointer (some ⟨b, 0, none⟩), .func (.func 84) #[] #[]] w fun e w' => e = .returned (.int .i64 (tw nmB (src.data.toList.drop k))) ∧ ∃ n, w.drewN n = w' := by
 have h0 := h.c0
 have h1 := h.c1
 go_enter Try.func83, Try.ntmps83
 go_wp2_with (first | ((with_reducible refine wpTxt_q ?_ ?_ ?_); rfl; rfl; intro _ _) | ((with_reducible refine wpTxt_w0 ?_ ?_ ?_); rfl; rfl; intro _ _) | ((with_reducible refine wpTxt_s ?_ ?_); rfl; intro _ _; go_simp) | ((with_reducible refine wpTxt_sw ?_ ?_); rfl; intro _ _; go_simp) | (with_reducible refine wpTxt_nil ?_) | ((with_reducible refine wp_region_t mixed ?_ ?_); decide +kernel; intro _ _))
 go_loopw [5] (fun i wr => ∃ j : Nat, k + j ≤ src.size ∧ i = .int .i64 j ∧ Hid (tw nmB (src.data.toList.drop k) = tw nmB (src.data.toList.drop (k + j)) + j) ∧ ∃ n, wr = w.drewN n) (fun i _ => src.size - (intOf i).toNat)
 case atStart => exact ⟨0, by omega, rfl, rfl, 0, rfl⟩
 case round =>
  obtain ⟨j, hj, rfl, hT, n, rfl⟩ := hrel
  have hi : IntKind.i64.wrap ((k : Int) + j) = k + j := IntWalk.i64_in _ ⟨by omega, by omega⟩
  have hi2 : ((k : Int) + j).toNat = k + j := by omega
  by_cases hlt : k + j < src.size
  · have hlt2 : (k : Int) + j < src.size := by omega
    cases hp : nmB src[k + j]
    · go_wp2_with (first | ((with_reducible refine wpTxt_q ?_ ?_ ?_); rfl; rfl; intro _ _) | ((with_reducible refine wpTxt_w0 ?_ ?_ ?_); rfl; rfl; intro _ _) | ((with_reducible refine wpTxt_s ?_ ?_); rfl; intro _ _; go_simp) | ((with_reducible refine wpTxt_sw ?_ ?_); rfl; intro _ _; go_simp) | (with_reducible refine wpTxt_nil ?_) | ((with_reducible refine wp_region_t mixed ?_ ?_); decide +kernel; intro _ _) | (go_at_call 84; (try simp only [wrap32_byte, kwrap32_byte]); ((with_reducible refine (srun_name_fn src[k + j] _).mono ?_); rintro e w' ⟨rfl, rfl⟩)))
      go_ret
      refine ⟨ret_int (by rw [hT.out, tw_no _ _ _ (by rw [sz]; exact hlt) (by rw [at_ src _ hlt]; exact hp)]; omega), n + 1, rfl⟩
    · go_wp2_with (first | ((with_reducible refine wpTxt_q ?_ ?_ ?_); rfl; rfl; intro _ _) | ((with_reducible refine wpTxt_w0 ?_ ?_ ?_); rfl; rfl; intro _ _) | ((with_reducible refine wpTxt_s ?_ ?_); rfl; intro _ _; go_simp) | ((with_reducible refine wpTxt_sw ?_ ?_); rfl; intro _ _; go_simp) | (with_reducible refine wpTxt_nil ?_) | ((with_reducible refine wp_region_t mixed ?_ ?_); decide +kernel; intro _ _) | (go_at_call 84; (try simp only [wrap32_byte, kwrap32_byte]); ((with_reducible refine (srun_name_fn src[k + j] _).mono ?_); rintro e w' ⟨rfl, rfl⟩)))
      go_roundw
      case rel =>
       refine ⟨j + 1, by omega, by go_num, ?_, n + 1, rfl⟩
       refine hT.out.trans ?_
       rw [tw_yes _ _ (k + j) (by rw [sz]; exact hlt) (by rw [at_ src _ hlt]; exact hp), show k + (j + 1) = k + j + 1 by omega]
       omega
      case measure => simp [intOf]; omega
  · have hlt2 : ¬ (k : Int) + j < src.size := by omega
    go_wp2_with (first | ((with_reducible refine wpTxt_q ?_ ?_ ?_); rfl; rfl; intro _ _) | ((with_reducible refine wpTxt_w0 ?_ ?_ ?_); rfl; rfl; intro _ _) | ((with_reducible refine wpTxt_s ?_ ?_); rfl; intro _ _; go_simp) | ((with_reducible refine wpTxt_sw ?_ ?_); rfl; intro _ _; go_simp) | (with_reducible refine wpTxt_nil ?_) | ((with_reducible refine wp_region_t mixed ?_ ?_); decide +kernel; intro _ _) | (go_at_call 84; (try simp only [wrap32_byte, kwrap32_byte]); ((with_reducible refine (srun_name_fn src[k + j] _).mono ?_); rintro e w' ⟨rfl, rfl⟩)))
    go_ret
    refine ⟨ret_int (by rw [hT.out, tw_end _ _ _ (by rw [sz]; omega)]; omega), n + 1, rfl⟩
theorem srun_digit_fn (c : UInt8) (w : World) : Calls Try.prog 57 #[.int .i32 c.toNat] w fun e w' => e = .returned (.bool (dgB c)) ∧ w = w' := by
 first
  | exact digit_any _ w
  | exact printable_any _ w
  | (cases hl : letB (c.toNat : Int)
     · go_enter Try.func57, Try.ntmps57
       go_wp2_with (first | (go_at_call 55; ((with_reducible refine (letter_any _ _).mono ?_); rintro e w' ⟨rfl, rfl⟩)) | (go_at_call 57; ((with_reducible refine (digit_any _ _).mono ?_); rintro e w' ⟨rfl, rfl⟩)))
       go_ret
       exact fin_bool (by simp [nmB, bi, hl]) rfl
     · go_enter Try.func57, Try.ntmps57
       go_wp2_with (first | (go_at_call 55; ((with_reducible refine (letter_any _ _).mono ?_); rintro e w' ⟨rfl, rfl⟩)) | (go_at_call 57; ((with_reducible refine (digit_any _ _).mono ?_); rintro e w' ⟨rfl, rfl⟩)))
       go_ret
       exact fin_bool (by simp [nmB, bi, hl]) rfl)
theorem srun_digit (b : Nat) (src : ByteArray) (k : Nat) (w : World) (h : Scn w b src k) (hs : src.size ≤ 65536) (hk : k ≤ src.size) :
    Calls Try.prog 83 #[.pointer (some ⟨b, 0, none⟩), .func (.func 57) #[] #[]] w fun e w' => e = .returned (.int .i64 (tw dgB (src.data.toList.drop k))) ∧ ∃ n, w.drewN n = w' := by
 have h0 := h.c0
 have h1 := h.c1
 go_enter Try.func83, Try.ntmps83
 go_wp2_with (first | ((with_reducible refine wpTxt_q ?_ ?_ ?_); rfl; rfl; intro _ _) | ((with_reducible refine wpTxt_w0 ?_ ?_ ?_); rfl; rfl; intro _ _) | ((with_reducible refine wpTxt_s ?_ ?_); rfl; intro _ _; go_simp) | ((with_reducible refine wpTxt_sw ?_ ?_); rfl; intro _ _; go_simp) | (with_reducible refine wpTxt_nil ?_) | ((with_reducible refine wp_region_t mixed ?_ ?_); decide +kernel; intro _ _))
 go_loopw [5] (fun i wr => ∃ j : Nat, k + j ≤ src.size ∧ i = .int .i64 j ∧ Hid (tw dgB (src.data.toList.drop k) = tw dgB (src.data.toList.drop (k + j)) + j) ∧ ∃ n, wr = w.drewN n) (fun i _ => src.size - (intOf i).toNat)
 case atStart => exact ⟨0, by omega, rfl, rfl, 0, rfl⟩
 case round =>
  obtain ⟨j, hj, rfl, hT, n, rfl⟩ := hrel
  have hi : IntKind.i64.wrap ((k : Int) + j) = k + j := IntWalk.i64_in _ ⟨by omega, by omega⟩
  have hi2 : ((k : Int) + j).toNat = k + j := by omega
  by_cases hlt : k + j < src.size
  · have hlt2 : (k : Int) + j < src.size := by omega
    cases hp : dgB src[k + j]
    · go_wp2_with (first | ((with_reducible refine wpTxt_q ?_ ?_ ?_); rfl; rfl; intro _ _) | ((with_reducible refine wpTxt_w0 ?_ ?_ ?_); rfl; rfl; intro _ _) | ((with_reducible refine wpTxt_s ?_ ?_); rfl; intro _ _; go_simp) | ((with_reducible refine wpTxt_sw ?_ ?_); rfl; intro _ _; go_simp) | (with_reducible refine wpTxt_nil ?_) | ((with_reducible refine wp_region_t mixed ?_ ?_); decide +kernel; intro _ _) | (go_at_call 57; (try simp only [wrap32_byte, kwrap32_byte]); ((with_reducible refine (srun_digit_fn src[k + j] _).mono ?_); rintro e w' ⟨rfl, rfl⟩)))
      go_ret
      refine ⟨ret_int (by rw [hT.out, tw_no _ _ _ (by rw [sz]; exact hlt) (by rw [at_ src _ hlt]; exact hp)]; omega), n + 1, rfl⟩
    · go_wp2_with (first | ((with_reducible refine wpTxt_q ?_ ?_ ?_); rfl; rfl; intro _ _) | ((with_reducible refine wpTxt_w0 ?_ ?_ ?_); rfl; rfl; intro _ _) | ((with_reducible refine wpTxt_s ?_ ?_); rfl; intro _ _; go_simp) | ((with_reducible refine wpTxt_sw ?_ ?_); rfl; intro _ _; go_simp) | (with_reducible refine wpTxt_nil ?_) | ((with_reducible refine wp_region_t mixed ?_ ?_); decide +kernel; intro _ _) | (go_at_call 57; (try simp only [wrap32_byte, kwrap32_byte]); ((with_reducible refine (srun_digit_fn src[k + j] _).mono ?_); rintro e w' ⟨rfl, rfl⟩)))
      go_roundw
      case rel =>
       refine ⟨j + 1, by omega, by go_num, ?_, n + 1, rfl⟩
       refine hT.out.trans ?_
       rw [tw_yes _ _ (k + j) (by rw [sz]; exact hlt) (by rw [at_ src _ hlt]; exact hp), show k + (j + 1) = k + j + 1 by omega]
       omega
      case measure => simp [intOf]; omega
  · have hlt2 : ¬ (k : Int) + j < src.size := by omega
    go_wp2_with (first | ((with_reducible refine wpTxt_q ?_ ?_ ?_); rfl; rfl; intro _ _) | ((with_reducible refine wpTxt_w0 ?_ ?_ ?_); rfl; rfl; intro _ _) | ((with_reducible refine wpTxt_s ?_ ?_); rfl; intro _ _; go_simp) | ((with_reducible refine wpTxt_sw ?_ ?_); rfl; intro _ _; go_simp) | (with_reducible refine wpTxt_nil ?_) | ((with_reducible refine wp_region_t mixed ?_ ?_); decide +kernel; intro _ _) | (go_at_call 57; (try simp only [wrap32_byte, kwrap32_byte]); ((with_reducible refine (srun_digit_fn src[k + j] _).mono ?_); rintro e w' ⟨rfl, rfl⟩)))
    go_ret
    refine ⟨ret_int (by rw [hT.out, tw_end _ _ _ (by rw [sz]; omega)]; omega), n + 1, rfl⟩
theorem srun_print_fn (c : UInt8) (w : World) : Calls Try.prog 85 #[.int .i32 c.toNat] w fun e w' => e = .returned (.bool (ptB c)) ∧ w = w' := by
 first
  | exact digit_any _ w
  | exact printable_any _ w
  | (cases hl : letB (c.toNat : Int)
     · go_enter Try.func85, Try.ntmps85
       go_wp2_with (first | (go_at_call 55; ((with_reducible refine (letter_any _ _).mono ?_); rintro e w' ⟨rfl, rfl⟩)) | (go_at_call 57; ((with_reducible refine (digit_any _ _).mono ?_); rintro e w' ⟨rfl, rfl⟩)))
       go_ret
       exact fin_bool (by simp [nmB, bi, hl]) rfl
     · go_enter Try.func85, Try.ntmps85
       go_wp2_with (first | (go_at_call 55; ((with_reducible refine (letter_any _ _).mono ?_); rintro e w' ⟨rfl, rfl⟩)) | (go_at_call 57; ((with_reducible refine (digit_any _ _).mono ?_); rintro e w' ⟨rfl, rfl⟩)))
       go_ret
       exact fin_bool (by simp [nmB, bi, hl]) rfl)
theorem srun_print (b : Nat) (src : ByteArray) (k : Nat) (w : World) (h : Scn w b src k) (hs : src.size ≤ 65536) (hk : k ≤ src.size) :
    Calls Try.prog 83 #[.pointer (some ⟨b, 0, none⟩), .func (.func 85) #[] #[]] w fun e w' => e = .returned (.int .i64 (tw ptB (src.data.toList.drop k))) ∧ ∃ n, w.drewN n = w' := by
 have h0 := h.c0
 have h1 := h.c1
 go_enter Try.func83, Try.ntmps83
 go_wp2_with (first | ((with_reducible refine wpTxt_q ?_ ?_ ?_); rfl; rfl; intro _ _) | ((with_reducible refine wpTxt_w0 ?_ ?_ ?_); rfl; rfl; intro _ _) | ((with_reducible refine wpTxt_s ?_ ?_); rfl; intro _ _; go_simp) | ((with_reducible refine wpTxt_sw ?_ ?_); rfl; intro _ _; go_simp) | (with_reducible refine wpTxt_nil ?_) | ((with_reducible refine wp_region_t mixed ?_ ?_); decide +kernel; intro _ _))
 go_loopw [5] (fun i wr => ∃ j : Nat, k + j ≤ src.size ∧ i = .int .i64 j ∧ Hid (tw ptB (src.data.toList.drop k) = tw ptB (src.data.toList.drop (k + j)) + j) ∧ ∃ n, wr = w.drewN n) (fun i _ => src.size - (intOf i).toNat)
 case atStart => exact ⟨0, by omega, rfl, rfl, 0, rfl⟩
 case round =>
  obtain ⟨j, hj, rfl, hT, n, rfl⟩ := hrel
  have hi : IntKind.i64.wrap ((k : Int) + j) = k + j := IntWalk.i64_in _ ⟨by omega, by omega⟩
  have hi2 : ((k : Int) + j).toNat = k + j := by omega
  by_cases hlt : k + j < src.size
  · have hlt2 : (k : Int) + j < src.size := by omega
    cases hp : ptB src[k + j]
    · go_wp2_with (first | ((with_reducible refine wpTxt_q ?_ ?_ ?_); rfl; rfl; intro _ _) | ((with_reducible refine wpTxt_w0 ?_ ?_ ?_); rfl; rfl; intro _ _) | ((with_reducible refine wpTxt_s ?_ ?_); rfl; intro _ _; go_simp) | ((with_reducible refine wpTxt_sw ?_ ?_); rfl; intro _ _; go_simp) | (with_reducible refine wpTxt_nil ?_) | ((with_reducible refine wp_region_t mixed ?_ ?_); decide +kernel; intro _ _) | (go_at_call 85; (try simp only [wrap32_byte, kwrap32_byte]); ((with_reducible refine (srun_print_fn src[k + j] _).mono ?_); rintro e w' ⟨rfl, rfl⟩)))
      go_ret
      refine ⟨ret_int (by rw [hT.out, tw_no _ _ _ (by rw [sz]; exact hlt) (by rw [at_ src _ hlt]; exact hp)]; omega), n + 1, rfl⟩
    · go_wp2_with (first | ((with_reducible refine wpTxt_q ?_ ?_ ?_); rfl; rfl; intro _ _) | ((with_reducible refine wpTxt_w0 ?_ ?_ ?_); rfl; rfl; intro _ _) | ((with_reducible refine wpTxt_s ?_ ?_); rfl; intro _ _; go_simp) | ((with_reducible refine wpTxt_sw ?_ ?_); rfl; intro _ _; go_simp) | (with_reducible refine wpTxt_nil ?_) | ((with_reducible refine wp_region_t mixed ?_ ?_); decide +kernel; intro _ _) | (go_at_call 85; (try simp only [wrap32_byte, kwrap32_byte]); ((with_reducible refine (srun_print_fn src[k + j] _).mono ?_); rintro e w' ⟨rfl, rfl⟩)))
      go_roundw
      case rel =>
       refine ⟨j + 1, by omega, by go_num, ?_, n + 1, rfl⟩
       refine hT.out.trans ?_
       rw [tw_yes _ _ (k + j) (by rw [sz]; exact hlt) (by rw [at_ src _ hlt]; exact hp), show k + (j + 1) = k + j + 1 by omega]
       omega
      case measure => simp [intOf]; omega
  · have hlt2 : ¬ (k : Int) + j < src.size := by omega
    go_wp2_with (first | ((with_reducible refine wpTxt_q ?_ ?_ ?_); rfl; rfl; intro _ _) | ((with_reducible refine wpTxt_w0 ?_ ?_ ?_); rfl; rfl; intro _ _) | ((with_reducible refine wpTxt_s ?_ ?_); rfl; intro _ _; go_simp) | ((with_reducible refine wpTxt_sw ?_ ?_); rfl; intro _ _; go_simp) | (with_reducible refine wpTxt_nil ?_) | ((with_reducible refine wp_region_t mixed ?_ ?_); decide +kernel; intro _ _) | (go_at_call 85; (try simp only [wrap32_byte, kwrap32_byte]); ((with_reducible refine (srun_print_fn src[k + j] _).mono ?_); rintro e w' ⟨rfl, rfl⟩)))
    go_ret
    refine ⟨ret_int (by rw [hT.out, tw_end _ _ _ (by rw [sz]; omega)]; omega), n + 1, rfl⟩
end Go.Proofs.Ytbobbbhgdfapjaa
