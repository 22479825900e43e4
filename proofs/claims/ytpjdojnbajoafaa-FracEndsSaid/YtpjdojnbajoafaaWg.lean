/- mainsheetref03's Scaled: its contract, whatever the world. -/
import Derived.Test.YtpjdojnbajoafaaWf
import Derived.ChangeKeysEq
import Derived.Test.YtpjdojnbajoafaaWw
namespace Go.Proofs.Ytpjdojnbajoafaa
open Go.RowKit

theorem bits_items (d m n : Nat) (w : World) (is : List Nat) (h : ∀ i ∈ is, i < 256) :
    (Op.eqItems (d + 1) 4 1 (bA m) (bA n) is).run Try.prog w = .ok (is.all fun i => m.testBit i == n.testBit i) w := by
  induction is with
  | nil => simp [Op.eqItems]
  | cons i is ih =>
    have hi := h i (by simp)
    have p1 : ∀ x, (part 4 (bA x) (i * 1)).run Try.prog w = .ok (.bool (x.testBit i)) w := fun x => by
      rw [Nat.mul_one]
      simp [part, isAgg, bA_get x i hi, go_sem]
    simp only [Op.eqItems, Sem.run_bind, p1, Result.andThen_ok, run_equalIn_bool' w d 4 _ _ Try.underlying4]
    cases hx : (m.testBit i == n.testBit i)
    · simp [hx]
    · simp only [Bool.not_true, Bool.false_eq_true, if_false, List.all_cons, hx, Bool.true_and]
      exact ih fun j hj => h j (by simp [hj])
theorem bool_info : (Try.prog.info? 4).map (fun i => i.size) = some 1 := by kernel_rfl
theorem bits_neq (m : Nat) (w : World) : (binOp .neq 32 (.agg (bA m)) (.agg (bA 0))).run Try.prog w = .ok (.bool (decide (m % 2 ^ 256 ≠ 0))) w := by
  obtain ⟨i, hi⟩ : ∃ i, Try.prog.info? 4 = some i := by
    cases h : Try.prog.info? 4 with
    | none => have := bool_info; simp [h] at this
    | some i => exact ⟨i, rfl⟩
  have hc : Try.prog.cellsOf 4 = 1 := by kernel_rfl
  rw [run_neq_struct, run_equalIn_array w 9999 _ _ Try.underlying32 hi, hc, bits_items 9998 m 0 w _ (fun i h => List.mem_range.1 h)]
  simp only [Result.andThen_ok]
  congr 2
  rw [Bool.eq_iff_iff]
  simp only [Bool.not_eq_true', List.all_eq_false, List.mem_range, Nat.zero_testBit, beq_false, decide_eq_true_eq, ne_eq]
  constructor
  · rintro ⟨j, hj, hx⟩ h0
    have : (m % 2 ^ 256).testBit j = true := by rw [Nat.testBit_mod_two_pow]; simp [hj, hx]
    rw [h0] at this
    simp at this
  · intro h0
    obtain ⟨j, hj⟩ := Nat.exists_testBit_of_ne_zero h0
    rw [Nat.testBit_mod_two_pow] at hj
    simp only [Bool.and_eq_true, decide_eq_true_eq] at hj
    exact ⟨j, hj.1, by simp [hj.2]⟩

theorem of_lo (d : Nat) (w : World) (hd : d < 2 ^ 64) :
    Calls Try.prog 19 #[.agg #[.int .u64 0, .int .u64 d]] w fun e w' => e = .returned (.agg (bA d)) ∧ Below w.heap.size w w' :=
  of_any 0 d d w (by decide) hd (by omega)

theorem wpB_loadG {ops : Array Oper} {rest : List Oper} {o : Oper} {a : Act} {w : World} {Q : Exit → Act → World → Prop} (x : Operand) (ho : o.op = .load 32 x) (g : Nat)
    (hx : a.eval x = .pointer (some ⟨g, 0, none⟩)) (n : Nat) (hg : IsB w g n) (hw : Region.wanted o (yielded ops a.tmps) = true) (h : wpList Try.prog ops Q rest (a.put o.dst (.agg (bA n))) w) : wpList Try.prog ops Q (o :: rest) a w :=
  wpList_step fun _ hK => by
    rw [if_pos hw]
    exact wp_load_row _ x ho g hx _ _ _ _ hg Try.underlying32 rfl (bits_size n) (hK _ _ h)

/-- A product over a number, rounded up, if so. -/
def scl (n m d : Nat) (up : Bool) : Nat := n * m / d + (if up && n * m % d != 0 then 1 else 0)

set_option maxRecDepth 100000 in
set_option maxHeartbeats 1000000 in
theorem scaled_any (h l n m d : Nat) (up : Bool) (w : World) (hh : h < 2 ^ 64) (hl : l < 2 ^ 64) (hn : h * 2 ^ 64 + l = n) (hm : m < 2 ^ 64) (hd0 : 0 < d) (hd : d < 2 ^ 64) :
    Calls Try.prog 21 #[.agg #[.int .u64 h, .int .u64 l], .int .u64 m, .int .u64 d, .bool up] w fun e w' =>
      ∃ h' l' : Nat, e = .returned (.tuple #[.agg #[.int .u64 h', .int .u64 l'], .bool (fits (scl n m d up))]) ∧ h' < 2 ^ 64 ∧ l' < 2 ^ 64 ∧ h' * 2 ^ 64 + l' = scl n m d up % 2 ^ 128 ∧ Below w.heap.size w w' := by
  have hz := bits_zero
  have HH := Lib.hid hh
  have HL := Lib.hid hl
  have HN := Lib.hid hn
  have HM := Lib.hid hm
  have HD0 := Lib.hid hd0
  have HD := Lib.hid hd
  have HNM := Lib.hid (show n * m < 2 ^ 256 from Nat.lt_of_lt_of_le (Nat.mul_lt_mul'' (show n < 2 ^ 128 by omega) hm) (by decide))
  clear hh hl hn hm hd0 hd
  go_enter Try.func21, Try.ntmps21
  go_wp2_with fail
  refine (of_any h l n _ HH.out HL.out HN.out).mono ?_
  rintro e w1 ⟨rfl, hb1⟩
  go_wp2_with fail
  refine (prod_any n m _ HM.out).mono ?_
  rintro e w2 ⟨rfl, hb2⟩
  go_wp2_with fail
  refine (of_lo d _ HD.out).mono ?_
  rintro e w3 ⟨rfl, hb3⟩
  go_wp2_with fail
  refine (quot_any (n * m) d _ HNM.out HD0.out HD.out).mono ?_
  rintro e w4 ⟨rfl, hb4⟩
  have hR1 : IsR w1 (w.heap.size + 1) #[.int .u64 0, .int .u64 0] 24 := IsR.kept (by unfold IsR; exact (by repeat (first | (with_reducible refine heap_top _ _ _ ?_; first | (simp; done) | (simp; omega)) | rw [Below.heap_alloc _ _ _ (by first | (simp; done) | (simp; omega))]))) hb1
  have hR4 := ((hR1.kept hb2).kept hb3).kept hb4
  have hbel : Below w.heap.size w w4 := by
    have h1 := hb1.size
    have h2 := hb2.size
    have h3 := hb3.size
    simp only [alloc_size] at h1
    exact (((((Below.refl _ _).alloc (Nat.le_refl _) _).alloc (by simp) _).trans (hb1.mono (by simp; omega))).trans (hb2.mono (by omega))).trans ((hb3.mono (by omega)).trans (hb4.mono (by omega)))
  have hlt : w.heap.size + 1 < w4.heap.size := hR4.lt
  clear hb1 hb2 hb3 hb4 hR1
  have HQ := Lib.hid (show scl n m d up = n * m / d + (if up && n * m % d != 0 then 1 else 0) from rfl)
  have HR := Lib.hid (show n * m % d < 2 ^ 256 from Nat.lt_of_lt_of_le (Nat.mod_lt _ HD0.out) (Nat.le_of_lt (Nat.lt_of_lt_of_le HD.out (by decide))))
  generalize n * m / d = q at *
  generalize n * m % d = r at *
  clear HNM
  have hneq := bits_neq r
  generalize hz0 : decide (r % 2 ^ 256 ≠ 0) = z at hneq
  have HZ := Lib.hid hz0
  clear hz0
  cases up
  · have HQ : Hid (scl n m d false = q) := HQ.out.trans (by simp)
    go_wp2_with (first
      | (with_reducible refine wpB_store rfl (.tmp 10) (.tmp 21) rfl w4.heap.size rfl q 0 rfl (by repeat (first | (with_reducible refine heap_top _ _ _ ?_; first | (simp; done) | (simp; omega)) | rw [Below.heap_alloc _ _ _ (by first | (simp; done) | (simp; omega))])) ?_; intro w5 g1 g2 g3 g4; have g5 : IsB w5 (w4.heap.size + 1) 0 := (g2 _ (by omega)).trans (by repeat (first | (with_reducible refine heap_top _ _ _ ?_; first | (simp; done) | (simp; omega)) | rw [Below.heap_alloc _ _ _ (by first | (simp; done) | (simp; omega))])); have hR5 := (g2 _ (by omega)).trans ((hR4.alloc _).alloc _); have hbel5 := g3 w.heap.size w (by omega) ((hbel.alloc (by omega) _).alloc (by simp; omega) _))
      | (with_reducible refine wpB_store rfl (.tmp 11) (.tmp 22) rfl (w4.heap.size + 1) rfl r 0 rfl g5 ?_; intro w6 k1 k2 k3 k4; have k5 := (k2 _ (by omega)).trans g1; have hR6 := (k2 _ (by omega)).trans hR5; have hbel6 := k3 _ _ (by omega) hbel5; clear g1 g2 g3 g5 hR5 hbel5 k2 k3)
      | (with_reducible refine wpB_load rfl (.tmp 10) rfl w4.heap.size rfl q k5 ?_))
    have hlt6 : w4.heap.size + 1 < w6.heap.size := (Array.getElem?_eq_some_iff.1 k1).1
    have hlt7 : w.heap.size + 1 < w4.heap.size := hlt
    refine (number_any q _).mono ?_
    rintro e w7 ⟨h', l', rfl, hh', hl', hn', hb7⟩
    have hR7 : IsW w7 (w.heap.size + 1) 0 0 := IsR.kept hR6 hb7
    have hbel7 := hbel6.trans (hb7.mono hbel6.size)
    have HH' := Lib.hid hh'
    have HL' := Lib.hid hl'
    have HN' := Lib.hid hn'
    clear hh' hl' hn' hneq hz
    go_wp2_with (first
      | (with_reducible refine wpW_store rfl (.tmp 8) (.tmp 35) rfl (w.heap.size + 1) rfl h' l' 0 0 rfl hR7 ?_; intro w8 hp8))
    refine retW1 (g := w.heap.size + 1) (h := h') (l := l') rfl rfl (.bool (fits (q))) rfl hp8.row ⟨h', l', ?_, HH'.out, HL'.out, ?_, hp8.below _ _ (by omega) hbel7⟩
    · rw [HQ.out]
    · rw [HN'.out, HQ.out]
  · cases z
    · have HQ : Hid (scl n m d true = q) := HQ.out.trans (by
        have := HZ.out
        rw [Nat.mod_eq_of_lt HR.out] at this
        simpa using this)
      go_wp2_with (first
        | (with_reducible refine wpB_store rfl (.tmp 10) (.tmp 21) rfl w4.heap.size rfl q 0 rfl (by repeat (first | (with_reducible refine heap_top _ _ _ ?_; first | (simp; done) | (simp; omega)) | rw [Below.heap_alloc _ _ _ (by first | (simp; done) | (simp; omega))])) ?_; intro w5 g1 g2 g3 g4; have g5 : IsB w5 (w4.heap.size + 1) 0 := (g2 _ (by omega)).trans (by repeat (first | (with_reducible refine heap_top _ _ _ ?_; first | (simp; done) | (simp; omega)) | rw [Below.heap_alloc _ _ _ (by first | (simp; done) | (simp; omega))])); have hR5 := (g2 _ (by omega)).trans ((hR4.alloc _).alloc _); have hbel5 := g3 w.heap.size w (by omega) ((hbel.alloc (by omega) _).alloc (by simp; omega) _))
        | (with_reducible refine wpB_store rfl (.tmp 11) (.tmp 22) rfl (w4.heap.size + 1) rfl r 0 rfl g5 ?_; intro w6 k1 k2 k3 k4; have k5 := (k2 _ (by omega)).trans g1; have hR6 := (k2 _ (by omega)).trans hR5; have hbel6 := k3 _ _ (by omega) hbel5; clear g1 g2 g3 g5 hR5 hbel5 k2 k3)
        | ((with_reducible refine wpB_loadG (.tmp 11) rfl (w4.heap.size + 1) rfl r k1 ?_ ?_); rfl)
        | (with_reducible refine wpB_load rfl (.tmp 10) rfl w4.heap.size rfl q k5 ?_))
      have hlt6 : w4.heap.size + 1 < w6.heap.size := (Array.getElem?_eq_some_iff.1 k1).1
      have hlt7 : w.heap.size + 1 < w4.heap.size := hlt
      refine (number_any q _).mono ?_
      rintro e w7 ⟨h', l', rfl, hh', hl', hn', hb7⟩
      have hR7 : IsW w7 (w.heap.size + 1) 0 0 := IsR.kept hR6 hb7
      have hbel7 := hbel6.trans (hb7.mono hbel6.size)
      have HH' := Lib.hid hh'
      have HL' := Lib.hid hl'
      have HN' := Lib.hid hn'
      clear hh' hl' hn' hneq hz
      go_wp2_with (first
        | (with_reducible refine wpW_store rfl (.tmp 8) (.tmp 35) rfl (w.heap.size + 1) rfl h' l' 0 0 rfl hR7 ?_; intro w8 hp8))
      refine retW1 (g := w.heap.size + 1) (h := h') (l := l') rfl rfl (.bool (fits (q))) rfl hp8.row ⟨h', l', ?_, HH'.out, HL'.out, ?_, hp8.below _ _ (by omega) hbel7⟩
      · rw [HQ.out]
      · rw [HN'.out, HQ.out]
    · have HQ : Hid (scl n m d true = q + 1) := HQ.out.trans (by
        have := HZ.out
        rw [Nat.mod_eq_of_lt HR.out] at this
        have h0 : r ≠ 0 := by simpa using this
        simp [h0])
      go_wp2_with (first
        | (with_reducible refine wpB_store rfl (.tmp 10) (.tmp 21) rfl w4.heap.size rfl q 0 rfl (by repeat (first | (with_reducible refine heap_top _ _ _ ?_; first | (simp; done) | (simp; omega)) | rw [Below.heap_alloc _ _ _ (by first | (simp; done) | (simp; omega))])) ?_; intro w5 g1 g2 g3 g4; have g5 : IsB w5 (w4.heap.size + 1) 0 := (g2 _ (by omega)).trans (by repeat (first | (with_reducible refine heap_top _ _ _ ?_; first | (simp; done) | (simp; omega)) | rw [Below.heap_alloc _ _ _ (by first | (simp; done) | (simp; omega))])); have hR5 := (g2 _ (by omega)).trans ((hR4.alloc _).alloc _); have hbel5 := g3 w.heap.size w (by omega) ((hbel.alloc (by omega) _).alloc (by simp; omega) _))
        | (with_reducible refine wpB_store rfl (.tmp 11) (.tmp 22) rfl (w4.heap.size + 1) rfl r 0 rfl g5 ?_; intro w6 k1 k2 k3 k4; have k5 := (k2 _ (by omega)).trans g1; have hR6 := (k2 _ (by omega)).trans hR5; have hbel6 := k3 _ _ (by omega) hbel5; clear g1 g2 g3 g5 hR5 hbel5 k2 k3)
        | ((with_reducible refine wpB_loadG (.tmp 11) rfl (w4.heap.size + 1) rfl r k1 ?_ ?_); rfl)
        | (with_reducible refine wpB_load rfl (.tmp 10) rfl w4.heap.size rfl q k5 ?_))
      have hlt6 : w4.heap.size + 1 < w6.heap.size := (Array.getElem?_eq_some_iff.1 k1).1
      have hlt7 : w.heap.size + 1 < w4.heap.size := hlt
      clear hneq hz
      refine wp_region_calm (fun f w' => (f 4 = false → IsB w' w4.heap.size q) ∧ (f 4 = true → IsB w' w4.heap.size (q + 1)) ∧ (f 4 = true → f 0 = true) ∧ (f 3 = true → f 0 = true) ∧ IsW w' (w.heap.size + 1) 0 0 ∧ Below w.heap.size w w' ∧ w4.heap.size < w'.heap.size)
        (by kernel_rfl) (by kernel_rfl) ⟨fun _ => k5, by simp [noFlag], by simp [noFlag], by simp [noFlag], hR6, hbel6.drew, by show _ < w6.heap.size; omega⟩ ?_
      refine calmB_load rfl (.tmp 10) rfl w4.heap.size q rfl (fun f _ h hn => h.1 (by
        cases h4 : f 4
        · rfl
        · have := h.2.2.1 h4; rw [hn.not] at this; cases this)) (fun _ _ h _ => ⟨by simpa [upd] using h.1, by simpa [upd] using h.2.1, by simp [upd], by simp [upd], h.2.2.2.2⟩) ?_
      refine calm_read rfl (.agg #[.int .u64 0, .int .u64 1]) (fun _ w' _ _ => ?_) (fun _ _ h _ => by simpa [upd] using h) ?_
      · go_simp
      refine calm_call rfl (.agg (bA 1)) 19 #[.agg #[.int .u64 0, .int .u64 1]] (fun w' => ?_) (fun f w' h hn => ?_) ?_
      · go_simp
      · refine (of_lo 1 w' (by decide)).mono ?_
        rintro e w'' ⟨rfl, hb⟩
        have hs := hb.size
        exact ⟨rfl, fun h4 => IsR.kept (h.1 (by simpa [upd] using h4)) hb, fun h4 => IsR.kept (h.2.1 (by simpa [upd] using h4)) hb, by simpa [upd] using h.2.2.1, by simpa [upd] using h.2.2.2.1, h.2.2.2.2.1.kept hb, h.2.2.2.2.2.1.trans (hb.mono h.2.2.2.2.2.1.size), by have := h.2.2.2.2.2.2; omega⟩
      refine calm_call rfl (.agg (bA (q + 1))) 29 #[.agg (bA q), .agg (bA 1)] (fun w' => ?_) (fun f w' h hn => ?_) ?_
      · go_simp
      · refine (sum_any q 1 w').mono ?_
        rintro e w'' ⟨rfl, hb⟩
        have hs := hb.size
        have h0 : f 0 = true := hn.deps { on := 0, ground := Ground.data } (by simp) rfl
        exact ⟨rfl, fun h4 => IsR.kept (h.1 (by simpa [upd] using h4)) hb, fun h4 => IsR.kept (h.2.1 (by simpa [upd] using h4)) hb, by simpa [upd] using h.2.2.1, by simp [upd, h0], h.2.2.2.2.1.kept hb, h.2.2.2.2.2.1.trans (hb.mono h.2.2.2.2.2.1.size), by have := h.2.2.2.2.2.2; omega⟩
      refine calmB_store rfl (.tmp 10) (.tmp 32) rfl w4.heap.size (q + 1) rfl rfl (fun f _ h _ => by
          cases h4 : f 4
          · exact ⟨_, h.1 h4⟩
          · exact ⟨_, h.2.1 h4⟩)
        (fun f w1 w2 h hn g1 g2 g3 g4 => by
          have h3 : f 3 = true := hn.deps { on := 3, ground := Ground.data } (by simp) rfl
          have h0 := h.2.2.2.1 h3
          exact ⟨by simp [upd], fun _ => g1, by simp [upd, h0], by simp [upd, h0], (g2 _ (by omega)).trans h.2.2.2.2.1, g3 _ _ (by omega) h.2.2.2.2.2.1, by rw [g4]; exact h.2.2.2.2.2.2⟩) ?_
      refine calm_nil ?_
      rintro w8 f ⟨-, h2, -, -, hR8, hbel8, -⟩ hall
      have k8 := h2 (hall 4 (by simp))
      clear h2 hall
      go_wp2_with (first
        | (with_reducible refine wpB_load rfl (.tmp 10) rfl w4.heap.size rfl (q + 1) k8 ?_))
      refine (number_any (q + 1) _).mono ?_
      rintro e w7 ⟨h', l', rfl, hh', hl', hn', hb7⟩
      have hR7 : IsW w7 (w.heap.size + 1) 0 0 := IsR.kept hR8 hb7
      have hbel7 := hbel8.trans (hb7.mono hbel8.size)
      have HH' := Lib.hid hh'
      have HL' := Lib.hid hl'
      have HN' := Lib.hid hn'
      clear hh' hl' hn'
      go_wp2_with (first
        | (with_reducible refine wpW_store rfl (.tmp 8) (.tmp 35) rfl (w.heap.size + 1) rfl h' l' 0 0 rfl hR7 ?_; intro w8 hp8))
      refine retW1 (g := w.heap.size + 1) (h := h') (l := l') rfl rfl (.bool (fits (q + 1))) rfl hp8.row ⟨h', l', ?_, HH'.out, HL'.out, ?_, hp8.below _ _ (by omega) hbel7⟩
      · rw [HQ.out]
      · rw [HN'.out, HQ.out]

end Go.Proofs.Ytpjdojnbajoafaa
