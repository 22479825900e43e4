/- package wide's quotient on seven parts: its contract, whatever the world. -/
import Derived.Test.YtpjdojnbajoafaaWh
namespace Go.Proofs.Ytpjdojnbajoafaa
open Go.RowKit

theorem quart_info : (Try.prog.info? 78).map (fun i => (i.zero, i.size)) = some (some (.agg #[.int .u64 0, .int .u64 0, .int .u64 0, .int .u64 0, .int .u64 0, .int .u64 0, .int .u64 0]), 7) := by kernel_rfl
theorem zero_of_info' {P : Program} {t : TypeId} {v : Value} {n : Nat} (h : (P.info? t).map (fun i => (i.zero, i.size)) = some (some v, n)) (w : World) : (zeroValue t).run P w = .ok v w := by
  cases hq : P.info? t with
  | none => simp [hq] at h
  | some i => simp [hq] at h; simp [zeroValue, typeInfo, hq, h.1]
theorem setCell_drewN (w : World) (n : Nat) (p : Addr) (v : Value) : (w.drewN n).setCell p v = (w.setCell p v).drewN n := rfl
theorem qA_at (n k : Nat) (h : k < (qA n).size) : (qA n)[k] = .int .u64 (dg n k) := by simp [qA]
theorem qA_zero : qA 0 = #[.int .u64 0, .int .u64 0, .int .u64 0, .int .u64 0, .int .u64 0, .int .u64 0, .int .u64 0] := by
  rw [qA_lit]; unfold dg; simp

theorem quart_size (n : Nat) : (Try.prog.info? 78).map (·.size) = some (qA n).size := by
  rw [qA_size]
  have := quart_info
  cases hq : Try.prog.info? 78 with
  | none => simp [hq] at this
  | some i => simp [hq] at this ⊢; exact this.2
theorem qA_oneCell (n : Nat) : (qA n).all (·.oneCell') = true := by rw [qA_lit]; simp [Value.oneCell']
/-- Block g of w holds a number's parts. -/
@[reducible] def IsQ (w : World) (g n : Nat) : Prop := IsR w g (qA n) 78
section
variable {ops : Array Oper} {rest : List Oper} {o : Oper} {a : Act} {w : World} {Q : Exit → Act → World → Prop}
theorem wpQ_store (hgd : o.guard = none) (x y : Operand) (ho : o.op = .store 78 x y) (g : Nat) (hx : a.eval x = .pointer (some ⟨g, 0, none⟩)) (n m : Nat) (hy : a.eval y = .agg (qA n))
    (hg : IsQ w g m) (hK : ∀ w1 : World, Put g (qA n) 78 w w1 → wpList Try.prog ops Q rest (a.put o.dst undef) w1) : wpList Try.prog ops Q (o :: rest) a w :=
  wpR_store hgd _ x y ho g hx _ _ hy _ hg (quart_size n) (by rw [qA_size, qA_size]) (qA_oneCell n) hK
theorem wpQ_load (hgd : o.guard = none) (x : Operand) (ho : o.op = .load 78 x) (g : Nat) (hx : a.eval x = .pointer (some ⟨g, 0, none⟩)) (n : Nat)
    (hg : IsQ w g n) (hK : wpList Try.prog ops Q rest (a.put o.dst (.agg (qA n))) w) : wpList Try.prog ops Q (o :: rest) a w :=
  wpList_load_row hgd _ x ho g hx _ _ _ _ hg Try.underlying78 rfl (quart_size n) hK
variable {fn : Func} {R : Ending → World → Prop} {tmps : Array Value} {p q r : Tmp} {g n : Nat}
theorem retQ (hf : fn.results = #[.cell p 78]) (hp : tmps.getD p undef = .pointer (some ⟨g, 0, none⟩)) (hg : IsQ w g n) (hR : R (.returned (.agg (qA n))) w) :
    bodyPost Try.prog fn R .ret { tmps, defers := [] } w := ret_row hf hp hg Try.underlying78 rfl (quart_size n) hR
theorem retQ1 (hf : fn.results = #[.cell p 78, .tmp q]) (hp : tmps.getD p undef = .pointer (some ⟨g, 0, none⟩)) (v : Value) (hq : tmps.getD q undef = v) (hg : IsQ w g n)
    (hR : R (.returned (.tuple #[.agg (qA n), v])) w) : bodyPost Try.prog fn R .ret { tmps, defers := [] } w := ret_row_tmp hf hp v hq hg Try.underlying78 rfl (quart_size n) hR
end

/-- The quotient's digits, set at one place. -/
theorem over_set (q i b : Nat) (_hi : i < 7) (hb : b < 32) :
    dg ((2 * q + 1) * 2 ^ (32 * i + b)) i = dg (q * 2 ^ (32 * i + b + 1)) i + 2 ^ b ∧ dg (q * 2 ^ (32 * i + b + 1)) i % 2 ^ (b + 1) = 0 ∧
      ∀ j, j ≠ i → dg ((2 * q + 1) * 2 ^ (32 * i + b)) j = dg (q * 2 ^ (32 * i + b + 1)) j := by
  have e1 : (2 * q + 1) * 2 ^ (32 * i + b) = ((2 * q + 1) * 2 ^ b) * 2 ^ (32 * i) := by rw [Nat.pow_add, Nat.mul_comm (2 ^ (32 * i)), Nat.mul_assoc]
  have e2 : q * 2 ^ (32 * i + b + 1) = (q * 2 ^ (b + 1)) * 2 ^ (32 * i) := by rw [Nat.add_assoc, Nat.pow_add, Nat.mul_comm (2 ^ (32 * i)), Nat.mul_assoc]
  have e3 : 2 ^ 32 = 2 ^ (b + 1) * 2 ^ (31 - b) := by rw [← Nat.pow_add]; congr 1; omega
  have d1 : dg (q * 2 ^ (32 * i + b + 1)) i = (q % 2 ^ (31 - b)) * 2 ^ (b + 1) := by
    unfold dg
    rw [e2, Nat.mul_div_cancel _ (Nat.two_pow_pos _), e3, Nat.mul_comm q, Nat.mul_mod_mul_left, Nat.mul_comm]
  have hp := Nat.two_pow_pos b
  have e4 : (2 * q + 1) * 2 ^ b = 2 ^ (b + 1) * q + 2 ^ b := by rw [Nat.pow_succ, Nat.add_mul, Nat.one_mul, Nat.mul_comm (2 ^ b) 2, Nat.mul_assoc, Nat.mul_assoc, Nat.mul_comm q]
  refine ⟨?_, ?_, fun j hj => ?_⟩
  · rw [d1]
    unfold dg
    rw [e1, Nat.mul_div_cancel _ (Nat.two_pow_pos _), e4, e3, Nat.mod_mul, Nat.mul_add_mod, Nat.mod_eq_of_lt (show 2 ^ b < 2 ^ (b + 1) by rw [Nat.pow_succ]; omega), Nat.mul_add_div (Nat.two_pow_pos _),
      Nat.div_eq_of_lt (show 2 ^ b < 2 ^ (b + 1) by rw [Nat.pow_succ]; omega), Nat.add_zero, Nat.mul_comm (2 ^ (b + 1)), Nat.add_comm]
    rfl
  · rw [d1]; exact Nat.mul_mod_left _ _
  · unfold dg
    rcases Nat.lt_or_ge j i with h | h
    · have z : ∀ x, x * 2 ^ (32 * i) / 2 ^ (32 * j) % 2 ^ 32 = 0 := fun x => by
        have : 2 ^ (32 * i) = 2 ^ (32 * (i - j - 1)) * 2 ^ 32 * 2 ^ (32 * j) := by rw [← Nat.pow_add, ← Nat.pow_add]; congr 1; omega
        rw [this, ← Nat.mul_assoc, Nat.mul_div_cancel _ (Nat.two_pow_pos _), ← Nat.mul_assoc]; exact Nat.mul_mod_left _ _
      rw [e1, e2, z, z]
    · have h' : i < j := by omega
      have z : 2 ^ (32 * j) = 2 ^ (32 * i) * (2 ^ (b + 1) * 2 ^ (32 * (j - i) - (b + 1))) := by rw [← Nat.pow_add, ← Nat.pow_add]; congr 1; omega
      rw [e1, e2, z, Nat.mul_comm _ (2 ^ (32 * i)), Nat.mul_comm _ (2 ^ (32 * i)), Nat.mul_div_mul_left _ _ (Nat.two_pow_pos _), Nat.mul_div_mul_left _ _ (Nat.two_pow_pos _), ← Nat.div_div_eq_div_mul, ← Nat.div_div_eq_div_mul, e4,
        Nat.mul_add_div (Nat.two_pow_pos _), Nat.div_eq_of_lt (show 2 ^ b < 2 ^ (b + 1) by rw [Nat.pow_succ]; omega), Nat.add_zero, Nat.mul_div_cancel _ (Nat.two_pow_pos _)]

theorem over_or (r x y b : Nat) (_hr : r < 2 ^ 64) (hy : y < 2 ^ 32) (hx : x = y / 2 ^ b % 2) :
    bits BinOp.or IntKind.u64 (IntKind.u64.wrap ((r : Int) * 2)) (bits BinOp.and IntKind.u64 ((y : Int) / 2 ^ b) 1) = (((2 * r + x) % 2 ^ 64 : Nat) : Int) := by
  have h1 : (y : Int) / 2 ^ b = ((y / 2 ^ b : Nat) : Int) := by simp
  have h2 : y / 2 ^ b < 2 ^ 64 := Nat.lt_of_le_of_lt (Nat.div_le_self _ _) (by omega)
  rw [h1, show (1 : Int) = ((1 : Nat) : Int) from rfl, bits_and_u64_nat _ _ h2 (by decide), nat_mask1, ← hx]
  have h3 : IntKind.u64.wrap ((r : Int) * 2) = ((2 * r % 2 ^ 64 : Nat) : Int) := by rw [IntKind.wrap_u64]; omega
  have h4 : x < 2 := by subst hx; exact Nat.mod_lt _ (by decide)
  rw [h3, bits_or_u64_nat _ _ (by omega) (by omega), nat_join 1 _ _ (by omega) (by omega)]
  congr 1
  omega
theorem over_bor (y b : Nat) (hb : b < 32) (hy : y < 2 ^ 32) (h0 : y % 2 ^ (b + 1) = 0) : bits BinOp.or IntKind.u64 (y : Int) (IntKind.u64.wrap (2 ^ b)) = ((y + 2 ^ b : Nat) : Int) := by
  have hp : 2 ^ b < 2 ^ 32 := Nat.pow_lt_pow_right (by decide) hb
  have e : IntKind.u64.wrap (2 ^ b) = ((2 ^ b : Nat) : Int) := by
    rw [IntKind.wrap_u64]
    have : ((2 ^ b : Nat) : Int) = (2 : Int) ^ b := by simp
    omega
  rw [e, bits_or_u64_nat _ _ (by omega) (by omega), nat_join (b + 1) _ _ h0 (Nat.pow_lt_pow_right (by decide) (by omega))]
theorem over_bit (n i b : Nat) (hb : b < 32) : dg n i / 2 ^ b % 2 = (n.testBit (32 * i + b)).toNat := by
  have h : (dg n i).testBit b = n.testBit (32 * i + b) := by
    unfold dg
    rw [Nat.testBit_mod_two_pow, Nat.testBit_div_two_pow]
    simp [hb, Nat.add_comm]
  rw [← h, Nat.testBit_eq_decide_div_mod_eq]
  have : dg n i / 2 ^ b % 2 < 2 := Nat.mod_lt _ (by decide)
  by_cases h1 : dg n i / 2 ^ b % 2 = 1
  · simp [h1]
  · simp [h1]; omega

set_option maxRecDepth 100000 in
set_option maxHeartbeats 1000000 in
theorem over_any (n d : Nat) (w : World) (hn : n < 2 ^ 224) (hd0 : 0 < d) (hd : d < 2 ^ 64) :
    Calls Try.prog 53 #[.agg (qA n), .int .u64 d] w fun e w' => e = .returned (.tuple #[.agg (qA (n / d)), .int .u64 (n % d : Nat)]) ∧ Below w.heap.size w w' := by
  have hz : ∀ w, (zeroValue 78).run Try.prog w = .ok (.agg (qA 0)) w := fun w => by
    rw [qA_zero]
    exact (zero_of_info' quart_info) w
  have H0 := Lib.hid (show n / 2 ^ 224 = 0 from Nat.div_eq_of_lt hn)
  have HD := Lib.hid hd
  have HD0 := Lib.hid hd0
  clear hn hd hd0
  go_enter Try.func53, Try.ntmps53
  go_wp2_with fail
  go_loopw [7, 8] (fun rest i wr => ∃ k c : Nat, k ≤ 7 ∧ i = .int .i64 ((k : Int) - 1) ∧ rest = .int .u64 ((n / 2 ^ (32 * k) % d : Nat) : Int) ∧
      wr = (((w.alloc (Obj.cells (qA n) 78)).alloc (Obj.cells (qA 0) 78)).alloc (Obj.cells (qA (n / 2 ^ (32 * k) / d * 2 ^ (32 * k))) 78)).drewN c)
    (fun _ i _ => (intOf i + 1).toNat)
  case atStart => exact ⟨7, 0, by omega, rfl, by rw [H0.out, Nat.zero_mod]; rfl, by rw [H0.out, Nat.zero_div, Nat.zero_mul]; rfl⟩
  case round =>
    obtain ⟨k, c, hk, rfl, rfl, rfl⟩ := hrel
    by_cases hlt : 1 ≤ k
    · obtain ⟨i, rfl⟩ : ∃ i, k = i + 1 := ⟨k - 1, by omega⟩
      have e : (((i + 1 : Nat) : Int) - 1) = (i : Int) := by omega
      rw [e]
      clear e
      have hi : (i : Int) < 7 := by omega
      obtain ⟨wo, hwo⟩ : ∃ wo : World, wo = (((w.alloc (Obj.cells (qA n) 78)).alloc (Obj.cells (qA 0) 78)).alloc (Obj.cells (qA (n / 2 ^ (32 * (i + 1)) / d * 2 ^ (32 * (i + 1)))) 78)).drewN c := ⟨_, rfl⟩
      have Hwo := Lib.hid hwo
      rw [← hwo]
      clear hwo
      go_wp2_with fail
      go_loopw [7, 9] (fun rest bi wr => ∃ k c : Nat, k ≤ 32 ∧ bi = .int .i64 ((k : Int) - 1) ∧ rest = .int .u64 ((n / 2 ^ (32 * i + k) % d : Nat) : Int) ∧
          wr = (((w.alloc (Obj.cells (qA n) 78)).alloc (Obj.cells (qA 0) 78)).alloc (Obj.cells (qA (n / 2 ^ (32 * i + k) / d * 2 ^ (32 * i + k))) 78)).drewN c)
        (fun _ bi _ => (intOf bi + 1).toNat)
      case atStart => exact ⟨32, c, by omega, rfl, rfl, Hwo.out⟩
      case round =>
        clear Hwo
        obtain ⟨k, c, hk2, rfl, rfl, rfl⟩ := hrel
        by_cases hlt2 : 1 ≤ k
        · obtain ⟨b, rfl⟩ : ∃ b, k = b + 1 := ⟨k - 1, by omega⟩
          have e : (((b + 1 : Nat) : Int) - 1) = (b : Int) := by omega
          rw [e]
          clear e
          have hb : (b : Int) < 32 := by omega
          have hi7 : i < 7 := by omega
          have hcell := qA_get n i hi7
          have hsz := qA_size (n / 2 ^ (32 * i + (b + 1)) / d * 2 ^ (32 * i + (b + 1)))
          have ho := qA_at (n / 2 ^ (32 * i + (b + 1)) / d * 2 ^ (32 * i + (b + 1))) i (by rw [hsz]; exact hi7)
          have hq := quot_step n d (32 * i + b) HD0.out
          rw [Nat.add_assoc] at hq
          have hrd := Nat.mod_lt (n / 2 ^ (32 * i + (b + 1))) HD0.out
          generalize n / 2 ^ (32 * i + (b + 1)) % d = r at hq hrd ⊢
          generalize n / 2 ^ (32 * i + (b + 1)) / d = q at hq hsz ho ⊢
          have hbit := over_bit n i b (by omega)
          have hx1 := Bool.toNat_le (n.testBit (32 * i + b))
          have hO := over_or r _ (dg n i) b (by have := HD.out; omega) (dg_lt n i) hbit.symm
          clear hbit
          generalize (n.testBit (32 * i + b)).toNat = x at hq hx1 hO
          obtain ⟨s1, s2, s3⟩ := over_set q i b hi7 (by omega)
          rw [Nat.add_assoc] at s1 s2 s3
          have HS := Lib.hid (qA_set _ _ i _ rfl (fun j _ hj => s3 j hj))
          have hW := over_bor (dg (q * 2 ^ (32 * i + (b + 1))) i) b (by omega) (dg_lt _ _) s2
          rw [← s1] at hW
          have hd64 := HD.out
          have hr64 : 2 * r + x < 2 * d := by omega
          clear s1 s2 s3
          by_cases hA : 2 * r + x < d
          · rw [if_pos hA] at hq
            have hT : ((r : Int) / 9223372036854775808 == 1) = false := by rw [beq_eq_false_iff_ne]; omega
            have e1 : (2 * r + x) % 2 ^ 64 = 2 * r + x := Nat.mod_eq_of_lt (by omega)
            rw [e1] at hO
            have HQ := Lib.hid hq
            have hA' : ((2 * r + x : Nat) : Int) < (d : Int) := by omega
            clear hq e1 hd64 hr64 hA HS hrd hW
            generalize 2 * r + x = r1 at hO HQ hA'
            go_wp2_with fail
            exact ⟨⟨b, c, by omega, rfl, by rw [HQ.out.1], by rw [HQ.out.2, show q * 2 ^ (32 * i + (b + 1)) = 2 * q * 2 ^ (32 * i + b) by rw [← Nat.add_assoc, Nat.pow_succ, Nat.mul_comm 2 q, Nat.mul_assoc, Nat.mul_comm 2]]⟩, by simp [intOf]⟩
          · rw [if_neg hA] at hq
            have hsub : IntKind.u64.wrap ((((2 * r + x) % 2 ^ 64 : Nat) : Int) - (d : Int)) = ((2 * r + x - d : Nat) : Int) := by rw [IntKind.wrap_u64]; omega
            have HQ := Lib.hid hq
            by_cases hT : 2 ^ 63 ≤ r
            · have hT' : ((r : Int) / 9223372036854775808 == 1) = true := by rw [beq_iff_eq]; omega
              clear hq hd64 hr64 hrd hT hA
              generalize (2 * r + x) % 2 ^ 64 = r1 at hO hsub
              generalize 2 * r + x - d = r2 at hsub HQ
              go_wp2_with fail
              go_region
              go_wp2_with fail
              refine ⟨⟨b, c + 1, by omega, rfl, by rw [HQ.out.1], ?_⟩, by simp [intOf]⟩
              rw [HQ.out.2, setCell_drewN, World.setCell_alloc_at _ _ _ _ _ (by simp), HS.out]
            · have hT' : ((r : Int) / 9223372036854775808 == 1) = false := by rw [beq_eq_false_iff_ne]; omega
              have hge : (d : Int) ≤ (((2 * r + x) % 2 ^ 64 : Nat) : Int) := by omega
              clear hq hd64 hr64 hrd hT hA
              generalize (2 * r + x) % 2 ^ 64 = r1 at hO hsub hge
              generalize 2 * r + x - d = r2 at hsub HQ
              go_wp2_with fail
              go_region
              go_wp2_with fail
              refine ⟨⟨b, c + 1, by omega, rfl, by rw [HQ.out.1], ?_⟩, by simp [intOf]⟩
              rw [HQ.out.2, setCell_drewN, World.setCell_alloc_at _ _ _ _ _ (by simp), HS.out]
        · obtain rfl : k = 0 := by omega
          have e : (((0 : Nat) : Int) - 1) = -1 := rfl
          rw [e, Nat.add_zero]
          clear e
          go_wp2_with fail
          go_roundw
          case rel => exact ⟨i, c, by omega, rfl, rfl, rfl⟩
          case measure => simp [intOf]
    · obtain rfl : k = 0 := by omega
      have e : (((0 : Nat) : Int) - 1) = -1 := rfl
      have e2 : n / 2 ^ (32 * 0) / d * 2 ^ (32 * 0) = n / d := by simp
      have e3 : n / 2 ^ (32 * 0) % d = n % d := by simp
      rw [e, e2, e3]
      clear e e2 e3
      have f1 : IsQ ((((w.alloc (Obj.cells (qA n) 78)).alloc (Obj.cells (qA 0) 78)).alloc (Obj.cells (qA (n / d)) 78)).drewN c) (w.heap.size + 1 + 1) (n / d) := by
        show (((w.alloc (Obj.cells (qA n) 78)).alloc (Obj.cells (qA 0) 78)).alloc (Obj.cells (qA (n / d)) 78)).heap[_]? = _
        exact (by repeat (first | (with_reducible refine heap_top _ _ _ ?_; first | (simp; done) | (simp; omega)) | rw [Below.heap_alloc _ _ _ (by first | (simp; done) | (simp; omega))]))
      have f2 : IsQ ((((w.alloc (Obj.cells (qA n) 78)).alloc (Obj.cells (qA 0) 78)).alloc (Obj.cells (qA (n / d)) 78)).drewN c) (w.heap.size + 1) 0 := by
        show (((w.alloc (Obj.cells (qA n) 78)).alloc (Obj.cells (qA 0) 78)).alloc (Obj.cells (qA (n / d)) 78)).heap[_]? = _
        exact (by repeat (first | (with_reducible refine heap_top _ _ _ ?_; first | (simp; done) | (simp; omega)) | rw [Below.heap_alloc _ _ _ (by first | (simp; done) | (simp; omega))]))
      have f3 : Below w.heap.size w ((((w.alloc (Obj.cells (qA n) 78)).alloc (Obj.cells (qA 0) 78)).alloc (Obj.cells (qA (n / d)) 78)).drewN c) :=
        below_drewN ((((Below.refl _ _).alloc (Nat.le_refl _) _).alloc (by simp) _).alloc (by simp; omega) _) c
      generalize (((w.alloc (Obj.cells (qA n) 78)).alloc (Obj.cells (qA 0) 78)).alloc (Obj.cells (qA (n / d)) 78)).drewN c = W at f1 f2 f3 ⊢
      go_wp2_with (first
        | (with_reducible refine wpQ_load rfl (.tmp 6) rfl (w.heap.size + 1 + 1) rfl (n / d) f1 ?_)
        | (with_reducible refine wpQ_store rfl (.tmp 4) (.tmp 47) rfl (w.heap.size + 1) rfl (n / d) 0 rfl f2 ?_; intro w1 hp1))
      exact retQ1 rfl rfl (.int .u64 (n % d : Nat)) rfl hp1.row ⟨rfl, hp1.below _ _ (by omega) f3⟩

end Go.Proofs.Ytpjdojnbajoafaa
