/- Ports: walks. -/
import Derived.Test.YtfhlmijdokfdpaaProg
import Derived.Test.YtfhlmijdokfdpaaPa
import Derived.Test.YtfhlmijdokfdpaaPg
namespace Go.Proofs.Ytfhlmijdokfdpaa
open Go Go.RowKit

set_option maxRecDepth 100000 in
theorem vcpu_d (n : Int) (w : World)
    : Calls Try.prog 31 #[.int .i64 n] w fun e w' => e = .returned (.bool (vcpuB n)) ∧ Below w.heap.size w w' := by
  refine enter (Hs.start w) Try.func31 rfl Try.ntmps31 rfl ?_
  refine at_seq ?_
  refine aq [] [0] [] ([]) (fun _ => by kernel_rfl) al0 ?_
  refine done_seq ?_
  refine at_seq ?_
  by_cases q3 : (n : Int) ≥ (1 : Int)
  ·
    by_cases q5 : (n : Int) ≤ (16 : Int)
    ·
      refine aq [(1, .yes), (4, .yes)] [] [(2, .bool true)] ([(n : Int) ≥ (1 : Int)] ++ ([(n : Int) ≤ (16 : Int)])) (fun _ => by kernel_rfl) (alA (al1 q3) (al1 q5)) ?_
      refine done_seq ?_
      refine at_return ([]) (.bool true) [] (by kernel_rfl) (by kernel_rfl) al0 ?_
      exact fun w' hw => ⟨by rw [show vcpuB n = true from by simp [vcpuB]; omega], hw.below⟩
    ·
      refine aq [(1, .yes), (4, .no)] [] [(2, .bool false)] ([(n : Int) ≥ (1 : Int)] ++ ([¬ ((n : Int) ≤ (16 : Int))])) (fun _ => by kernel_rfl) (alA (al1 q3) (al1 q5)) ?_
      refine done_seq ?_
      refine at_return ([]) (.bool false) [] (by kernel_rfl) (by kernel_rfl) al0 ?_
      exact fun w' hw => ⟨by rw [show vcpuB n = false from by simp [vcpuB]; omega], hw.below⟩
  ·
    refine aq [(1, .no)] [] [(2, .bool false)] ([¬ ((n : Int) ≥ (1 : Int))]) (fun _ => by kernel_rfl) (al1 q3) ?_
    refine done_seq ?_
    refine at_return ([]) (.bool false) [] (by kernel_rfl) (by kernel_rfl) al0 ?_
    exact fun w' hw => ⟨by rw [show vcpuB n = false from by simp [vcpuB]; omega], hw.below⟩

set_option maxRecDepth 100000 in
theorem rvcpu_d (n : Int) (w : World)
    : Calls Try.prog 33 #[.int .i64 n] w fun e w' => e = .returned (.bool (vcpuB n)) ∧ Below w.heap.size w w' := by
  refine enter (Hs.start w) Try.func33 rfl Try.ntmps33 rfl ?_
  refine at_seq ?_
  refine aq [] [0] [] ([]) (fun _ => by kernel_rfl) al0 ?_
  refine done_seq ?_
  refine at_seq ?_
  by_cases q3 : (n : Int) ≥ (1 : Int)
  ·
    by_cases q5 : (n : Int) ≤ (16 : Int)
    ·
      refine aq [(1, .yes), (4, .yes)] [] [(2, .bool true)] ([(n : Int) ≥ (1 : Int)] ++ ([(n : Int) ≤ (16 : Int)])) (fun _ => by kernel_rfl) (alA (al1 q3) (al1 q5)) ?_
      refine done_seq ?_
      refine at_return ([]) (.bool true) [] (by kernel_rfl) (by kernel_rfl) al0 ?_
      exact fun w' hw => ⟨by rw [show vcpuB n = true from by simp [vcpuB]; omega], hw.below⟩
    ·
      refine aq [(1, .yes), (4, .no)] [] [(2, .bool false)] ([(n : Int) ≥ (1 : Int)] ++ ([¬ ((n : Int) ≤ (16 : Int))])) (fun _ => by kernel_rfl) (alA (al1 q3) (al1 q5)) ?_
      refine done_seq ?_
      refine at_return ([]) (.bool false) [] (by kernel_rfl) (by kernel_rfl) al0 ?_
      exact fun w' hw => ⟨by rw [show vcpuB n = false from by simp [vcpuB]; omega], hw.below⟩
  ·
    refine aq [(1, .no)] [] [(2, .bool false)] ([¬ ((n : Int) ≥ (1 : Int))]) (fun _ => by kernel_rfl) (al1 q3) ?_
    refine done_seq ?_
    refine at_return ([]) (.bool false) [] (by kernel_rfl) (by kernel_rfl) al0 ?_
    exact fun w' hw => ⟨by rw [show vcpuB n = false from by simp [vcpuB]; omega], hw.below⟩

set_option maxRecDepth 100000 in
theorem at1_d (x : Port) (k : Int) (w : World)
    (h1 : -9223372036854775808 ≤ x.num - k)
    (h2 : x.num - k ≤ 9223372036854775807)
    : Calls Try.prog 76 #[.agg #[.int .i64 x.num, .int .i64 x.vcpu, .int .i64 x.peer, .bool x.pending, .bool x.masked], .int .i64 k] w fun e w' => e = .returned (.int .i64 (x.num - k)) ∧ Below w.heap.size w w' := by
  refine enter (Hs.start w) Try.func76 rfl Try.ntmps76 rfl ?_
  refine at_seq ?_
  refine am [] [1] (fun γ1 => [(2, .pointer (some ⟨γ1 0, 0, none⟩))]) (fun γ1 L => bx (γ1 0) (#[.int .i64 x.num, .int .i64 x.vcpu, .int .i64 x.peer, .bool x.pending, .bool x.masked]) 40 :: L) (fun γ1 => []) (fun _ => by kernel_rfl) (fun γ1 => al0) (fun γ1 => ?_)
  refine done_seq ?_
  refine at_seq ?_
  refine aq [(1, .go (owns 0 0 1)), (3, .fit)] [] [(4, .int .i64 (x.num - k))] ([Fit .i64 (x.num - k)]) (fun _ => by kernel_rfl) (al1 (fit64 (by omega) (by omega))) ?_
  refine done_seq ?_
  refine at_return ([]) (.int .i64 (x.num - k)) [] (by kernel_rfl) (by kernel_rfl) al0 ?_
  exact fun w' hw => ⟨rfl, hw.below⟩

set_option maxRecDepth 100000 in
theorem bsearch_port (g : FuncId) (cb : Array Value) (p : Option Addr) (n cap : Nat) (l : List Port) (f c : Port → Int) (k : Int) (w : World)
    (hg : ∀ args w, (callFunc g args).run Try.prog w = .ok (.enter g args) w)
    (hsl : Sv w p l) (hn : n = l.length) (hb : n ≤ 4611686018427387903)
    (hc : ∀ x ∈ l, ∀ w', Below w.heap.size w w' → Calls Try.prog g (#[.agg #[.int .i64 x.num, .int .i64 x.vcpu, .int .i64 x.peer, .bool x.pending, .bool x.masked], .int .i64 k] ++ cb) w' fun e w1 => e = .returned (.int .i64 (c x)) ∧ Below w'.heap.size w' w1)
    (hs : ∀ x ∈ l, (c x < 0 ↔ f x < k) ∧ (c x = 0 ↔ f x = k)) (ha : AscK f l)
    : Calls Try.prog 75 #[.slice p n cap, .int .i64 k, .func (.func g) #[] cb] w fun e w' => e = .returned (.tuple #[.int .i64 (posK f l k : Nat), .bool (hasK f l k)]) ∧ Below w.heap.size w w' := by
  refine enter (Hs.start w) Try.func75 rfl Try.ntmps75 rfl ?_
  refine at_seq ?_
  refine aq [] [0, 1, 2] [] ([]) (fun _ => by kernel_rfl) al0 ?_
  refine done_seq ?_
  refine at_seq ?_
  refine aq [] [0, 1, 2] [(8, .int .i64 ((n : Nat)))] ([]) (fun _ => by kernel_rfl) al0 ?_
  refine done_seq ?_
  refine at_seq ?_
  refine aq [] [0, 1, 2, 8] [(9, .int .i64 0), (10, .int .i64 ((n : Nat)))] ([]) (fun _ => by kernel_rfl) al0 ?_
  refine done_seq ?_
  refine at_seq ?_
  refine at_block ?_
  refine at_loop (α := Nat × Nat) [0, 1, 2, 8, 9, 10] (fun ⟨lo, hi⟩ => [(0, .slice p n cap), (1, .int .i64 k), (2, .func (.func g) #[] cb), (8, .int .i64 ((n : Nat))), (9, .int .i64 ((lo : Nat))), (10, .int .i64 ((hi : Nat)))]) (fun ⟨lo, hi⟩ => []) (fun ⟨lo, hi⟩ => lo ≤ hi ∧ hi ≤ n ∧ BsK f l k lo hi) (fun ⟨lo, hi⟩ => hi - lo) (0, n) (by kernel_rfl) rfl ⟨Nat.zero_le _, Nat.le_refl _, by subst hn; exact bsk_start⟩ ?_
  rintro ⟨lo, hi⟩
  rintro ⟨h1, h2, hI⟩
  refine at_seq ?_
  refine at_seq ?_
  by_cases q5 : ((lo : Nat) : Int) < ((hi : Nat) : Int)
  ·
    refine aq [(2, .yes)] [0, 1, 2, 8, 9, 10] [(17, .bool true)] ([((lo : Nat) : Int) < ((hi : Nat) : Int)]) (fun _ => by kernel_rfl) (al1 q5) ?_
    refine done_seq ?_
    refine at_true (by kernel_rfl) ?_
    refine at_skip ?_
    refine done_seq ?_
    refine at_block ?_
    refine at_seq ?_
    refine aq [(2, .fit), (3, .fit), (4, .is [] (.int .u64 ((lo + hi) / 2 : Nat))), (5, .fit)] [0, 1, 2, 8, 9, 10] [(11, .int .i64 (((lo + hi) / 2 : Nat)))] ([Fit .i64 ((lo + hi : Nat))] ++ ([Fit .u64 ((lo + hi : Nat))] ++ ([Value.int .u64 (Int.fdiv ((lo : Nat) + (hi : Nat)) (2 ^ 1)) = .int .u64 (((lo + hi) / 2 : Nat) : Int)] ++ ([Fit .i64 (((lo + hi) / 2 : Nat))])))) (fun _ => by kernel_rfl) (alA (al1 (fit64 (by omega) (by omega))) (alA (al1 (fitU (by omega) (by omega))) (alA (al1 (half lo hi)) (al1 (fit64 (by omega) (by omega)))))) ?_
    refine done_seq ?_
    refine at_seq ?_
    obtain ⟨b9, o9, rfl⟩ := hsl.pos (i := (lo + hi) / 2) (by omega)
    obtain ⟨x11, hx11⟩ := get_some (l := l) (m := (lo + hi) / 2) (by omega)
    refine at_ops ?_
    refine oq 6 [(3, .at b9 o9 ((lo + hi) / 2)), (4, .go (outs b9 (o9 + ((lo + hi) / 2) * 5) [.int .i64 x11.num, .int .i64 x11.vcpu, .int .i64 x11.peer, .bool x11.pending, .bool x11.masked]))] [0, 1, 2, 8, 9, 10, 11] [(24, .func (.func g) #[] cb), (28, .agg #[.int .i64 x11.num, .int .i64 x11.vcpu, .int .i64 x11.peer, .bool x11.pending, .bool x11.masked]), (29, .int .i64 k)] ([(some ⟨b9, o9, none⟩ : Option Addr) = some ⟨b9, o9, none⟩, (((lo + hi) / 2 : Nat)) = (((lo + hi) / 2 : Nat) : Int), (lo + hi) / 2 < n] ++ (cellsP w b9 (o9 + ((lo + hi) / 2) * 5) [.int .i64 x11.num, .int .i64 x11.vcpu, .int .i64 x11.peer, .bool x11.pending, .bool x11.masked])) (fun _ => by kernel_rfl) (alA (al2 rfl (al2 rfl (al1 (by omega)))) (rd_pre (hsl.get hx11) _ rfl)) ?_
    refine ops_callD (.int .i64 (c x11)) (by kernel_rfl) (by kernel_rfl) (by kernel_rfl) hg (fun w hw => hc x11 (List.mem_of_getElem? hx11) w hw.below) ?_
    by_cases q14 : (c x11 : Int) < (0 : Int)
    ·
      refine oq 1 [(7, .yes)] [0, 1, 2, 8, 9, 10, 11] [(31, .bool true)] ([(c x11 : Int) < (0 : Int)]) (fun _ => by kernel_rfl) (al1 q14) ?_
      refine ops_nil ?_
      refine done_seq ?_
      refine at_true (by kernel_rfl) ?_
      refine aq [(1, .fit)] [0, 1, 2, 8, 10] [(9, .int .i64 (((lo + hi) / 2 + 1 : Nat)))] ([Fit .i64 (((lo + hi) / 2 + 1 : Nat))]) (fun _ => by kernel_rfl) (al1 (fit64 (by omega) (by omega))) ?_
      refine done_block ?_
      exact done_round [0, 1, 2, 8, 9, 10] ((lo + hi) / 2 + 1, hi) (by kernel_rfl) rfl ⟨by omega, by omega, bsk_low hI ha hx11 ((hs x11 (List.mem_of_getElem? hx11)).1.1 q14)⟩ (by first | omega | (simp only; omega))
    ·
      refine oq 1 [(7, .no)] [0, 1, 2, 8, 9, 10, 11] [(31, .bool false)] ([¬ ((c x11 : Int) < (0 : Int))]) (fun _ => by kernel_rfl) (al1 q14) ?_
      refine ops_nil ?_
      refine done_seq ?_
      refine at_false (by kernel_rfl) ?_
      refine aq [] [0, 1, 2, 8, 9] [(10, .int .i64 (((lo + hi) / 2 : Nat)))] ([]) (fun _ => by kernel_rfl) al0 ?_
      refine done_block ?_
      exact done_round [0, 1, 2, 8, 9, 10] (lo, (lo + hi) / 2) (by kernel_rfl) rfl ⟨by omega, by omega, bsk_high hI ha hx11 (fun h => q14 ((hs x11 (List.mem_of_getElem? hx11)).1.2 h))⟩ (by first | omega | (simp only; omega))
  ·
    refine aq [(2, .no)] [0, 1, 2, 8, 9, 10] [(17, .bool false)] ([¬ (((lo : Nat) : Int) < ((hi : Nat) : Int))]) (fun _ => by kernel_rfl) (al1 q5) ?_
    refine done_seq ?_
    refine at_false (by kernel_rfl) ?_
    refine at_leave _ (by rfl) ?_
    refine done_seq ?_
    refine at_seq ?_
    by_cases q21 : ((lo : Nat) : Int) < ((n : Nat) : Int)
    ·
      obtain ⟨b23, o23, rfl⟩ := hsl.pos (i := lo) (by omega)
      obtain ⟨x25, hx25⟩ := get_some (l := l) (m := lo) (by omega)
      refine at_ops ?_
      refine oq 11 [(3, .yes), (8, .at b23 o23 lo), (9, .go (outs b23 (o23 + lo * 5) [.int .i64 x25.num, .int .i64 x25.vcpu, .int .i64 x25.peer, .bool x25.pending, .bool x25.masked]))] [] [(35, .int .i64 ((lo : Nat))), (39, .bool true), (40, .func (.func g) #[] cb), (44, .agg #[.int .i64 x25.num, .int .i64 x25.vcpu, .int .i64 x25.peer, .bool x25.pending, .bool x25.masked]), (45, .int .i64 k)] ([((lo : Nat) : Int) < ((n : Nat) : Int)] ++ ([(some ⟨b23, o23, none⟩ : Option Addr) = some ⟨b23, o23, none⟩, ((lo : Nat)) = ((lo : Nat) : Int), lo < n] ++ (cellsP w b23 (o23 + lo * 5) [.int .i64 x25.num, .int .i64 x25.vcpu, .int .i64 x25.peer, .bool x25.pending, .bool x25.masked]))) (fun _ => by kernel_rfl) (alA (al1 q21) (alA (al2 rfl (al2 rfl (al1 (by omega)))) (rd_pre (hsl.get hx25) _ rfl))) ?_
      refine ops_callD (.int .i64 (c x25)) (by kernel_rfl) (by kernel_rfl) (by kernel_rfl) hg (fun w hw => hc x25 (List.mem_of_getElem? hx25) w hw.below) ?_
      by_cases q28 : (c x25 : Int) = (0 : Int)
      ·
        refine oq 4 [(12, .yes)] [] [(6, .int .i64 ((lo : Nat))), (7, .bool true)] ([(c x25 : Int) = (0 : Int)]) (fun _ => by kernel_rfl) (al1 q28) ?_
        refine ops_nil ?_
        refine done_seq ?_
        refine at_return ([]) (.tuple #[.int .i64 ((lo : Nat)), .bool true]) [] (by kernel_rfl) (by kernel_rfl) al0 ?_
        exact fun w' hw => ⟨by rw [bsk_end hI (by omega) h1 (by omega), hask_found hx25 ((hs x25 (List.mem_of_getElem? hx25)).2.1 q28)], hw.below⟩
      ·
        refine oq 4 [(12, .no)] [] [(6, .int .i64 ((lo : Nat))), (7, .bool false)] ([¬ ((c x25 : Int) = (0 : Int))]) (fun _ => by kernel_rfl) (al1 q28) ?_
        refine ops_nil ?_
        refine done_seq ?_
        refine at_return ([]) (.tuple #[.int .i64 ((lo : Nat)), .bool false]) [] (by kernel_rfl) (by kernel_rfl) al0 ?_
        exact fun w' hw => ⟨by rw [bsk_end hI (by omega) h1 (by omega), hask_other hI (by omega) h1 ha hx25 (fun h => q28 ((hs x25 (List.mem_of_getElem? hx25)).2.2 h))], hw.below⟩
    ·
      refine aq [(3, .no)] [] [(6, .int .i64 ((lo : Nat))), (7, .bool false)] ([¬ (((lo : Nat) : Int) < ((n : Nat) : Int))]) (fun _ => by kernel_rfl) (al1 q21) ?_
      refine done_seq ?_
      refine at_return ([]) (.tuple #[.int .i64 ((lo : Nat)), .bool false]) [] (by kernel_rfl) (by kernel_rfl) al0 ?_
      exact fun w' hw => ⟨by rw [bsk_end hI (by omega) h1 (by omega), hask_none hI (by omega) h1 (by omega)], hw.below⟩

set_option maxRecDepth 100000 in
theorem at_d (p : Option Addr) (n cap : Nat) (l : List Port) (k : Int) (w : World)
    (hsl : Sv w p l) (hn : n = l.length) (hb : n ≤ 1000)
    (hall : ∀ x ∈ l, 1 ≤ x.num ∧ x.num ≤ 32) (ha : Asc l)
    (h1 : 1 ≤ k) (h2 : k ≤ 32)
    : Calls Try.prog 59 #[.slice p n cap, .int .i64 k] w fun e w' => e = .returned (.tuple #[.int .i64 (posB l k : Nat), .bool (hasB l k)]) ∧ Below w.heap.size w w' := by
  refine enter (Hs.start w) Try.func59 rfl Try.ntmps59 rfl ?_
  refine at_seq ?_
  refine aq [] [0, 1] [] ([]) (fun _ => by kernel_rfl) al0 ?_
  refine done_seq ?_
  refine at_seq ?_
  refine at_ops ?_
  refine oq 2 [] [] [(6, .slice p n cap), (7, .int .i64 k)] ([]) (fun _ => by kernel_rfl) al0 ?_
  refine ops_callD (.tuple #[.int .i64 ((posB l k : Nat)), .bool (hasB l k)]) (by kernel_rfl) (by kernel_rfl) (by kernel_rfl) (fun args w => Try.call75 args w) (fun w hw => bsearch_port 76 #[] p n cap l Port.num (fun x => x.num - k) k w Try.call76 (hsl.kept hw.below) hn (by omega) (fun x hx w' _ => at1_d x k w' (by have := hall x hx; omega) (by have := hall x hx; omega)) (fun x hx => by have := hall x hx; constructor <;> constructor <;> intro h <;> omega) ha) ?_
  refine oq 4 [] [] [(4, .int .i64 ((posB l k : Nat))), (5, .bool (hasB l k))] ([]) (fun _ => by kernel_rfl) al0 ?_
  refine ops_nil ?_
  refine done_seq ?_
  refine at_return ([]) (.tuple #[.int .i64 ((posB l k : Nat)), .bool (hasB l k)]) [] (by kernel_rfl) (by kernel_rfl) al0 ?_
  exact fun w' hw => ⟨rfl, hw.below⟩

set_option maxRecDepth 100000 in
theorem port_d (p : Option Addr) (n cap : Nat) (l : List Port) (k : Int) (w : World)
    (hsl : Sv w p l) (hn : n = l.length) (hb : n ≤ 1000)
    (hall : ∀ x ∈ l, 1 ≤ x.num ∧ x.num ≤ 32) (ha : Asc l)
    : Calls Try.prog 32 #[.slice p n cap, .int .i64 k] w fun e w' => e = .returned (portV p l k) ∧ Below w.heap.size w w' := by
  refine enter (Hs.start w) Try.func32 rfl Try.ntmps32 rfl ?_
  refine at_seq ?_
  refine aq [] [0, 1] [] ([]) (fun _ => by kernel_rfl) al0 ?_
  refine done_seq ?_
  refine at_seq ?_
  refine at_seq ?_
  by_cases q3 : (k : Int) < (1 : Int)
  ·
    refine aq [(1, .yes)] [0, 1] [(12, .bool true)] ([(k : Int) < (1 : Int)]) (fun _ => by kernel_rfl) (al1 q3) ?_
    refine done_seq ?_
    refine at_true (by kernel_rfl) ?_
    refine at_seq ?_
    refine aq [] [] [(4, .pointer none)] ([]) (fun _ => by kernel_rfl) al0 ?_
    refine done_seq ?_
    refine at_return ([]) (.pointer none) [] (by kernel_rfl) (by kernel_rfl) al0 ?_
    exact fun w' hw => ⟨by rw [portV_out hall (by omega)], hw.below⟩
  ·
    by_cases q7 : (k : Int) > (32 : Int)
    ·
      refine aq [(1, .no), (4, .yes)] [0, 1] [(12, .bool true)] ([¬ ((k : Int) < (1 : Int))] ++ ([(k : Int) > (32 : Int)])) (fun _ => by kernel_rfl) (alA (al1 q3) (al1 q7)) ?_
      refine done_seq ?_
      refine at_true (by kernel_rfl) ?_
      refine at_seq ?_
      refine aq [] [] [(4, .pointer none)] ([]) (fun _ => by kernel_rfl) al0 ?_
      refine done_seq ?_
      refine at_return ([]) (.pointer none) [] (by kernel_rfl) (by kernel_rfl) al0 ?_
      exact fun w' hw => ⟨by rw [portV_out hall (by omega)], hw.below⟩
    ·
      refine aq [(1, .no), (4, .no)] [0, 1] [(12, .bool false)] ([¬ ((k : Int) < (1 : Int))] ++ ([¬ ((k : Int) > (32 : Int))])) (fun _ => by kernel_rfl) (alA (al1 q3) (al1 q7)) ?_
      refine done_seq ?_
      refine at_false (by kernel_rfl) ?_
      refine at_skip ?_
      refine done_seq ?_
      refine at_seq ?_
      refine at_ops ?_
      refine oq 2 [] [0] [(14, .slice p n cap), (15, .int .i64 k)] ([]) (fun _ => by kernel_rfl) al0 ?_
      rcases q12 : hasB l k with _ | _
      ·
        refine ops_callD (.tuple #[.int .i64 ((posB l k : Nat)), .bool false]) (by kernel_rfl) (by kernel_rfl) (by kernel_rfl) (fun args w => Try.call59 args w) (fun w hw => by have := at_d p n cap l k w (hsl.kept hw.below) hn hb hall ha (by omega) (by omega); rw [q12] at this; exact this) ?_
        refine oq 5 [] [0] [(5, .int .i64 ((posB l k : Nat))), (6, .bool false)] ([]) (fun _ => by kernel_rfl) al0 ?_
        refine ops_nil ?_
        refine done_seq ?_
        refine at_seq ?_
        refine at_seq ?_
        refine aq [] [0, 5] [(20, .bool true)] ([]) (fun _ => by kernel_rfl) al0 ?_
        refine done_seq ?_
        refine at_true (by kernel_rfl) ?_
        refine at_seq ?_
        refine aq [] [] [(4, .pointer none)] ([]) (fun _ => by kernel_rfl) al0 ?_
        refine done_seq ?_
        refine at_return ([]) (.pointer none) [] (by kernel_rfl) (by kernel_rfl) al0 ?_
        exact fun w' hw => ⟨by simp [portV, q12], hw.below⟩
      ·
        refine ops_callD (.tuple #[.int .i64 ((posB l k : Nat)), .bool true]) (by kernel_rfl) (by kernel_rfl) (by kernel_rfl) (fun args w => Try.call59 args w) (fun w hw => by have := at_d p n cap l k w (hsl.kept hw.below) hn hb hall ha (by omega) (by omega); rw [q12] at this; exact this) ?_
        have hpl := pos_lt ha q12
        refine oq 5 [] [0] [(5, .int .i64 ((posB l k : Nat))), (6, .bool true)] ([]) (fun _ => by kernel_rfl) al0 ?_
        refine ops_nil ?_
        refine done_seq ?_
        refine at_seq ?_
        refine at_seq ?_
        refine aq [] [0, 5] [(20, .bool false)] ([]) (fun _ => by kernel_rfl) al0 ?_
        refine done_seq ?_
        refine at_false (by kernel_rfl) ?_
        refine at_skip ?_
        refine done_seq ?_
        refine at_seq ?_
        obtain ⟨b19, o19, rfl⟩ := hsl.pos (i := posB l k) (by omega)
        refine aq [(2, .at b19 o19 (posB l k))] [] [(4, .pointer (some ⟨b19, o19 + (posB l k) * 5, none⟩))] ([(some ⟨b19, o19, none⟩ : Option Addr) = some ⟨b19, o19, none⟩, ((posB l k : Nat)) = ((posB l k : Nat) : Int), posB l k < n]) (fun _ => by kernel_rfl) (al2 rfl (al2 rfl (al1 (by omega)))) ?_
        refine done_seq ?_
        refine at_return ([]) (.pointer (some ⟨b19, o19 + (posB l k) * 5, none⟩)) [] (by kernel_rfl) (by kernel_rfl) al0 ?_
        exact fun w' hw => ⟨by simp [portV, q12], hw.below⟩
end Go.Proofs.Ytfhlmijdokfdpaa
