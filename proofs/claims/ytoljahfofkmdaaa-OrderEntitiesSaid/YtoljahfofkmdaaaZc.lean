/- Texts of this proof, one behind the other. -/
import Derived.Test.YtoljahfofkmdaaaZb
import Derived.Test.YtoljahfofkmdaaaZa
import Derived.Shelf.SlSortCmp.NoneTotal
import Derived.Test.YtoljahfofkmdaaaProg
import Derived.Scope
/-! Order: who may be asked, who stands ahead. -/
namespace Go.Proofs.Ytoljahfofkmdaaa
open Go Go.RowKit

set_option maxRecDepth 100000 in
theorem orl_t (p : Option Addr) (n cap : Nat) (l : List Int) (w : World)
 (hsl : Sv w p l) (hn : n = l.length) (hb : n ≤ 1000)
 : Calls Try.prog 59 #[.slice p n cap] w fun e w' => e = .returned (.int .i64 (orL l)) ∧ Below w.heap.size w w' := by
 refine enter (Hs.start w) Try.func59 rfl Try.ntmps59 rfl (sq_ (qa0 [] [0] [] (ds_ (sq_ (qa0 [] [0] [(3, .int .i64 0)] (ds_ (sq_ (sq_ (qa0 [] [3] [(6, .slice p n cap), (7, .int .i64 (n : Nat)), (8, .int .i64 0)] (ds_ (at_block (at_loop (α := Nat) [3, 6, 7, 8] (fun j => [(3, .int .i64 0), (6, .slice p n cap), (7, .int .i64 (n : Nat)), (8, .int .i64 (j : Nat))]) (fun j => []) (fun j => j ≤ n ∧ ∀ y ∈ l.take j, y = 0) (fun j => n - j) 0 (by kernel_rfl) rfl ⟨Nat.zero_le _, all_take0T⟩ ?_))))))))))))
 rintro j
 rintro ⟨hj, hI⟩
 refine sq_ ?_
 by_cases q5 : ((j : Nat) : Int) < ((n : Nat) : Int)
 ·
  refine qa [(0, .yes)] [3, 6, 7, 8] [(9, .bool true)] ([((j : Nat) : Int) < ((n : Nat) : Int)]) (al1 q5) (ds_ (sq_ (t_ (at_skip (ds_ (sq_ (at_block (sq_ ?_))))))))
  obtain ⟨b8, o8, rfl⟩ := hsl.pos (i := j) (by omega)
  obtain ⟨x10, hx10⟩ := get_some (l := l) (m := j) (by omega)
  refine qa [(0, .at b8 o8 j), (1, .go (outs b8 (o8 + j * 1) [.int .i64 x10]))] [3, 6, 7, 8] [(5, .int .i64 x10)] ([(some ⟨b8, o8, none⟩ : Option Addr) = some ⟨b8, o8, none⟩, (j : Nat) = ((j : Nat) : Int), j < n] ++ (cellsP w b8 (o8 + j * 1) [.int .i64 x10])) (alA (al2 rfl (al2 rfl (al1 (by omega)))) (rd_pre (hsl.get hx10) _ rfl)) (ds_ (sq_ ?_))
  by_cases q13 : (x10 : Int) ≠ (0 : Int)
  ·
   refine qa [(2, .yes)] [3, 5, 6, 7, 8] [(14, .bool true)] ([(x10 : Int) ≠ (0 : Int)]) (al1 q13) (ds_ (t_ (sq_ (qa0 [] [] [(2, .int .i64 x10)] (ds_ (rt ([]) (.int .i64 x10) ?_))))))
   exact fun w' hw => ⟨by rw [or_yes hI hx10 q13], hw.below⟩
  ·
   refine qa [(2, .no)] [3, 5, 6, 7, 8] [(14, .bool false)] ([¬ ((x10 : Int) ≠ (0 : Int))]) (al1 q13) (ds_ (f_ (at_skip (done_block (ds_ (qa [(0, .fit)] [3, 6, 7] [(8, .int .i64 (j + 1 : Nat))] ([Fit .i64 ((j + 1 : Nat))]) (al1 (fit64 (by omega) (by omega))) ?_))))))
   exact dr [3, 6, 7, 8] (j + 1) ⟨by omega, all_onT hI hx10 (by omega)⟩
 ·
  refine qa [(0, .no)] [3, 6, 7, 8] [(9, .bool false)] ([¬ (((j : Nat) : Int) < ((n : Nat) : Int))]) (al1 q5) (ds_ (sq_ (f_ (at_leave _ rfl (ds_ (sq_ (qa0 [] [] [(2, .int .i64 0)] (ds_ (rt ([]) (.int .i64 0) ?_)))))))))
  rw [List.take_of_length_le (by omega)] at hI
  exact fun w' hw => ⟨by rw [or_no hI], hw.below⟩

set_option maxRecDepth 100000 in
theorem compare_t (a b : EnA) (w : World)
 (ra : a.Reads w)
 (rb : b.Reads w)
 (h0a : 0 < a.l.length) (h0b : 0 < b.l.length)
 : Calls Try.prog 38 #[.agg #[.slice a.p a.n a.cap, .int .u64 a.th, .int .u64 a.tl, .int .u64 a.tw, .int .u64 a.ord, .bool a.fresh], .agg #[.slice b.p b.n b.cap, .int .u64 b.th, .int .u64 b.tl, .int .u64 b.tw, .int .u64 b.ord, .bool b.fresh]] w fun e w' => e = .returned (.int .i64 (cmpE a.val b.val)) ∧ Below w.heap.size w w' := by
 have hsa : Sv w a.p a.l := ra.sv
 have hna : a.n = a.l.length := ra.hn
 have hca := ra.hc
 have hba := ra.hb
 have hsb : Sv w b.p b.l := rb.sv
 have hnb : b.n = b.l.length := rb.hn
 have hcb := rb.hc
 have hbb := rb.hb
 refine enter (Hs.start w) Try.func38 rfl Try.ntmps38 rfl (sq_ (ma0 [] [] (fun γ1 => [(2, .pointer (some ⟨γ1 0, 0, none⟩)), (3, .pointer (some ⟨γ1 1, 0, none⟩))]) (fun γ1 L => bx (γ1 1) (#[.slice b.p b.n b.cap, .int .u64 b.th, .int .u64 b.tl, .int .u64 b.tw, .int .u64 b.ord, .bool b.fresh]) 47 :: bx (γ1 0) (#[.slice a.p a.n a.cap, .int .u64 a.th, .int .u64 a.tl, .int .u64 a.tw, .int .u64 a.ord, .bool a.fresh]) 47 :: L) (fun γ1 => ds_ (sq_ (sq_ ?_)))))
 rcases q3 : a.fresh with _ | _
 ·
  rcases q5 : b.fresh with _ | _
  ·
   refine qa [(1, .go (owns 1 5 1)), (3, .go (owns 0 5 1)), (4, .eqs false)] [2, 3] [(9, .bool false)] ([EqRun Try.prog .neq 4 (.tmp 6) (.tmp 8) (.bool false) (.bool false) false]) (al1 (bool_ne false false)) (ds_ (f_ (at_skip (ds_ (sq_ ?_)))))
   obtain ⟨b7, o7, hbo7⟩ := hsa.pos (i := 0) (by omega)
   have hsv7 := hsa
   rw [hbo7] at hsv7
   obtain ⟨x8, hx8⟩ := get_some (l := a.l) (m := 0) (by omega)
   obtain ⟨b9, o9, hbo9⟩ := hsb.pos (i := 0) (by omega)
   have hsv9 := hsb
   rw [hbo9] at hsv9
   obtain ⟨x10, hx10⟩ := get_some (l := b.l) (m := 0) (by omega)
   refine at_calmTo (f := 3) 19 rfl (by kernel_rfl) (by kernel_rfl) (by kernel_rfl) (by kernel_rfl) (by kernel_rfl) (by kernel_rfl) ?_
   refine cm 4 [(1, .go (owns 1 1 3)), (3, .go (owns 0 1 3))] [2, 3] [(13, .agg #[.int .u64 a.th, .int .u64 a.tl, .int .u64 a.tw]), (15, .agg #[.int .u64 b.th, .int .u64 b.tl, .int .u64 b.tw])] ([]) (by kernel_rfl) rfl al0 ?_
   refine cK (.int .i64 (cmpF a.t b.t)) Try.call17 (fun w hw => fcmp_t a.t b.t w ra.tU rb.tU) ?_
   refine cm 4 [(6, .go (owns 1 4 1)), (8, .go (owns 0 4 1))] [2, 3, 16] [(18, .int .u64 a.ord), (20, .int .u64 b.ord)] ([]) (by kernel_rfl) rfl al0 ?_
   refine cK (.int .i64 (cmpT a.ord b.ord)) Try.call60 (fun w hw => cmp_uint64 a.ord b.ord w) ?_
   refine cm 8 [(11, .go (owns 1 0 1)), (12, .at b7 o7 0), (13, .go (outs b7 (o7 + 0 * 1) [.int .i64 x8])), (15, .go (owns 0 0 1)), (16, .at b9 o9 0), (17, .go (outs b9 (o9 + 0 * 1) [.int .i64 x10]))] [16, 21] [(25, .int .i64 x8), (29, .int .i64 x10)] ([(a.p : Option Addr) = some ⟨b7, o7, none⟩, 0 = ((0 : Nat) : Int), 0 < a.n] ++ (cellsP w b7 (o7 + 0 * 1) [.int .i64 x8] ++ ([(b.p : Option Addr) = some ⟨b9, o9, none⟩, 0 = ((0 : Nat) : Int), 0 < b.n] ++ (cellsP w b9 (o9 + 0 * 1) [.int .i64 x10])))) (by kernel_rfl) rfl (alA (al2 hbo7 (al2 rfl (al1 (by omega)))) (alA (rd_pre (hsv7.get hx8) _ rfl) (alA (al2 hbo9 (al2 rfl (al1 (by omega)))) (rd_pre (hsv9.get hx10) _ rfl)))) ?_
   refine cK (.int .i64 (cmpT x8 x10)) Try.call61 (fun w hw => cmp_int x8 x10 w) ?_
   refine calm_nil' ?_
   refine done_pre (li' := #[true, true, true, true, true, true, true, true, true, true, true, true, true, true, true, true, true, true, true, false, false, false]) (by kernel_rfl) ?_
   refine any_cutX (V := (Nat → Nat)) (fun γ397 => True) 0 #[true, true, true, true, true, true, true, true, true, true, true, true, true, true, true, true, true, true, true, true, true, true] (fun γ397 => [(4, .int .i64 (orL [(cmpF a.t b.t), (cmpT a.ord b.ord), (cmpT x8 x10)]))]) (fun γ397 => [bx (γ397 0) (#[.int .i64 (cmpF a.t b.t), .int .i64 (cmpT a.ord b.ord), .int .i64 (cmpT x8 x10)]) 3, bx (γ1 1) (#[.slice b.p b.n b.cap, .int .u64 b.th, .int .u64 b.tl, .int .u64 b.tw, .int .u64 b.ord, .bool false]) 47, bx (γ1 0) (#[.slice a.p a.n a.cap, .int .u64 a.th, .int .u64 a.tl, .int .u64 a.tw, .int .u64 a.ord, .bool false]) 47]) ?_ (fun hmx2 => ?_)
   rotate_left
   ·
    refine any_cutX (V := (Nat → Nat)) (fun γ397 => True) 2 #[true, true, true, true, true, true, true, true, true, true, true, true, true, true, true, true, true, true, true, true, false, false] (fun γ397 => [(31, .slice (some ⟨γ397 0, 0, none⟩) 3 3)]) (fun γ397 => [bx (γ397 0) (#[.int .i64 (cmpF a.t b.t), .int .i64 (cmpT a.ord b.ord), .int .i64 (cmpT x8 x10)]) 3, bx (γ1 1) (#[.slice b.p b.n b.cap, .int .u64 b.th, .int .u64 b.tl, .int .u64 b.tw, .int .u64 b.ord, .bool false]) 47, bx (γ1 0) (#[.slice a.p a.n a.cap, .int .u64 a.th, .int .u64 a.tl, .int .u64 a.tw, .int .u64 a.ord, .bool false]) 47]) ?_ (fun hmx1 => ?_)
    ·
     rintro γ397 _
     refine a1 20 rfl ?_
     refine cD (.int .i64 (orL [(cmpF a.t b.t), (cmpT a.ord b.ord), (cmpT x8 x10)])) Try.call59 (fun w hw => orl_t (some ⟨γ397 0, 0, none⟩) 3 3 [(cmpF a.t b.t), (cmpT a.ord b.ord), (cmpT x8 x10)] w (sv_row (hw.row 0 rfl) rfl) rfl (by decide)) ?_
     refine od_ ?_
     refine tk (m := 0) [21] [] [] [(4, .int .i64 (orL [(cmpF a.t b.t), (cmpT a.ord b.ord), (cmpT x8 x10)]))] ([]) #[true, true, true, true, true, true, true, true, true, true, true, true, true, true, true, true, true, true, true, true, true, true] al0 ?_
     exact wk (hmx2 γ397 trivial) [4] [[_], [_], [_]] [0, 1, 2] rfl rfl
    refine a1 19 rfl ?_
    refine mo0 1 [] [] (fun γ397 => [(31, .slice (some ⟨γ397 0, 0, none⟩) 3 3)]) (fun γ397 L => bx (γ397 0) (#[.int .i64 (cmpF a.t b.t), .int .i64 (cmpT a.ord b.ord), .int .i64 (cmpT x8 x10)]) 3 :: L) (fun γ397 => ?_)
    refine od_ ?_
    exact wk (hmx1 γ397 trivial) [31] [[_], [_], [_]] [0, 1, 2] rfl rfl
   rintro γ397 _
   refine any_nil (by kernel_rfl) ?_
   refine ds_ (rt ([]) (.int .i64 (orL [(cmpF a.t b.t), (cmpT a.ord b.ord), (cmpT x8 x10)])) ?_)
   exact fun w' hw => ⟨by rw [cmpE_s (a := a.val) (b := b.val) (q3.trans q5.symm) hx8 hx10]; rfl, hw.below⟩
  ·
   refine qa [(1, .go (owns 1 5 1)), (3, .go (owns 0 5 1)), (4, .eqs true)] [2, 3] [(9, .bool true)] ([EqRun Try.prog .neq 4 (.tmp 6) (.tmp 8) (.bool false) (.bool true) true]) (al1 (bool_ne false true)) (ds_ (t_ (sq_ (sq_ (qa0 [(1, .go (owns 1 5 1))] [] [(11, .bool false)] (ds_ (f_ (at_skip (ds_ (sq_ (qa0 [] [] [(4, .int .i64 1)] (ds_ (rt ([]) (.int .i64 1) ?_)))))))))))))
   exact fun w' hw => ⟨by rw [cmpE_r (a := a.val) (b := b.val) q3 q5], hw.below⟩
 ·
  rcases q502 : b.fresh with _ | _
  ·
   refine qa [(1, .go (owns 1 5 1)), (3, .go (owns 0 5 1)), (4, .eqs true)] [2, 3] [(9, .bool true)] ([EqRun Try.prog .neq 4 (.tmp 6) (.tmp 8) (.bool true) (.bool false) true]) (al1 (bool_ne true false)) (ds_ (t_ (sq_ (sq_ (qa0 [(1, .go (owns 1 5 1))] [] [(11, .bool true)] (ds_ (t_ (sq_ (qa0 [] [] [(4, .int .i64 (-1))] (ds_ (rt ([]) (.int .i64 (-1)) ?_)))))))))))
   exact fun w' hw => ⟨by rw [cmpE_l (a := a.val) (b := b.val) q3 q502], hw.below⟩
  ·
   refine qa [(1, .go (owns 1 5 1)), (3, .go (owns 0 5 1)), (4, .eqs false)] [2, 3] [(9, .bool false)] ([EqRun Try.prog .neq 4 (.tmp 6) (.tmp 8) (.bool true) (.bool true) false]) (al1 (bool_ne true true)) (ds_ (f_ (at_skip (ds_ (sq_ ?_)))))
   obtain ⟨b507, o507, hbo507⟩ := hsa.pos (i := 0) (by omega)
   have hsv507 := hsa
   rw [hbo507] at hsv507
   obtain ⟨x508, hx508⟩ := get_some (l := a.l) (m := 0) (by omega)
   obtain ⟨b509, o509, hbo509⟩ := hsb.pos (i := 0) (by omega)
   have hsv509 := hsb
   rw [hbo509] at hsv509
   obtain ⟨x510, hx510⟩ := get_some (l := b.l) (m := 0) (by omega)
   refine at_calmTo (f := 3) 19 rfl (by kernel_rfl) (by kernel_rfl) (by kernel_rfl) (by kernel_rfl) (by kernel_rfl) (by kernel_rfl) ?_
   refine cm 4 [(1, .go (owns 1 1 3)), (3, .go (owns 0 1 3))] [2, 3] [(13, .agg #[.int .u64 a.th, .int .u64 a.tl, .int .u64 a.tw]), (15, .agg #[.int .u64 b.th, .int .u64 b.tl, .int .u64 b.tw])] ([]) (by kernel_rfl) rfl al0 ?_
   refine cK (.int .i64 (cmpF a.t b.t)) Try.call17 (fun w hw => fcmp_t a.t b.t w ra.tU rb.tU) ?_
   refine cm 4 [(6, .go (owns 1 4 1)), (8, .go (owns 0 4 1))] [2, 3, 16] [(18, .int .u64 a.ord), (20, .int .u64 b.ord)] ([]) (by kernel_rfl) rfl al0 ?_
   refine cK (.int .i64 (cmpT a.ord b.ord)) Try.call60 (fun w hw => cmp_uint64 a.ord b.ord w) ?_
   refine cm 8 [(11, .go (owns 1 0 1)), (12, .at b507 o507 0), (13, .go (outs b507 (o507 + 0 * 1) [.int .i64 x508])), (15, .go (owns 0 0 1)), (16, .at b509 o509 0), (17, .go (outs b509 (o509 + 0 * 1) [.int .i64 x510]))] [16, 21] [(25, .int .i64 x508), (29, .int .i64 x510)] ([(a.p : Option Addr) = some ⟨b507, o507, none⟩, 0 = ((0 : Nat) : Int), 0 < a.n] ++ (cellsP w b507 (o507 + 0 * 1) [.int .i64 x508] ++ ([(b.p : Option Addr) = some ⟨b509, o509, none⟩, 0 = ((0 : Nat) : Int), 0 < b.n] ++ (cellsP w b509 (o509 + 0 * 1) [.int .i64 x510])))) (by kernel_rfl) rfl (alA (al2 hbo507 (al2 rfl (al1 (by omega)))) (alA (rd_pre (hsv507.get hx508) _ rfl) (alA (al2 hbo509 (al2 rfl (al1 (by omega)))) (rd_pre (hsv509.get hx510) _ rfl)))) ?_
   refine cK (.int .i64 (cmpT x508 x510)) Try.call61 (fun w hw => cmp_int x508 x510 w) ?_
   refine calm_nil' ?_
   refine done_pre (li' := #[true, true, true, true, true, true, true, true, true, true, true, true, true, true, true, true, true, true, true, false, false, false]) (by kernel_rfl) ?_
   refine any_cutX (V := (Nat → Nat)) (fun γ897 => True) 0 #[true, true, true, true, true, true, true, true, true, true, true, true, true, true, true, true, true, true, true, true, true, true] (fun γ897 => [(4, .int .i64 (orL [(cmpF a.t b.t), (cmpT a.ord b.ord), (cmpT x508 x510)]))]) (fun γ897 => [bx (γ897 0) (#[.int .i64 (cmpF a.t b.t), .int .i64 (cmpT a.ord b.ord), .int .i64 (cmpT x508 x510)]) 3, bx (γ1 1) (#[.slice b.p b.n b.cap, .int .u64 b.th, .int .u64 b.tl, .int .u64 b.tw, .int .u64 b.ord, .bool true]) 47, bx (γ1 0) (#[.slice a.p a.n a.cap, .int .u64 a.th, .int .u64 a.tl, .int .u64 a.tw, .int .u64 a.ord, .bool true]) 47]) ?_ (fun hmx2 => ?_)
   rotate_left
   ·
    refine any_cutX (V := (Nat → Nat)) (fun γ897 => True) 2 #[true, true, true, true, true, true, true, true, true, true, true, true, true, true, true, true, true, true, true, true, false, false] (fun γ897 => [(31, .slice (some ⟨γ897 0, 0, none⟩) 3 3)]) (fun γ897 => [bx (γ897 0) (#[.int .i64 (cmpF a.t b.t), .int .i64 (cmpT a.ord b.ord), .int .i64 (cmpT x508 x510)]) 3, bx (γ1 1) (#[.slice b.p b.n b.cap, .int .u64 b.th, .int .u64 b.tl, .int .u64 b.tw, .int .u64 b.ord, .bool true]) 47, bx (γ1 0) (#[.slice a.p a.n a.cap, .int .u64 a.th, .int .u64 a.tl, .int .u64 a.tw, .int .u64 a.ord, .bool true]) 47]) ?_ (fun hmx1 => ?_)
    ·
     rintro γ897 _
     refine a1 20 rfl ?_
     refine cD (.int .i64 (orL [(cmpF a.t b.t), (cmpT a.ord b.ord), (cmpT x508 x510)])) Try.call59 (fun w hw => orl_t (some ⟨γ897 0, 0, none⟩) 3 3 [(cmpF a.t b.t), (cmpT a.ord b.ord), (cmpT x508 x510)] w (sv_row (hw.row 0 rfl) rfl) rfl (by decide)) ?_
     refine od_ ?_
     refine tk (m := 0) [21] [] [] [(4, .int .i64 (orL [(cmpF a.t b.t), (cmpT a.ord b.ord), (cmpT x508 x510)]))] ([]) #[true, true, true, true, true, true, true, true, true, true, true, true, true, true, true, true, true, true, true, true, true, true] al0 ?_
     exact wk (hmx2 γ897 trivial) [4] [[_], [_], [_]] [0, 1, 2] rfl rfl
    refine a1 19 rfl ?_
    refine mo0 1 [] [] (fun γ897 => [(31, .slice (some ⟨γ897 0, 0, none⟩) 3 3)]) (fun γ897 L => bx (γ897 0) (#[.int .i64 (cmpF a.t b.t), .int .i64 (cmpT a.ord b.ord), .int .i64 (cmpT x508 x510)]) 3 :: L) (fun γ897 => ?_)
    refine od_ ?_
    exact wk (hmx1 γ897 trivial) [31] [[_], [_], [_]] [0, 1, 2] rfl rfl
   rintro γ897 _
   refine any_nil (by kernel_rfl) ?_
   refine ds_ (rt ([]) (.int .i64 (orL [(cmpF a.t b.t), (cmpT a.ord b.ord), (cmpT x508 x510)])) ?_)
   exact fun w' hw => ⟨by rw [cmpE_s (a := a.val) (b := b.val) (q3.trans q502.symm) hx508 hx510]; rfl, hw.below⟩

end Go.Proofs.Ytoljahfofkmdaaa

/-! The walker: slices.SortFunc on a slice of one's own, by the library's contract. -/
namespace Go.Proofs.Ytoljahfofkmdaaa
open Go Go.RowKit Go.Shelf Go.Proofs
open Go.Sort (flatK get_flatK HoldsK putRowK size_flatK)

section
variable {α : Type} [Enc α] [Inhabited α]
theorem flatK_is (l : List α) : flatK Enc.enc (Enc.k α) l.toArray = (l.flatMap Enc.enc).toArray := by
  have hk := Enc.pos (α := α)
  apply Array.ext
  · rw [size_flatK, List.size_toArray, List.size_toArray, flat_len]
  · intro t h1 h2
    have ht : t < l.length * Enc.k α := by rw [← flat_len]; exact h2
    have hi : t / Enc.k α < l.length := Nat.div_lt_of_lt_mul (by rw [Nat.mul_comm]; exact ht)
    have hj : t % Enc.k α < Enc.k α := Nat.mod_lt _ hk
    have hg := flat_get l (t / Enc.k α) hi (t % Enc.k α) hj
    rw [Nat.mul_comm, Nat.div_add_mod] at hg
    have h3 := get_flatK Enc.enc (Enc.k α) l.toArray t (by simpa using ht)
    rw [getElem!_pos (flatK Enc.enc (Enc.k α) l.toArray) t h1] at h3
    rw [h3]
    have e1 : l.toArray[t / Enc.k α]! = l[t / Enc.k α] := by rw [getElem!_pos l.toArray _ (by simpa using hi)]; simp
    rw [e1]
    have h4 : t % Enc.k α < (Enc.enc l[t / Enc.k α]).length := by rw [Enc.len]; exact hj
    rw [getElem!_pos (Enc.enc l[t / Enc.k α]) _ h4]
    rw [List.getElem?_eq_getElem h4, List.getElem?_eq_getElem (by simpa using h2)] at hg
    simp only [Option.some.injEq] at hg
    simpa using hg.symm
theorem holdsK_own {w : World} {g n cap : Nat} {cs : Array Value} {T : TypeId} {l : List α} (hg : w.heap[g]? = some (.cells cs T (0, 0))) (hn : n = l.length) (h : OwnS (Enc.k α) (l.flatMap Enc.enc) n cap cs) : HoldsK Enc.enc (Enc.k α) w g 0 l.toArray := by
  intro j hj
  have hj' : j < n * Enc.k α := by rw [hn]; simpa using hj
  have e0 : j < (l.flatMap Enc.enc).toArray.size := by rw [← flatK_is]; exact hj
  rw [Nat.zero_add]
  constructor
  · rw [cell_own hg, h.get j hj', flatK_is, id, getElem!_pos _ j e0, List.getElem?_eq_getElem (by simpa using e0)]
    simp
  · simp [World.frozen?, hg]
theorem turn_putRow {w : World} {g m n cap : Nat} {cs : Array Value} {T : TypeId} {l l' : List α} (hg : w.heap[g]? = some (.cells cs T (0, 0))) (hn : n = l.length) (hl : l'.length = l.length) (h : OwnS (Enc.k α) (l.flatMap Enc.enc) n cap cs) :
    ∃ cs', Turn g (.cells cs' T (0, 0)) w (putRowK Enc.enc (Enc.k α) (Go.Sort.ahead w m) g 0 l'.toArray) ∧ OwnS (Enc.k α) (l'.flatMap Enc.enc) n cap cs' := by
  have hsz : (l'.flatMap Enc.enc).length = n * Enc.k α := by rw [flat_len, hl, hn]
  have hle : n * Enc.k α ≤ cs.size := by rw [h.csz]; exact Nat.mul_le_mul_right _ h.le
  refine ⟨Go.Sort.putCells id 0 (flatK Enc.enc (Enc.k α) l'.toArray) cs, ⟨?_, fun k hk => ?_, ?_, rfl, rfl, rfl, Nat.le_add_right _ _⟩, ⟨hsz, h.le, h.max, ?_, ?_⟩⟩
  · unfold putRowK Go.Sort.putRow Go.Sort.mapBlock Go.Sort.ahead
    simp [Array.getElem?_modify, hg, Go.Sort.onCells]
  · unfold putRowK Go.Sort.putRow Go.Sort.mapBlock Go.Sort.ahead
    simp only [Array.getElem?_modify]
    rw [if_neg (fun e => hk e.symm)]
  · unfold putRowK Go.Sort.putRow Go.Sort.mapBlock Go.Sort.ahead
    simp
  · rw [← h.csz]; simp [Go.Sort.putCells]
  · rw [flatK_is]
    apply List.ext_getElem?
    intro j
    rw [List.getElem?_take]
    by_cases hj : j < n * Enc.k α
    · rw [if_pos hj, Array.getElem?_toList]
      unfold Go.Sort.putCells
      rw [Array.getElem?_mapIdx, Array.getElem?_eq_getElem (by omega)]
      simp only [Option.map_some, Nat.zero_le, true_and, Nat.zero_add, Nat.sub_zero, List.size_toArray, id]
      rw [if_pos (by omega), getElem!_pos _ j (by simpa [hsz] using hj), List.getElem?_eq_getElem (by omega)]
      simp
    · rw [if_neg hj, List.getElem?_eq_none (by omega)]
theorem below_grow (w : World) (os : Array Obj) : Below w.heap.size w (Go.Sort.grow w os) := by
  refine ⟨rfl, rfl, rfl, ?_, fun k hk => ?_, Nat.le_refl _⟩
  · simp [Go.Sort.grow]
  · simp only [Go.Sort.grow]
    rw [Array.getElem?_append_left hk]
/-- The same, where the comparing function is known in whatever world that holds the row and what else is one's own. -/
theorem sort_ownR {P : Program} {ρ : Ren} (L : SlLaysF0.n6 P ρ) {T : TypeId} (aE : ∀ w, (isAgg (ρ.t 24)).run P w = .ok true w) (zE : ∀ w, (Go.sizeOf (ρ.t 24)).run P w = .ok (Enc.k α) w) (cf : α → α → Int) (hO : Go.Sort.SWO (ltOf cf))
    (hT : ∀ x y, (ltOf cf) x y = false → (ltOf cf) y x = false → x = y) (g : Nat) (cb : Array Value) (eg : ∀ args w, (callFunc g args).run P w = .ok (.enter g args) w) {w0 w : World} {X Y : List Ob} {p : Option Addr} {n cap : Nat} {l : List α} (hH : Hs w0 (Y ++ X) w) (hS : SlO T Y p n cap l) (hb : n ≤ 1000000)
    (hcmp : ∀ (b : Ob) (W : World), Hs w0 (b :: X) W → ∀ x y : α, Calls P g (#[.agg (Enc.enc x).toArray, .agg (Enc.enc y).toArray] ++ cb) W fun e w' => e = .returned (.int .i64 (cf x y)) ∧ Below W.heap.size W w') :
    Calls P (ρ.f 6) #[.slice p n cap, .func (.func g) #[] cb] w fun e w' => e = .returned (.tuple #[]) ∧ ∃ Y', SlO T Y' p n cap (l.mergeSort fun x y => !(ltOf cf) y x) ∧ Hs w0 (Y' ++ X) w' := by
  rcases hS with ⟨rfl, rfl, rfl, rfl, rfl⟩ | ⟨blk, cs, rfl, rfl, hn, hw⟩
  · refine (AnyF.slices_SortFunc_none L none 0 _ w).mono ?_
    rintro e w' ⟨rfl, rfl⟩
    exact ⟨rfl, [], by simpa using SlO.nil, hH⟩
  · have hg := hH.row 0 rfl
    have hs : l.toArray.size = n := by simpa using hn.symm
    have hl : (l.mergeSort fun x y => !(ltOf cf) y x).length = l.length := List.length_mergeSort l
    have hcl : CmpLays P g cb Enc.enc (Enc.k α) cf blk 0 n w := by
      intro m os dk hdk x y
      have hdl : dk.toList.length = l.length := by rw [← hn, ← hdk]; rfl
      obtain ⟨cs', ht, hw'⟩ := turn_putRow (m := m) hg hn hdl hw
      have h2 := (hH.turnHead ht).kept (below_grow _ os)
      refine (hcmp _ _ h2 x y).mono ?_
      rintro e w' ⟨rfl, hb'⟩
      refine ⟨rfl, ?_⟩
      obtain ⟨q, os', hw2⟩ := below_grows hb'
      exact ⟨q, os', hw2⟩
    have := AnyQ.slices_SortFunc_total L (Enc.k α) aE zE Enc.enc Enc.len Enc.one cf hO g cb blk 0 cap l.toArray w eg (by rw [hs]; exact hcl) (holdsK_own hg hn hw) (hs_lt hg) (by omega) hT
    rw [hs] at this
    refine this.mono ?_
    rintro e w' ⟨rfl, m, os, rfl⟩
    obtain ⟨cs', ht, hw'⟩ := turn_putRow (m := m) hg hn hl hw
    refine ⟨rfl, [(blk, .cells cs' T (0, 0))], .inr ⟨blk, cs', rfl, rfl, by rw [hl]; exact hn, hw'⟩, ?_⟩
    have h2 := hH.turnHead ht
    exact h2.kept (below_grow _ _)
end
end Go.Proofs.Ytoljahfofkmdaaa

/-! The library's sort of entities: its bodies, as the kit's command lays them (written out). -/
namespace Go.Proofs.Ytoljahfofkmdaaa
open Go Go.Shelf Go.Proofs
def sortEL_ren : Go.Shelf.Ren := ⟨fun | 6 => 37 | 15 => 58 | 14 => 57 | 28 => 80 | 29 => 81 | 20 => 72 | 21 => 73 | 22 => 74 | 23 => 75 | 24 => 76 | 25 => 77 | 26 => 78 | 27 => 79 | 46 => 90 | 47 => 91 | 48 => 92 | 49 => 93 | 50 => 94 | 57 => 99 | n => n, fun | 22 => 34 | 24 => 47 | 25 => 82 | 3 => 3 | 39 => 57 | 0 => 0 | 53 => 123 | 55 => 41 | 4 => 4 | 46 => 117 | 45 => 116 | 50 => 63 | 5 => 5 | 9 => 9 | 66 => 128 | 70 => 132 | 76 => 142 | 77 => 143 | n => n, fun | n => n⟩
theorem sortEL : Go.Proofs.SlLaysF0.n6 Try.prog sortEL_ren where
  mixed := by kernel_rfl
  f6 := ⟨"slices.SortFunc[[]mainsheet/api.Entity,mainsheet/api.Entity]", by decide, Try.func37.trans (congrArg some (by kernel_rfl))⟩
  f14 := ⟨"slices.pdqsortCmpFunc[mainsheet/api.Entity]", by decide, Try.func57.trans (congrArg some (by kernel_rfl))⟩
  f15 := Try.func58.trans (congrArg some (by kernel_rfl))
  f20 := ⟨"slices.insertionSortCmpFunc[mainsheet/api.Entity]", by decide, Try.func72.trans (congrArg some (by kernel_rfl))⟩
  f21 := ⟨"slices.heapSortCmpFunc[mainsheet/api.Entity]", by decide, Try.func73.trans (congrArg some (by kernel_rfl))⟩
  f22 := ⟨"slices.breakPatternsCmpFunc[mainsheet/api.Entity]", by decide, Try.func74.trans (congrArg some (by kernel_rfl))⟩
  f23 := ⟨"slices.choosePivotCmpFunc[mainsheet/api.Entity]", by decide, Try.func75.trans (congrArg some (by kernel_rfl))⟩
  f24 := ⟨"slices.reverseRangeCmpFunc[mainsheet/api.Entity]", by decide, Try.func76.trans (congrArg some (by kernel_rfl))⟩
  f25 := ⟨"slices.partialInsertionSortCmpFunc[mainsheet/api.Entity]", by decide, Try.func77.trans (congrArg some (by kernel_rfl))⟩
  f26 := ⟨"slices.partitionEqualCmpFunc[mainsheet/api.Entity]", by decide, Try.func78.trans (congrArg some (by kernel_rfl))⟩
  f27 := ⟨"slices.partitionCmpFunc[mainsheet/api.Entity]", by decide, Try.func79.trans (congrArg some (by kernel_rfl))⟩
  f28 := Try.func80.trans (congrArg some (by kernel_rfl))
  f29 := Try.func81.trans (congrArg some (by kernel_rfl))
  f46 := ⟨"slices.siftDownCmpFunc[mainsheet/api.Entity]", by decide, Try.func90.trans (congrArg some (by kernel_rfl))⟩
  f47 := Try.func91.trans (congrArg some (by kernel_rfl))
  f48 := Try.func92.trans (congrArg some (by kernel_rfl))
  f49 := ⟨"slices.medianAdjacentCmpFunc[mainsheet/api.Entity]", by decide, Try.func93.trans (congrArg some (by kernel_rfl))⟩
  f50 := ⟨"slices.medianCmpFunc[mainsheet/api.Entity]", by decide, Try.func94.trans (congrArg some (by kernel_rfl))⟩
  f57 := ⟨"slices.order2CmpFunc[mainsheet/api.Entity]", by decide, Try.func99.trans (congrArg some (by kernel_rfl))⟩
  t0 := Try.underlying0
  a0 := Try.isAgg0
  z0 := Try.sizeOf0
  v0 := Try.zeroValue0
  t3 := Try.underlying3
  a3 := Try.isAgg3
  z3 := Try.sizeOf3
  v3 := Try.zeroValue3
  t4 := Try.underlying4
  a4 := Try.isAgg4
  z4 := Try.sizeOf4
  v4 := Try.zeroValue4
  t5 := Try.underlying5
  a5 := Try.isAgg5
  z5 := Try.sizeOf5
  v5 := Try.zeroValue5
  t9 := Try.underlying9
  a9 := Try.isAgg9
  z9 := Try.sizeOf9
  v9 := Try.zeroValue9
  t22 := Try.underlying34
  a22 := Try.isAgg34
  z22 := Try.sizeOf34
  v22 := Try.zeroValue34
  t25 := Try.underlying82
  a25 := Try.isAgg82
  z25 := Try.sizeOf82
  v25 := Try.zeroValue82
  t39 := Try.underlying57
  a39 := Try.isAgg57
  z39 := Try.sizeOf57
  v39 := Try.zeroValue57
  t45 := Try.underlying116
  a45 := Try.isAgg116
  z45 := Try.sizeOf116
  v45 := Try.zeroValue116
  t46 := Try.underlying117
  a46 := Try.isAgg117
  z46 := Try.sizeOf117
  v46 := Try.zeroValue117
  t50 := Try.underlying63
  a50 := Try.isAgg63
  z50 := Try.sizeOf63
  v50 := Try.zeroValue63
  t53 := Try.underlying123
  a53 := Try.isAgg123
  z53 := Try.sizeOf123
  v53 := Try.zeroValue123
  t55 := Try.underlying41
  a55 := Try.isAgg41
  z55 := Try.sizeOf41
  v55 := Try.zeroValue41
  t66 := Try.underlying128
  a66 := Try.isAgg128
  z66 := Try.sizeOf128
  v66 := Try.zeroValue128
  t70 := Try.underlying132
  a70 := Try.isAgg132
  z70 := Try.sizeOf132
  v70 := Try.zeroValue132
  t76 := Try.underlying142
  a76 := Try.isAgg142
  z76 := Try.sizeOf142
  v76 := Try.zeroValue142
  t77 := Try.underlying143
  a77 := Try.isAgg143
  z77 := Try.sizeOf143
  v77 := Try.zeroValue143
end Go.Proofs.Ytoljahfofkmdaaa

/-! Entities of one's own, and the library's sort of them. -/
namespace Go.Proofs.Ytoljahfofkmdaaa
open Go Go.RowKit Go.Shelf Go.Proofs

section
variable {T : TypeId} {Yi Y Z L : List Ob} {al bl : List IntsA} {x y : IntsA} {w w0 : World}
theorem GotR.consE (h : SlO T Y x.p x.n x.cap x.l) (h2 : GotR T Z al) : GotR T (Y ++ Z) (x :: al) := by
  obtain ⟨Ys, rfl, hl, hs⟩ := h2
  refine ⟨Y :: Ys, rfl, by simp [hl], fun i V v h1 h3 => ?_⟩
  cases i with
  | zero => cases h1; cases h3; exact h
  | succ i => exact hs i V v (by simpa using h1) (by simpa using h3)
theorem GotR.uncons (h : GotR T Yi (x :: al)) : ∃ Y Z, Yi = Y ++ Z ∧ SlO T Y x.p x.n x.cap x.l ∧ GotR T Z al := by
  obtain ⟨Ys, rfl, hl, hs⟩ := h
  cases Ys with
  | nil => simp at hl
  | cons Y Ys => exact ⟨Y, Ys.flatten, rfl, hs 0 Y x rfl rfl, Ys, rfl, by simpa using hl, fun i V v h1 h3 => hs (i + 1) V v (by simpa using h1) (by simpa using h3)⟩
theorem GotR.perm (hp : bl.Perm al) : ∀ {Yi : List Ob}, GotR T Yi bl → ∃ Yj, Yj.Perm Yi ∧ GotR T Yj al := by
  induction hp with
  | nil => exact fun h => ⟨_, .refl _, h⟩
  | cons x _ ih =>
    intro Yi h
    obtain ⟨Y, Z, rfl, h1, h2⟩ := h.uncons
    obtain ⟨Z', hz, h3⟩ := ih h2
    exact ⟨Y ++ Z', hz.append_left Y, h3.consE h1⟩
  | swap x y l =>
    intro Yi h
    obtain ⟨Y, Z, rfl, h1, h2⟩ := h.uncons
    obtain ⟨Y2, Z2, rfl, h3, h4⟩ := h2.uncons
    refine ⟨Y2 ++ (Y ++ Z2), ?_, (h4.consE h1).consE h3⟩
    rw [← List.append_assoc, ← List.append_assoc]
    exact List.perm_append_comm.append_right Z2
  | trans _ _ ih1 ih2 =>
    intro Yi h
    obtain ⟨Z, hz, h1⟩ := ih1 h
    obtain ⟨V, hv, h2⟩ := ih2 h1
    exact ⟨V, hv.trans hz, h2⟩
end
def EnA.row (x : EnA) : IntsA := ⟨x.p, x.n, x.cap, x.l⟩
structure EnA.U (x : EnA) : Prop where
  t : x.t.U
  o0 : 0 ≤ x.ord
  o1 : x.ord < 18446744073709551616
def GotE (T : TypeId) (Yi : List Ob) (el : List EnA) : Prop := GotR T Yi (el.map EnA.row)
section
variable {T : TypeId} {Yi Y Z L : List Ob} {el fl : List EnA} {x y : EnA} {w w0 : World}
theorem GotE.nil : GotE T [] [] := GotR.nil
theorem EnA.Reads.of (h : x.row.Reads w) (hU : x.U) : x.Reads w := ⟨h.sv, h.hn, h.hc, h.hb, hU.t, hU.o0, hU.o1⟩
theorem EnA.Reads.U (h : x.Reads w) : x.U := ⟨h.tU, h.o0, h.o1⟩
theorem GotE.reads (h : GotE T Yi el) (hU : ∀ x ∈ el, x.U) (hw : Hs w0 L w) (hs : List.Sublist Yi L) : ∀ x ∈ el, x.Reads w := fun x hx => .of (GotR.reads h hw hs _ (List.mem_map_of_mem hx)) (hU x hx)
theorem GotE.snoc (h : GotE T Yi el) (hx : SlO T Y y.p y.n y.cap y.l) : GotE T (Yi ++ Y) (el ++ [y]) := by
  unfold GotE
  rw [List.map_append]
  exact GotR.snoc h hx
theorem GotE.perm (hp : el.Perm fl) (h : GotE T Yi el) : ∃ Yj, Yj.Perm Yi ∧ GotE T Yj fl := GotR.perm (hp.map _) h
end
abbrev encSub (el : List EnA) : Enc { x : EnA // x ∈ el } := ⟨fun x => Enc.enc x.1, Enc.k EnA, fun x => Enc.len x.1, fun x v h => Enc.one x.1 v h, Enc.pos (α := EnA)⟩
theorem flat_sub (el : List EnA) : (el.attach.flatMap (encSub el).enc) = el.flatMap Enc.enc := by
  conv => rhs; rw [← List.attach_map_subtype_val el, List.flatMap_map]
  rfl
theorem flat_sub' (el : List EnA) (l : List { x : EnA // x ∈ el }) : (l.flatMap (encSub el).enc) = (l.map Subtype.val).flatMap Enc.enc := by
  rw [List.flatMap_map]
  rfl
theorem swoE (el : List EnA) (hR : ∀ x ∈ el, rightE x.val = true) : Go.Sort.SWO (ltOf fun x y : { x : EnA // x ∈ el } => cmpE x.1.val y.1.val) := by
  have hok : ∀ x : { x : EnA // x ∈ el }, x.1.val.t.ok = true := fun x => (rt_iff.1 (hR x.1 x.2)).2
  have hlt : ∀ x y : { x : EnA // x ∈ el }, ltOf (fun x y : { x : EnA // x ∈ el } => cmpE x.1.val y.1.val) x y = true ↔ AltP x.1.val y.1.val := fun x y => by
    unfold ltOf
    rw [decide_eq_true_eq]
    exact cmpE_neg (hok x) (hok y)
  refine ⟨fun x => ?_, fun x y z h1 h2 => ?_, fun x y z h1 h2 => ?_⟩
  · rw [← Bool.not_eq_true, hlt]; exact alt_irr
  · rw [hlt] at *; exact (alt_all (hok x) (hok y) (hok z)).1 h1 h2
  · rw [← Bool.not_eq_true, hlt] at *; exact (alt_all (hok x) (hok y) (hok z)).2.1 h1 h2
/-- slices.SortFunc of entities of one's own, under order.compare. -/
theorem sortE_own {w0 w : World} {X Y : List Ob} {p : Option Addr} {n cap : Nat} {el : List EnA} (hH : Hs w0 (Y ++ X) w) (hS : SlO 47 Y p n cap el) (hb : n ≤ 1000000) (hR : ∀ x ∈ el, rightE x.val = true) (hN : (el.map fun x => firstM x.val).Nodup)
    (hrd : ∀ (b : Ob) (W : World), Hs w0 (b :: X) W → ∀ x ∈ el, x.Reads W) :
    Calls Try.prog 37 #[.slice p n cap, .func (.func 38) #[] #[]] w fun e w' => e = .returned (.tuple #[]) ∧ ∃ Y' el', el'.Perm el ∧ SortP (el'.map EnA.val) ∧ SlO 47 Y' p n cap el' ∧ Hs w0 (Y' ++ X) w' := by
  by_cases hn : n = 0
  · subst hn
    refine (AnyF.slices_SortFunc_none sortEL p cap _ w).mono ?_
    rintro e w' ⟨rfl, rfl⟩
    have he : el = [] := List.length_eq_zero_iff.1 hS.len.symm
    subst he
    exact ⟨rfl, Y, [], .refl _, List.Pairwise.nil, hS, hH⟩
  · have hl := hS.len
    letI : Inhabited { x : EnA // x ∈ el } := ⟨⟨el[0]'(by omega), List.getElem_mem _⟩⟩
    letI := encSub el
    have hS' : SlO 47 Y p n cap el.attach := by
      rcases hS with ⟨_, _, h, _, _⟩ | ⟨g, cs, h1, h2, h3, h4⟩
      · exact absurd h hn
      · exact .inr ⟨g, cs, h1, h2, by rw [List.length_attach]; exact h3, by show OwnS (Enc.k EnA) (el.attach.flatMap (encSub el).enc) n cap cs; rw [flat_sub]; exact h4⟩
    have hok : ∀ x : { x : EnA // x ∈ el }, x.1.val.t.ok = true := fun x => (rt_iff.1 (hR x.1 x.2)).2
    have hlt : ∀ x y : { x : EnA // x ∈ el }, ltOf (fun x y : { x : EnA // x ∈ el } => cmpE x.1.val y.1.val) x y = true ↔ AltP x.1.val y.1.val := fun x y => by
      unfold ltOf
      rw [decide_eq_true_eq]
      exact cmpE_neg (hok x) (hok y)
    refine (sort_ownR (α := { x : EnA // x ∈ el }) sortEL Try.isAgg47 Try.sizeOf47 (fun x y => cmpE x.1.val y.1.val) (swoE el hR) (fun x y h1 h2 => ?_) 38 #[] (fun args w => Try.call38 args w) hH hS' hb
      (fun b W hW x y => compare_t x.1 y.1 W (hrd b W hW x.1 x.2) (hrd b W hW y.1 y.2) (rt_iff.1 (hR x.1 x.2)).1 (rt_iff.1 (hR y.1 y.2)).1)).mono ?_
    · rw [← Bool.not_eq_true, hlt] at h1 h2
      exact Subtype.ext (nodup_inj hN x.2 y.2 ((alt_all (hok x) (hok y) (hok y)).2.2.2.1 h1 h2).2.2.2)
    · rintro e w' ⟨rfl, Y', hY, hH'⟩
      have hp := List.mergeSort_perm el.attach (fun x y => !(ltOf fun x y : { x : EnA // x ∈ el } => cmpE x.1.val y.1.val) y x)
      have hsw := swoE el hR
      have hs := List.pairwise_mergeSort (le := fun x y => !(ltOf fun x y : { x : EnA // x ∈ el } => cmpE x.1.val y.1.val) y x)
        (fun a b c h1 h2 => by
          simp only [Bool.not_eq_true'] at *
          exact hsw.ntrans c b a h2 h1)
        (fun a b => by
          simp only [Bool.or_eq_true, Bool.not_eq_true']
          rw [← Bool.not_eq_true, ← Bool.not_eq_true, hlt, hlt]
          by_cases h : AltP b.1.val a.1.val
          · exact .inr ((alt_all (hok b) (hok a) (hok a)).2.2.1 h)
          · exact .inl h) el.attach
      generalize el.attach.mergeSort (fun x y => !(ltOf fun x y : { x : EnA // x ∈ el } => cmpE x.1.val y.1.val) y x) = sl at hY hp hs
      refine ⟨rfl, Y', sl.map Subtype.val, ?_, ?_, ?_, hH'⟩
      · have := hp.map Subtype.val
        rwa [List.attach_map_subtype_val] at this
      · unfold SortP
        rw [List.pairwise_map, List.pairwise_map]
        refine hs.imp fun {a b} h => ?_
        simp only [Bool.not_eq_true'] at h
        rw [ahead_not (hR b.1 b.2) (hR a.1 a.2), ← hlt, Bool.not_eq_true]
        exact h
      · rcases hY with ⟨_, _, h, _, _⟩ | ⟨g, cs, h1, h2, h3, h4⟩
        · exact absurd h hn
        · refine .inr ⟨g, cs, h1, h2, by rw [List.length_map]; exact h3, ?_⟩
          have h5 : OwnS (Enc.k EnA) (sl.flatMap (encSub el).enc) n cap cs := h4
          rwa [flat_sub'] at h5
end Go.Proofs.Ytoljahfofkmdaaa

/-! Matches by paths that make one longer; plain. -/
namespace Go.Proofs.Ytoljahfofkmdaaa
open Go Go.RowKit

section
variable {β : Type} {D : List (Int × β)} {c k : Int} {v : β}
theorem mk_some : ∀ {D : List (Int × β)}, mget D c = some v → (c, v) ∈ D
  | [], h => by cases h
  | p :: D, h => by
    unfold mget at h
    split at h
    · rename_i e; cases h; rw [← e]; simp
    · exact List.mem_cons_of_mem _ (mk_some h)
theorem mk_none : ∀ {D : List (Int × β)}, mget D c = none ↔ c ∉ D.map (·.1)
  | [] => by simp [mget]
  | p :: D => by
    unfold mget
    split
    · rename_i e; subst e; simp
    · rename_i e
      rw [mk_none]
      simp only [List.map_cons, List.mem_cons, not_or]
      exact ⟨fun h => ⟨fun e2 => e e2.symm, h⟩, fun h => h.2⟩
theorem mu_new : ∀ {D : List (Int × β)}, mget D c = none → mupd D c v = D ++ [(c, v)]
  | [], _ => rfl
  | p :: D, h => by
    unfold mget at h
    split at h
    · cases h
    · rename_i e
      unfold mupd
      rw [if_neg e, mu_new h]; rfl
theorem mu_keys {o : β} : ∀ {D : List (Int × β)}, mget D c = some o → (mupd D c v).map (·.1) = D.map (·.1)
  | [], h => by cases h
  | p :: D, h => by
    unfold mget at h
    unfold mupd
    split at h
    · rename_i e; rw [if_pos e]; simp [e]
    · rename_i e; rw [if_neg e]; simp only [List.map_cons]; rw [mu_keys h]
theorem mu_get : ∀ {D : List (Int × β)}, mget (mupd D c v) c = some v
  | [] => by simp [mupd, mget]
  | p :: D => by
    unfold mupd
    split
    · simp [mget]
    · rename_i e; simp only [mget, if_neg e]; exact mu_get
theorem mu_get_ne (h : k ≠ c) : ∀ {D : List (Int × β)}, mget (mupd D c v) k = mget D k
  | [] => by simp [mupd, mget, Ne.symm h]
  | p :: D => by
    unfold mupd
    split
    · rename_i e
      have h2 : ¬ p.1 = k := fun e2 => h (by rw [← e2, e])
      simp [mget, h2, Ne.symm h]
    · simp only [mget]
      split
      · rfl
      · exact mu_get_ne h
theorem mu_mem {p : Int × β} : ∀ {D : List (Int × β)}, p ∈ mupd D c v → p ∈ D ∨ p = (c, v)
  | [], h => by simp only [mupd, List.mem_singleton] at h; exact .inr h
  | q :: D, h => by
    unfold mupd at h
    split at h
    · rcases List.mem_cons.1 h with e | e
      · exact .inr e
      · exact .inl (List.mem_cons_of_mem _ e)
    · rcases List.mem_cons.1 h with e | e
      · exact .inl (by rw [e]; simp)
      · exact (mu_mem e).elim (fun h => .inl (List.mem_cons_of_mem _ h)) .inr
theorem mu_nodup (hn : (D.map (·.1)).Nodup) : ((mupd D c v).map (·.1)).Nodup := by
  cases h : mget D c with
  | some o => rw [mu_keys h]; exact hn
  | none =>
    rw [mu_new h, List.map_append, List.nodup_append]
    exact ⟨hn, by simp, fun a ha b hb e => by simp at hb; subst hb; subst e; exact mk_none.1 h ha⟩
end
/-- Whoever gives a place up for another one. -/
def givesC (g : Int → List (Int × Int) → List (Int × Bool) → List (Int × Int) × List (Int × Bool) × Bool) (i : Int) : List Int → List (Int × Int) → List (Int × Bool) → List (Int × Int) × List (Int × Bool) × Bool
  | [], D, A => (D, A, false)
  | c :: cs, D, A => if (mget A c).getD false = true then givesC g i cs D A else
    match mget D c with
    | none => (mupd D c i, mupd A c true, true)
    | some o => if (g o D (mupd A c true)).2.2 = true then (mupd (g o D (mupd A c true)).1 c i, (g o D (mupd A c true)).2.1, true) else givesC g i cs (g o D (mupd A c true)).1 (g o D (mupd A c true)).2.1
def givesV (rows : List (List Int)) : Nat → Int → List (Int × Int) → List (Int × Bool) → List (Int × Int) × List (Int × Bool) × Bool
  | 0, _, D, A => (D, A, false)
  | f + 1, i, D, A => givesC (givesV rows f) i ((rows[i.toNat]?).getD []) D A
def kuhnV (rows : List (List Int)) : Nat → Option (List (Int × Int))
  | 0 => some []
  | j + 1 => match kuhnV rows j with
    | none => none
    | some D => if (givesV rows 9 (j : Int) D []).2.2 = true then some (givesV rows 9 (j : Int) D []).1 else none
def matchV (rows : List (List Int)) : Bool := (kuhnV rows rows.length).isSome
/-- How often one has a place. -/
def cntV (D : List (Int × Int)) (r : Int) : Nat := (D.filter fun p => decide (p.2 = r)).length
def oneV (r i : Int) : Nat := if r = i then 1 else 0
/-- A match so far. -/
structure WD (rows : List (List Int)) (D : List (Int × Int)) : Prop where
  nd : (D.map (·.1)).Nodup
  ok : ∀ p ∈ D, 0 ≤ p.2 ∧ ∃ row, rows[p.2.toNat]? = some row ∧ p.1 ∈ row
/-- Who has been asked. -/
structure WA (A : List (Int × Bool)) : Prop where
  nd : (A.map (·.1)).Nodup
  yes : ∀ p ∈ A, p.2 = true
  rg : ∀ p ∈ A, 0 ≤ p.1 ∧ p.1 < 8
section
variable {rows : List (List Int)} {i c r : Int} {D : List (Int × Int)} {A : List (Int × Bool)}
theorem WA.asked (h : WA A) : (mget A c).getD false = true ↔ c ∈ A.map (·.1) := by
  cases e : mget A c with
  | none => simp only [Option.getD_none, Bool.false_eq_true, false_iff]; exact mk_none.1 e
  | some b =>
    have hm := mk_some e
    have hb := h.yes _ hm
    simp only at hb
    subst hb
    simp only [Option.getD_some, true_iff]
    exact List.mem_map.2 ⟨_, hm, rfl⟩
theorem WA.put (h : WA A) (h0 : 0 ≤ c) (h1 : c < 8) : WA (mupd A c true) := ⟨mu_nodup h.nd, fun p hp => (mu_mem hp).elim (h.yes p) fun e => by rw [e], fun p hp => (mu_mem hp).elim (h.rg p) fun e => by rw [e]; exact ⟨h0, h1⟩⟩
theorem nodup_le : ∀ {l N : List Int}, l.Nodup → (∀ x ∈ l, x ∈ N) → l.length ≤ N.length
  | [], _, _, _ => Nat.zero_le _
  | a :: l, N, hn, h => by
    simp only [List.nodup_cons] at hn
    have ha := h a (by simp)
    have := nodup_le (l := l) (N := N.erase a) hn.2 fun x hx => (List.mem_erase_of_ne (fun e => hn.1 (by rw [← e]; exact hx))).2 (h x (by simp [hx]))
    rw [List.length_erase_of_mem ha] at this
    have hp : 0 < N.length := List.length_pos_of_mem ha
    simp only [List.length_cons]
    omega
theorem WA.len (h : WA A) : A.length ≤ 8 := by
  have := nodup_le (N := [0, 1, 2, 3, 4, 5, 6, 7]) h.nd fun x hx => by
    obtain ⟨p, hp, rfl⟩ := List.mem_map.1 hx
    have := h.rg p hp
    have : p.1 = 0 ∨ p.1 = 1 ∨ p.1 = 2 ∨ p.1 = 3 ∨ p.1 = 4 ∨ p.1 = 5 ∨ p.1 = 6 ∨ p.1 = 7 := by omega
    rcases this with h | h | h | h | h | h | h | h <;> rw [h] <;> simp
  simpa using this
/-- What is true of the answer. -/
structure GSpec (rows : List (List Int)) (i : Int) (cs : List Int) (D : List (Int × Int)) (A : List (Int × Bool)) (R : List (Int × Int) × List (Int × Bool) × Bool) : Prop where
  wa : WA R.2.1
  sub : ∀ c ∈ A.map (·.1), c ∈ R.2.1.map (·.1)
  wd : WD rows R.1
  keep : ∀ c ∈ A.map (·.1), mget R.1 c = mget D c
  yes : R.2.2 = true → ∀ r, cntV R.1 r = cntV D r + oneV r i
  no : R.2.2 = false → R.1 = D ∧ (∀ c ∈ cs, c ∈ R.2.1.map (·.1)) ∧ ∀ c ∈ R.2.1.map (·.1), c ∉ A.map (·.1) → ∃ o row, mget D c = some o ∧ rows[o.toNat]? = some row ∧ ∀ k ∈ row, k ∈ R.2.1.map (·.1)
/-- Each row one of its own, none twice. -/
structure Sdr (rows : List (List Int)) (m : List Int) : Prop where
  len : m.length = rows.length
  nd : m.Nodup
  own : ∀ (j : Nat) (c : Int), m[j]? = some c → ∃ row, rows[j]? = some row ∧ c ∈ row
end
end Go.Proofs.Ytoljahfofkmdaaa

/-! Entities: those of a queue, in gangs and alone; plain. -/
namespace Go.Proofs.Ytoljahfofkmdaaa
open Go Go.RowKit

structure Wt where
  id : Int
  ord : Int
  fresh : Bool
deriving DecidableEq, Inhabited
instance : Enc Wt := ⟨fun x => [.int .i64 x.id, .int .u64 x.ord, .bool x.fresh], 3, fun _ => rfl, fun x v h => by simp at h; rcases h with rfl | rfl | rfl <;> rfl, by decide⟩
structure Wt.U (x : Wt) : Prop where
  i0 : -9223372036854775808 ≤ x.id
  i1 : x.id ≤ 9223372036854775807
  o0 : 0 ≤ x.ord
  o1 : x.ord < 18446744073709551616
structure Pr where
  r : Rn
  w : Wt
deriving DecidableEq, Inhabited
instance : Enc Pr := ⟨fun x => [.int .i64 x.r.id, .int .i64 x.r.each, .int .u64 x.r.th, .int .u64 x.r.tl, .int .u64 x.r.tw, .int .i64 x.w.id, .int .u64 x.w.ord, .bool x.w.fresh], 8, fun _ => rfl, fun x v h => by simp at h; rcases h with rfl | rfl | rfl | rfl | rfl | rfl | rfl | rfl <;> rfl, by decide⟩
structure Pr.U (x : Pr) : Prop where
  r : x.r.U
  w : x.w.U
def metM (l : List Int) : List (Int × Bool) := l.foldl (fun D n => mupd D n true) []
/-- The orders met so far. -/
def metO (ws : List Wt) (j : Nat) : List Int := 0 :: (ws.take j).map Wt.ord
def wtB : List Int → List Rn → List Wt → Bool
  | _, [], [] => true
  | met, x :: ts, y :: ws => decide (x.id = y.id ∧ y.ord ∉ met ∧ y.ord ≤ 4611686018427387904) && wtB (met ++ [y.ord]) ts ws
  | _, _, _ => false
/-- Whether these are the waits of these runners. -/
def waitsV (ts : List Rn) (ws : List Wt) : Bool := wtB [0] ts ws
def grB : Int → List Int → List Int → Bool
  | _, _, [] => true
  | la, met, x :: r => decide (la < x ∧ x ≤ 16 ∧ x ∉ met) && grB x (met ++ [x]) r
def metG (gs : List (List Int)) (j : Nat) : List Int := (gs.take j).flatten
def apB : List Int → List (List Int) → Bool
  | _, [] => true
  | met, g :: r => (decide (g ≠ []) && grB 0 met g) && apB (met ++ g) r
/-- Whether these may be gangs. -/
def apartV (gs : List (List Int)) : Bool := apB [] gs
/-- Why nothing can be put in order. -/
def chkO (ts : List Rn) (ws : List Wt) (gs : List (List Int)) : Int := if chkQ ts = false then 200 else if (waitsV ts ws && apartV gs) = false then 220 else 0
def oneS (a : En) (p : Pr) : En := ⟨a.mem ++ [p.r.id], if 0 < cmpF p.r.t a.t then p.r.t else a.t, if p.w.ord < a.ord then p.w.ord else a.ord, a.fresh && p.w.fresh⟩
def oneI (l : List Pr) : En := match l with
  | [] => ⟨[], zF, 0, true⟩
  | p :: _ => ⟨[], p.r.t, p.w.ord, true⟩
/-- The entity of some runners. -/
def entO (l : List Pr) : En := l.foldl oneS (oneI l)
def pairsV (ts : List Rn) (ws : List Wt) : List Pr := List.zipWith Pr.mk ts ws
def gnF : Nat → Nat → List (List Int) → Int → Nat
  | a, _, [], _ => a
  | a, i, g :: r, k => gnF (if k ∈ g then i + 1 else a) (i + 1) r k
/-- The number of one's gang, from 1 on; 0: in none. -/
def gnV (gs : List (List Int)) (k : Int) : Nat := gnF 0 0 gs k
def rowZ (gs : List (List Int)) (zs : List Pr) (n : Nat) : List Pr := zs.filter fun p => decide (gnV gs p.r.id = n)
def neO (l : List Pr) : Option En := if l.isEmpty then none else some (entO l)
def rowP (gs : List (List Int)) (zs : List Pr) (n : Nat) : List Pr := if n = 0 then [] else rowZ gs zs n
def singZ (gs : List (List Int)) (zs : List Pr) : List En := (rowZ gs zs 0).map fun p => entO [p]
def rawV (gs : List (List Int)) (zs : List Pr) : List En := singZ gs zs ++ ((List.range (gs.length + 1)).map (rowP gs zs)).filterMap neO
def entD (zs : List Pr) (m : List Int) : Option En := neO (zs.filter fun p => decide (p.r.id ∈ m))
def aloneD (gs : List (List Int)) (r : Rn) : Bool := gs.all fun g => !decide (r.id ∈ g)
def rowsD (gs : List (List Int)) (ts : List Rn) : List (List Int) := gs ++ (ts.filter (aloneD gs)).map fun r => [r.id]
/-- The entities, ere they are put in order. -/
def rawD (ts : List Rn) (ws : List Wt) (gs : List (List Int)) : List En := (rowsD gs ts).filterMap (entD (pairsV ts ws))
/-- All entities, in order. -/
def docV (ts : List Rn) (ws : List Wt) (gs : List (List Int)) : List En := srtE (rawD ts ws gs)
theorem fm_congr {α β : Type} {f g : α → Option β} : ∀ {l : List α}, (∀ x ∈ l, f x = g x) → l.filterMap f = l.filterMap g
  | [], _ => rfl
  | x :: r, h => by rw [List.filterMap_cons, List.filterMap_cons, h x (List.mem_cons_self ..), fm_congr fun y hy => h y (List.mem_cons_of_mem _ hy)]
theorem take_one {α : Type} {l : List α} {j : Nat} {a : α} (hx : l[j]? = some a) : l.take (j + 1) = l.take j ++ [a] := by rw [List.take_add_one, hx]; rfl
theorem drop_one {α : Type} {l : List α} {x : α} {j : Nat} (hx : l[j]? = some x) : l.drop j = x :: l.drop (j + 1) := by
  obtain ⟨hl, he⟩ := List.getElem?_eq_some_iff.1 hx
  rw [← he]; exact List.drop_eq_getElem_cons hl
section
variable {ts : List Rn} {ws : List Wt} {gs : List (List Int)} {g met l : List Int} {x : Rn} {y : Wt} {j i n : Nat} {k la : Int} {zs F : List Pr} {p : Pr}
theorem met_on : metM (l ++ [k]) = mupd (metM l) k true := by simp [metM]
theorem met_get {n : Int} : (mget (metM l) n).getD false = decide (n ∈ l) := by
  suffices h : ∀ (l : List Int) (D : List (Int × Bool)) (a : Bool), (mget D n).getD false = a → (mget (l.foldl (fun D n => mupd D n true) D) n).getD false = (a || decide (n ∈ l)) by
    have := h l [] false rfl
    rwa [Bool.false_or] at this
  intro l
  induction l with
  | nil => intro D a h; simpa using h
  | cons r l ih =>
    intro D a h
    rw [List.foldl_cons]
    by_cases e : n = r
    · subst e
      rw [ih _ true (by rw [mu_get]; rfl)]
      simp
    · rw [ih _ a (by rw [mu_get_ne e]; exact h)]
      simp [e]
theorem wt_on (hI : wtB (metO ws j) (ts.drop j) (ws.drop j) = waitsV ts ws) (hx : ts[j]? = some x) (hy : ws[j]? = some y) (h1 : x.id = y.id) (h2 : decide (y.ord ∈ metO ws j) = false) (h3 : y.ord ≤ 4611686018427387904) :
    wtB (metO ws (j + 1)) (ts.drop (j + 1)) (ws.drop (j + 1)) = waitsV ts ws := by
  rw [← hI, drop_one hx, drop_one hy, wtB, decide_eq_true ⟨h1, of_decide_eq_false h2, h3⟩, Bool.true_and]
  unfold metO
  rw [take_one hy, List.map_append]
  rfl
theorem wt_no (hI : wtB (metO ws j) (ts.drop j) (ws.drop j) = waitsV ts ws) (hx : ts[j]? = some x) (hy : ws[j]? = some y) (h : x.id = y.id → decide (y.ord ∈ metO ws j) = false → ¬ y.ord ≤ 4611686018427387904) : waitsV ts ws = false := by
  rw [← hI, drop_one hx, drop_one hy, wtB, decide_eq_false (fun h2 => h h2.1 (decide_eq_false h2.2.1) h2.2.2), Bool.false_and]
theorem wt_end (hI : wtB (metO ws j) (ts.drop j) (ws.drop j) = waitsV ts ws) (h : ts.length ≤ j) (h2 : ws.length ≤ j) : waitsV ts ws = true := by
  rw [← hI, List.drop_eq_nil_of_le h, List.drop_eq_nil_of_le h2]; rfl
theorem wt_len' : ∀ (ts : List Rn) (ws : List Wt) (met : List Int), wtB met ts ws = true → ts.length = ws.length ∧ ∀ (i : Nat) (x : Rn) (y : Wt), ts[i]? = some x → ws[i]? = some y → x.id = y.id
  | [], [], _, _ => ⟨rfl, fun i x y h => by simp at h⟩
  | x :: ts, y :: ws, met, h => by
    rw [wtB, Bool.and_eq_true, decide_eq_true_eq] at h
    have ih := wt_len' ts ws _ h.2
    refine ⟨by simp [ih.1], fun i a b h1 h2 => ?_⟩
    cases i with
    | zero => cases h1; cases h2; exact h.1.1
    | succ i => exact ih.2 i a b (by simpa using h1) (by simpa using h2)
  | [], _ :: _, _, h => by cases h
  | _ :: _, [], _, h => by cases h
theorem wt_len (h : waitsV ts ws = true) : ts.length = ws.length := (wt_len' ts ws _ h).1
theorem wt_nolen (h : ¬ ts.length = ws.length) : waitsV ts ws = false := by
  cases e : waitsV ts ws with
  | false => rfl
  | true => exact absurd (wt_len e) h
theorem gr_on (hI : grB la (met ++ g.take i) (g.drop i) = grB 0 met g) (hx : g[i]? = some k) (h : la < k) (h2 : k ≤ 16) (h3 : decide (k ∈ met ++ g.take i) = false) : grB k (met ++ g.take (i + 1)) (g.drop (i + 1)) = grB 0 met g := by
  rw [← hI, drop_one hx, grB, decide_eq_true ⟨h, h2, of_decide_eq_false h3⟩, Bool.true_and, take_one hx, List.append_assoc]
theorem gr_no (hI : grB la (met ++ g.take i) (g.drop i) = grB 0 met g) (hx : g[i]? = some k) (h : la < k → k ≤ 16 → ¬ decide (k ∈ met ++ g.take i) = false) : grB 0 met g = false := by
  rw [← hI, drop_one hx, grB, decide_eq_false (fun h2 => h h2.1 h2.2.1 (decide_eq_false h2.2.2)), Bool.false_and]
theorem gr_end (hI : grB la (met ++ g.take i) (g.drop i) = grB 0 met g) (h : g.length ≤ i) : grB 0 met g = true := by
  rw [← hI, List.drop_eq_nil_of_le h]; rfl
theorem metG_on (hx : gs[j]? = some g) : metG gs (j + 1) = metG gs j ++ g := by unfold metG; rw [take_one hx, List.flatten_append]; simp
theorem ap_on (hI : apB (metG gs j) (gs.drop j) = apartV gs) (hx : gs[j]? = some g) (h0 : g ≠ []) (h : grB 0 (metG gs j) g = true) : apB (metG gs (j + 1)) (gs.drop (j + 1)) = apartV gs := by
  rw [← hI, drop_one hx, apB, decide_eq_true h0, h, Bool.true_and, Bool.true_and, metG_on hx]
theorem ap_nil (hI : apB (metG gs j) (gs.drop j) = apartV gs) (hx : gs[j]? = some g) (h0 : g = []) : apartV gs = false := by
  rw [← hI, drop_one hx, apB, decide_eq_false (fun h => h h0), Bool.false_and, Bool.false_and]
theorem ap_no (hI : apB (metG gs j) (gs.drop j) = apartV gs) (hx : gs[j]? = some g) (h : grB 0 (metG gs j) g = false) : apartV gs = false := by
  rw [← hI, drop_one hx, apB, h, Bool.and_false, Bool.false_and]
theorem ap_end (hI : apB (metG gs j) (gs.drop j) = apartV gs) (h : gs.length ≤ j) : apartV gs = true := by
  rw [← hI, List.drop_eq_nil_of_le h]; rfl
theorem co_q (h : chkQ ts = false) : chkO ts ws gs = 200 := by unfold chkO; rw [if_pos h]
theorem co_w (h : chkQ ts = true) (h2 : waitsV ts ws = false) : chkO ts ws gs = 220 := by unfold chkO; rw [if_neg (by rw [h]; decide), h2]; rfl
theorem co_a (h : chkQ ts = true) (h2 : apartV gs = false) : chkO ts ws gs = 220 := by unfold chkO; rw [if_neg (by rw [h]; decide), h2, Bool.and_false]; rfl
theorem co_ok (h : chkQ ts = true) (h2 : waitsV ts ws = true) (h3 : apartV gs = true) : chkO ts ws gs = 0 := by unfold chkO; rw [if_neg (by rw [h]; decide), h2, h3]; rfl
theorem co_iff : chkO ts ws gs = 0 ↔ chkQ ts = true ∧ waitsV ts ws = true ∧ apartV gs = true := by
  unfold chkO
  cases chkQ ts <;> cases waitsV ts ws <;> cases apartV gs <;> simp
theorem gr_mem : ∀ (g : List Int) (la : Int) (met : List Int), grB la met g = true → Ris (fun x => x) g ∧ ∀ x ∈ g, la < x ∧ x ≤ 16 ∧ x ∉ met
  | [], _, _, _ => ⟨List.Pairwise.nil, fun x h => by cases h⟩
  | a :: r, la, met, h => by
    rw [grB, Bool.and_eq_true, decide_eq_true_eq] at h
    obtain ⟨h1, h2⟩ := gr_mem r a (met ++ [a]) h.2
    refine ⟨List.pairwise_cons.2 ⟨fun b hb => (h2 b hb).1, h1⟩, fun x hx => ?_⟩
    rcases List.mem_cons.1 hx with rfl | hx
    · exact h.1
    · have h3 := h2 x hx
      exact ⟨by omega, h3.2.1, fun hm => h3.2.2 (List.mem_append_left _ hm)⟩
theorem ap_mem : ∀ (gs : List (List Int)) (met : List Int), apB met gs = true → (∀ g ∈ gs, g ≠ [] ∧ Ris (fun x => x) g ∧ ∀ x ∈ g, 1 ≤ x ∧ x ≤ 16 ∧ x ∉ met) ∧ gs.Pairwise fun a b => ∀ x ∈ a, x ∉ b
  | [], _, _ => ⟨(fun g h => by cases h), List.Pairwise.nil⟩
  | a :: r, met, h => by
    rw [apB, Bool.and_eq_true, Bool.and_eq_true, decide_eq_true_eq] at h
    obtain ⟨h1, h2⟩ := gr_mem a 0 met h.1.2
    obtain ⟨h3, h4⟩ := ap_mem r (met ++ a) h.2
    refine ⟨fun g hg => ?_, List.pairwise_cons.2 ⟨fun b hb x hx hx2 => ((h3 b hb).2.2 x hx2).2.2 (List.mem_append_right _ hx), h4⟩⟩
    rcases List.mem_cons.1 hg with rfl | hg
    · exact ⟨h.1.1, h1, fun x hx => by have := h2 x hx; exact ⟨by omega, this.2⟩⟩
    · have h5 := h3 g hg
      exact ⟨h5.1, h5.2.1, fun x hx => by have := h5.2.2 x hx; exact ⟨this.1, this.2.1, fun hm => this.2.2 (List.mem_append_left _ hm)⟩⟩
theorem gn_none : ∀ (l : List (List Int)) (a i : Nat), (∀ g ∈ l, k ∉ g) → gnF a i l k = a
  | [], _, _, _ => rfl
  | g :: r, a, i, h => by
    rw [gnF, if_neg (h g (List.mem_cons_self ..))]
    exact gn_none r a (i + 1) fun g hg => h g (List.mem_cons_of_mem _ hg)
theorem gn_at : ∀ (l : List (List Int)) (a i n : Nat), l.Pairwise (fun a b => ∀ x ∈ a, x ∉ b) → l[n]? = some g → k ∈ g → gnF a i l k = i + n + 1
  | [], _, _, _, _, h, _ => by simp at h
  | b :: r, a, i, 0, hp, h, hk => by
    cases h
    rw [gnF, if_pos hk, gn_none r _ _ fun c hc => (List.pairwise_cons.1 hp).1 c hc k hk]
  | b :: r, a, i, n + 1, hp, h, hk => by
    rw [gnF, gn_at r _ (i + 1) n (List.pairwise_cons.1 hp).2 (by simpa using h) hk]
    omega
theorem gn_snoc : ∀ (l : List (List Int)) (a i : Nat), gnF a i (l ++ [g]) k = if k ∈ g then i + l.length + 1 else gnF a i l k
  | [], a, i => by rw [List.nil_append, gnF, gnF, gnF]; rfl
  | b :: r, a, i => by
    rw [List.cons_append, gnF, gn_snoc r, gnF, List.length_cons]
    split
    · omega
    · rfl
theorem gn_le : ∀ (l : List (List Int)) (a i : Nat), a ≤ i → gnF a i l k ≤ i + l.length
  | [], a, i, h => by rw [gnF]; simpa using h
  | b :: r, a, i, h => by
    rw [gnF, List.length_cons]
    have := gn_le r (if k ∈ b then i + 1 else a) (i + 1) (by split <;> omega)
    omega
theorem gnV_le : gnV gs k ≤ gs.length := by have := gn_le (k := k) gs 0 0 (Nat.le_refl _); unfold gnV; omega
theorem gn_iff (ha : apartV gs = true) : gnV gs k = n + 1 ↔ ∃ g, gs[n]? = some g ∧ k ∈ g := by
  have hp := (ap_mem gs [] ha).2
  constructor
  · intro h
    by_cases hn : ∀ g ∈ gs, k ∉ g
    · unfold gnV at h; rw [gn_none gs 0 0 hn] at h; omega
    · simp only [Classical.not_forall, Decidable.not_not] at hn
      obtain ⟨g, hg, hk⟩ := hn
      obtain ⟨m, hm⟩ := List.mem_iff_getElem?.1 hg
      unfold gnV at h
      rw [gn_at gs 0 0 m hp hm hk] at h
      obtain rfl : m = n := by omega
      exact ⟨g, hm, hk⟩
  · rintro ⟨g, hg, hk⟩
    unfold gnV
    rw [gn_at gs 0 0 n hp hg hk]
    omega
theorem gn_zero (ha : apartV gs = true) : gnV gs k = 0 ↔ ∀ g ∈ gs, k ∉ g := by
  constructor
  · intro h g hg hk
    obtain ⟨m, hm⟩ := List.mem_iff_getElem?.1 hg
    have := (gn_iff (n := m) ha).2 ⟨g, hm, hk⟩
    omega
  · intro h; unfold gnV; exact gn_none gs 0 0 h
theorem fold_mem : ∀ (l : List Pr) (a : En), (l.foldl oneS a).mem = a.mem ++ l.map fun p => p.r.id
  | [], a => by simp
  | p :: l, a => by rw [List.foldl_cons, fold_mem l]; simp [oneS]
theorem one_mem : (entO F).mem = F.map fun p => p.r.id := by
  unfold entO
  rw [fold_mem]
  cases F <;> rfl
theorem fold_t {P : Fq → Prop} : ∀ (l : List Pr) (a : En), P a.t → (∀ p ∈ l, P p.r.t) → P (l.foldl oneS a).t
  | [], _, h, _ => h
  | p :: l, a, h, hl => by
    rw [List.foldl_cons]
    refine fold_t l _ ?_ fun q hq => hl q (List.mem_cons_of_mem _ hq)
    unfold oneS
    simp only
    split
    · exact hl p (List.mem_cons_self ..)
    · exact h
theorem one_t {P : Fq → Prop} (h : F ≠ []) (hl : ∀ p ∈ F, P p.r.t) : P (entO F).t := by
  unfold entO
  refine fold_t F _ ?_ hl
  cases F with
  | nil => exact absurd rfl h
  | cons p l => exact hl p (List.mem_cons_self ..)
theorem fold_o {P : Int → Prop} : ∀ (l : List Pr) (a : En), P a.ord → (∀ p ∈ l, P p.w.ord) → P (l.foldl oneS a).ord
  | [], _, h, _ => h
  | p :: l, a, h, hl => by
    rw [List.foldl_cons]
    refine fold_o l _ ?_ fun q hq => hl q (List.mem_cons_of_mem _ hq)
    unfold oneS
    simp only
    split
    · exact hl p (List.mem_cons_self ..)
    · exact h
theorem one_o {P : Int → Prop} (h : F ≠ []) (hl : ∀ p ∈ F, P p.w.ord) : P (entO F).ord := by
  unfold entO
  refine fold_o F _ ?_ hl
  cases F with
  | nil => exact absurd rfl h
  | cons p l => exact hl p (List.mem_cons_self ..)
theorem one_right (h : F ≠ []) (hl : ∀ p ∈ F, p.r.t.ok = true) : rightE (entO F) = true := by
  refine rt_yes ?_ (one_t (P := fun f => f.ok = true) h hl)
  rw [one_mem, List.length_map]
  exact List.length_pos_iff.2 h
theorem one_first {r : List Pr} : firstM (entO (p :: r)) = p.r.id := first_at (by rw [one_mem]; rfl)
theorem pairs_len (h : ts.length = ws.length) : (pairsV ts ws).length = ts.length := by unfold pairsV; rw [List.length_zipWith]; omega
theorem pairs_at (hx : ts[j]? = some x) (hy : ws[j]? = some y) : (pairsV ts ws)[j]? = some ⟨x, y⟩ := by unfold pairsV; rw [List.getElem?_zipWith, hx, hy]
theorem pairs_r : ∀ {ts : List Rn} {ws : List Wt}, ts.length = ws.length → (pairsV ts ws).map Pr.r = ts
  | [], [], _ => rfl
  | x :: ts, y :: ws, h => by
    have := pairs_r (ts := ts) (ws := ws) (by simpa using h)
    unfold pairsV at *
    rw [List.zipWith_cons_cons, List.map_cons, this]
  | [], _ :: _, h => by cases h
  | _ :: _, [], h => by cases h
theorem pairs_mem {ts : List Rn} {ws : List Wt} (h : p ∈ pairsV ts ws) : p.r ∈ ts ∧ p.w ∈ ws := by
  obtain ⟨i, hi⟩ := List.mem_iff_getElem?.1 h
  unfold pairsV at hi
  rw [List.getElem?_zipWith] at hi
  cases e1 : ts[i]? with
  | none => rw [e1] at hi; cases hi
  | some a =>
    cases e2 : ws[i]? with
    | none => rw [e1, e2] at hi; cases hi
    | some b =>
      rw [e1, e2] at hi
      cases hi
      exact ⟨List.mem_of_getElem? e1, List.mem_of_getElem? e2⟩
theorem ne_some (h : F ≠ []) : neO F = some (entO F) := by unfold neO; rw [if_neg (by simpa using h)]
theorem ne_nil : neO [] = none := rfl
theorem rowP_z (gs : List (List Int)) (zs : List Pr) : ((List.range (gs.length + 1)).map (rowP gs zs)).filterMap neO = (List.range gs.length).filterMap fun n => neO (rowZ gs zs (n + 1)) := by
  rw [List.range_succ_eq_map, List.map_cons, List.filterMap_cons]
  rw [show neO (rowP gs zs 0) = none from rfl]
  simp only [List.map_map, List.filterMap_map]
  rfl
theorem entD_gang (ha : apartV gs = true) (zs : List Pr) : gs.filterMap (entD zs) = (List.range gs.length).filterMap fun n => neO (rowZ gs zs (n + 1)) := by
  have e : gs = (List.range gs.length).map fun n => gs.getD n [] := by
    apply List.ext_getElem?
    intro n
    rw [List.getElem?_map]
    by_cases hn : n < gs.length
    · rw [List.getElem?_range hn]; simp [List.getD, hn]
    · rw [List.getElem?_eq_none (by omega), List.getElem?_eq_none (by simpa using hn)]; rfl
  conv => lhs; rw [e, List.filterMap_map]
  apply fm_congr
  intro n hn
  have hn' : n < gs.length := by simpa using hn
  show entD zs (gs.getD n []) = _
  unfold entD rowZ
  congr 1
  apply List.filter_congr
  intro p _
  rw [decide_eq_decide, gn_iff ha]
  have hg : gs[n]? = some (gs.getD n []) := by simp [List.getD, hn']
  constructor
  · exact fun h => ⟨_, hg, h⟩
  · rintro ⟨g, h1, h2⟩
    rw [hg] at h1; cases h1; exact h2
theorem filter_own : ∀ {zs : List Pr}, (zs.map fun p => p.r.id).Nodup → p ∈ zs → (zs.filter fun q => decide (q.r.id ∈ [p.r.id])) = [p]
  | [], _, h => by cases h
  | a :: r, hn, h => by
    have hn' := List.nodup_cons.1 (by simpa using hn : (a.r.id :: r.map fun p => p.r.id).Nodup)
    rcases List.mem_cons.1 h with rfl | h
    · rw [List.filter_cons, if_pos (by simp)]
      congr 1
      rw [List.filter_eq_nil_iff]
      intro q hq
      simp only [List.mem_singleton, decide_eq_true_eq]
      exact fun e => hn'.1 (List.mem_map.2 ⟨q, hq, e⟩)
    · rw [List.filter_cons, if_neg (by
        simp only [List.mem_singleton, decide_eq_true_eq]
        exact fun e => hn'.1 (List.mem_map.2 ⟨p, h, e.symm⟩))]
      exact filter_own hn'.2 h
theorem ids_nodup (hq : chkQ ts = true) (h : ts.length = ws.length) : ((pairsV ts ws).map fun p => p.r.id).Nodup := by
  have e : ((pairsV ts ws).map fun p => p.r.id) = ts.map Rn.id := by
    rw [show (fun p : Pr => p.r.id) = Rn.id ∘ Pr.r from rfl, ← List.map_map, pairs_r h]
  rw [e]
  have hr := (chk_iff.1 hq).rs
  unfold Ris at hr
  unfold List.Nodup
  rw [List.pairwise_map]
  exact hr.imp fun {a b} h e => by omega
theorem raw_perm (hq : chkQ ts = true) (hw : waitsV ts ws = true) (ha : apartV gs = true) : (rawV gs (pairsV ts ws)).Perm (rawD ts ws gs) := by
  have hl := wt_len hw
  have hn := ids_nodup (ws := ws) hq hl
  unfold rawV rawD rowsD
  rw [rowP_z, List.filterMap_append, entD_gang ha]
  refine List.perm_append_comm.trans (List.Perm.append_left _ ?_)
  rw [show ts.filter (aloneD gs) = ((pairsV ts ws).filter fun p => aloneD gs p.r).map Pr.r from by
    conv => lhs; rw [← pairs_r hl]
    rw [List.filter_map]; rfl]
  rw [List.map_map, List.filterMap_map]
  have e : rowZ gs (pairsV ts ws) 0 = (pairsV ts ws).filter fun p => aloneD gs p.r := by
    unfold rowZ
    apply List.filter_congr
    intro p _
    unfold aloneD
    rw [Bool.eq_iff_iff, decide_eq_true_eq, gn_zero ha, List.all_eq_true]
    simp
  unfold singZ
  rw [e, ← List.filterMap_eq_map]
  apply List.Perm.of_eq
  apply fm_congr
  intro p hp
  have hp' := (List.mem_filter.1 hp).1
  show some (entO [p]) = entD (pairsV ts ws) [p.r.id]
  unfold entD
  rw [filter_own hn hp']
  rfl
theorem raw_in {e : En} (he : e ∈ rawV gs zs) : ∃ F, F ≠ [] ∧ (∀ p ∈ F, p ∈ zs) ∧ e = entO F ∧ ∃ n, ∀ p ∈ F, gnV gs p.r.id = n := by
  unfold rawV at he
  rcases List.mem_append.1 he with h | h
  · obtain ⟨p, hp, rfl⟩ := List.mem_map.1 h
    have h2 := List.mem_filter.1 hp
    exact ⟨[p], by simp, fun q hq => by rw [List.mem_singleton.1 hq]; exact h2.1, rfl, _, fun q hq => by rw [List.mem_singleton.1 hq]⟩
  · rw [rowP_z] at h
    obtain ⟨n, _, h2⟩ := List.mem_filterMap.1 h
    unfold neO at h2
    split at h2
    · cases h2
    · rename_i hne
      simp only [Option.some.injEq] at h2
      subst h2
      exact ⟨rowZ gs zs (n + 1), fun e => hne (by rw [e]; rfl), fun p hp => (List.mem_filter.1 hp).1, rfl, n + 1, fun p hp => of_decide_eq_true (List.mem_filter.1 hp).2⟩
theorem first_in (h : F ≠ []) : ∃ p ∈ F, firstM (entO F) = p.r.id := by
  cases F with
  | nil => exact absurd rfl h
  | cons p r => exact ⟨p, List.mem_cons_self .., one_first⟩
theorem raw_nodup (hn : (zs.map fun p => p.r.id).Nodup) : ((rawV gs zs).map firstM).Nodup := by
  unfold rawV
  rw [rowP_z, List.map_append, List.nodup_append]
  refine ⟨?_, ?_, ?_⟩
  · unfold singZ
    rw [List.map_map, show (firstM ∘ fun p => entO [p]) = fun p : Pr => p.r.id from funext fun p => one_first]
    exact hn.sublist (List.filter_sublist.map _)
  · suffices h : ∀ (l : List Nat), l.Nodup → (((l.filterMap fun n => neO (rowZ gs zs (n + 1))).map firstM).Nodup ∧ ∀ k ∈ (l.filterMap fun n => neO (rowZ gs zs (n + 1))).map firstM, ∃ n ∈ l, gnV gs k = n + 1) from (h _ List.nodup_range).1
    intro l
    induction l with
    | nil => exact fun _ => ⟨List.Pairwise.nil, fun k h => by cases h⟩
    | cons a r ih =>
      intro hl
      have hl' := List.nodup_cons.1 hl
      obtain ⟨h1, h2⟩ := ih hl'.2
      rw [List.filterMap_cons]
      by_cases hF : rowZ gs zs (a + 1) = []
      · rw [hF, ne_nil]
        exact ⟨h1, fun k hk => by obtain ⟨n, hn, e⟩ := h2 k hk; exact ⟨n, List.mem_cons_of_mem _ hn, e⟩⟩
      · rw [ne_some hF]
        obtain ⟨p, hp, e⟩ := first_in hF
        have hg : gnV gs (firstM (entO (rowZ gs zs (a + 1)))) = a + 1 := by rw [e]; exact of_decide_eq_true (List.mem_filter.1 hp).2
        simp only [List.map_cons]
        refine ⟨List.nodup_cons.2 ⟨fun hm => ?_, h1⟩, fun k hk => ?_⟩
        · obtain ⟨n, hn, e2⟩ := h2 _ hm
          have : n = a := by omega
          subst this
          exact hl'.1 hn
        · rcases List.mem_cons.1 hk with rfl | hk
          · exact ⟨a, List.mem_cons_self .., hg⟩
          · obtain ⟨n, hn, e2⟩ := h2 k hk; exact ⟨n, List.mem_cons_of_mem _ hn, e2⟩
  · intro a ha b hb e
    subst e
    obtain ⟨u, hu, rfl⟩ := List.mem_map.1 ha
    obtain ⟨p, hp, rfl⟩ := List.mem_map.1 hu
    obtain ⟨v, hv, e⟩ := List.mem_map.1 hb
    obtain ⟨n, _, h2⟩ := List.mem_filterMap.1 hv
    unfold neO at h2
    split at h2
    · cases h2
    · rename_i hne
      simp only [Option.some.injEq] at h2
      subst h2
      obtain ⟨q, hq, e2⟩ := first_in (F := rowZ gs zs (n + 1)) (fun e => hne (by rw [e]; rfl))
      rw [one_first, e2] at e
      have h3 := of_decide_eq_true (List.mem_filter.1 hq).2
      have h4 := of_decide_eq_true (List.mem_filter.1 hp).2
      rw [e, h4] at h3
      omega
theorem raw_right (hq : chkQ ts = true) {e : En} (he : e ∈ rawV gs (pairsV ts ws)) : rightE e = true := by
  obtain ⟨F, hF, hz, rfl, _⟩ := raw_in he
  exact one_right hF fun p hp => ((chk_iff.1 hq).bnd (pairs_mem (hz p hp)).1).2.2.2.2
/-- What is a sorted row of the raw entities is the document's row. -/
theorem doc_of (hq : chkQ ts = true) (hw : waitsV ts ws = true) (ha : apartV gs = true) {l : List En} (hp : l.Perm (rawV gs (pairsV ts ws))) (hs : SortP l) : l = docV ts ws gs := by
  have hr := raw_perm hq hw ha
  refine srt_uniq (fun x hx => raw_right (gs := gs) (ws := ws) hq (hr.mem_iff.2 hx)) ?_ (hp.trans hr) hs
  exact (hr.map firstM).nodup_iff.1 (raw_nodup (ids_nodup hq (wt_len hw)))
end
end Go.Proofs.Ytoljahfofkmdaaa

/-! The entity of some runners, step by step; plain. -/
namespace Go.Proofs.Ytoljahfofkmdaaa
open Go Go.RowKit
def memP (l : List Pr) (j : Nat) : List Int := (l.take j).map fun p => p.r.id
section
variable {l : List Pr} {x : Pr} {j : Nat} {f f' : Fq} {od od' : Int} {fb fb' : Bool}
theorem metO_on {ws : List Wt} {y : Wt} (hy : ws[j]? = some y) : metO ws (j + 1) = metO ws j ++ [y.ord] := by unfold metO; rw [take_one hy, List.map_append]; rfl
theorem gs_at {al : List IntsA} {x : IntsA} (hx : al[j]? = some x) : (al.map IntsA.l)[j]? = some x.l := by rw [List.getElem?_map, hx]; rfl
theorem memP_on (hx : l[j]? = some x) : memP l (j + 1) = memP l j ++ [x.r.id] := by unfold memP; rw [take_one hx, List.map_append]; rfl
theorem one_0T (hx : l[0]? = some x) : (l.take 0).foldl oneS (oneI l) = ⟨memP l 0, x.r.t, x.w.ord, true⟩ := by
  cases l with
  | nil => cases hx
  | cons y r => cases hx; rfl
theorem one_onT (hx : l[j]? = some x) (hE : (l.take j).foldl oneS (oneI l) = ⟨memP l j, f, od, fb⟩) (h1 : f' = if 0 < cmpF x.r.t f then x.r.t else f) (h2 : od' = if x.w.ord < od then x.w.ord else od) (h3 : fb' = (fb && x.w.fresh)) :
    (l.take (j + 1)).foldl oneS (oneI l) = ⟨memP l (j + 1), f', od', fb'⟩ := by
  rw [take_one hx, List.foldl_append, hE, memP_on hx, h1, h2, h3]
  rfl
theorem one_endT (hj : l.length ≤ j) (hE : (l.take j).foldl oneS (oneI l) = ⟨memP l j, f, od, fb⟩) : entO l = ⟨memP l j, f, od, fb⟩ := by
  rw [List.take_of_length_le hj] at hE
  exact hE
end
end Go.Proofs.Ytoljahfofkmdaaa

/-! Entities: what is looked at of them; plain. -/
namespace Go.Proofs.Ytoljahfofkmdaaa
open Go Go.RowKit

/-- Three that are told. -/
theorem three_at {α β : Type} {f : α → β} {el : List α} {a b c : β} (h : el.map f = [a, b, c]) : ∃ x y z, el[0]? = some x ∧ el[1]? = some y ∧ el[2]? = some z ∧ f x = a ∧ f y = b ∧ f z = c ∧ el.length = 3 := by
  match el, h with
  | [x, y, z], h =>
    simp only [List.map_cons, List.map_nil, List.cons.injEq, and_true] at h
    exact ⟨x, y, z, rfl, rfl, rfl, h.1, h.2.1, h.2.2, rfl⟩
theorem two_at {α β : Type} {f : α → β} {el : List α} {a b : β} (h : el.map f = [a, b]) : ∃ x y, el[0]? = some x ∧ el[1]? = some y ∧ f x = a ∧ f y = b ∧ el.length = 2 := by
  match el, h with
  | [x, y], h =>
    simp only [List.map_cons, List.map_nil, List.cons.injEq, and_true] at h
    exact ⟨x, y, rfl, rfl, h.1, h.2, rfl⟩
/-- An entity of at most so many members. -/
def cutE (e : En) : En := ⟨e.mem.take 17, e.t, e.ord, e.fresh⟩
/-- What is gone through. -/
def fewE (l : List En) : List En := (l.take 20).map cutE
/-- The first ahead of which none stands. -/
def firstE (l : List En) : Option En := l.find? fun x => rightE x && l.all fun y => !aheadE y x
def hasE (k : Int) (x : En) : Bool := decide (k ∈ x.mem)
section
variable {al bl : List EnA} {x y : EnA} {j : Nat} {e : En} {l : List En} {k : Int}
end
end Go.Proofs.Ytoljahfofkmdaaa

/-! Entities: the first, the place, the same; plain. -/
namespace Go.Proofs.Ytoljahfofkmdaaa
open Go Go.RowKit

section
variable {α : Type} {l : List α} {pd : α → Bool} {i : Nat} {x : α}
end
/-- None stands ahead of it. -/
def goodA (al : List EnA) (x : EnA) : Bool := rightE x.val && al.all fun y => !aheadE y.val x.val
def firstA (al : List EnA) : Option EnA := al.find? (goodA al)
def zE : EnA := ⟨none, 0, 0, [], 0, 0, 0, 0, false⟩
def hasA (k : Int) (x : EnA) : Bool := decide (k ∈ x.l)
/-- The place of the first entity that has a member, or -1. -/
def idxE (k : Int) (l : List En) : Int := idxF (hasE k) l
def plc (k : Int) (l : List En) : Int := if idxE k l < 0 then 0 else idxE k l
section
variable {al bl : List EnA} {x y : EnA} {j : Nat} {a b : En} {w : World} {u v k : Int} {bb : Bool}
/-- So far none stands ahead of it. -/
def bestA (al : List EnA) (x : EnA) (j : Nat) : Bool := rightE x.val && (al.take j).all fun y => !aheadE y.val x.val
theorem ahd_f (ha : rightE a = true) (hb : rightE b = true) (h : a.fresh ≠ b.fresh) : aheadE a b = a.fresh := by
  rw [ah_yes ha hb]
  cases e1 : a.fresh <;> cases e2 : b.fresh <;> rw [e1, e2] at h
  · exact absurd rfl h
  · rw [cmpE_r e1 e2]; rfl
  · rw [cmpE_l e1 e2]; rfl
  · exact absurd rfl h
theorem ahd_s (ha : rightE a = true) (hb : rightE b = true) (h : a.fresh = b.fresh) (hx : a.mem[0]? = some u) (hy : b.mem[0]? = some v) : aheadE a b = decide (cmpF a.t b.t < 0 ∨ (cmpF a.t b.t = 0 ∧ (a.ord < b.ord ∨ (a.ord = b.ord ∧ u < v)))) := by
  rw [ah_yes ha hb, cmpE_s h hx hy, decide_eq_decide, or3.1]
  have h2 := cmpT_iff a.ord b.ord
  have h3 := cmpT_iff u v
  rw [h2.1, h2.2, h3.1]
theorem rt_first (h : rightE x.val = true) : 0 < x.l.length := (rt_iff.1 h).1
theorem so_yes (h1 : x.t = y.t) (h2 : x.ord = y.ord) (h3 : x.fresh = y.fresh) (h4 : x.l = y.l) : decide (x.val = y.val) = true := by
  rw [decide_eq_true_eq]
  show (⟨x.l, x.t, x.ord, x.fresh⟩ : En) = ⟨y.l, y.t, y.ord, y.fresh⟩
  rw [h1, h2, h3, h4]
theorem so_t (h : ¬ x.t = y.t) : decide (x.val = y.val) = false := decide_eq_false fun e => h (congrArg En.t e)
theorem so_o (h : ¬ x.ord = y.ord) : decide (x.val = y.val) = false := decide_eq_false fun e => h (congrArg En.ord e)
theorem so_f (h : ¬ x.fresh = y.fresh) : decide (x.val = y.val) = false := decide_eq_false fun e => h (congrArg En.fresh e)
theorem so_l (h : ¬ x.l = y.l) : decide (x.val = y.val) = false := decide_eq_false fun e => h (congrArg En.mem e)
end
section
variable {l : List Int} {n k : Int} {j : Nat}
theorem mem_onT (h : ∀ t y, t < j → l[t]? = some y → ¬ y = k) (hx : l[j]? = some n) (e : ¬ n = k) : ∀ t y, t < j + 1 → l[t]? = some y → ¬ y = k := fun t y ht hy => by
  by_cases htj : t = j
  · subst htj; rw [hx] at hy; cases hy; exact e
  · exact h t y (by omega) hy
theorem mem_no (h : ∀ t y, t < j → l[t]? = some y → ¬ y = k) (hj : l.length ≤ j) : decide (k ∈ l) = false := decide_eq_false fun hk => by
  obtain ⟨t, ht⟩ := List.mem_iff_getElem?.1 hk
  exact h t k (by have := (List.getElem?_eq_some_iff.1 ht).1; omega) ht rfl
theorem mem_yes (hx : l[j]? = some n) (e : n = k) : decide (k ∈ l) = true := decide_eq_true (by rw [← e]; exact List.mem_of_getElem? hx)
end
theorem map_at12 {α β : Type} {f : α → β} {l : List α} {j : Nat} {x : α} (h : l[j]? = some x) : (l.map f)[j]? = some (f x) := by rw [List.getElem?_map, h]; rfl
end Go.Proofs.Ytoljahfofkmdaaa

/-! Entities: the same place in the order; one order; plain. -/
namespace Go.Proofs.Ytoljahfofkmdaaa
open Go Go.RowKit

def likeE (a b : En) : Bool := decide (a.fresh = b.fresh ∧ cmpF a.t b.t = 0 ∧ a.ord = b.ord ∧ firstM a = firstM b)
section
variable {a b c : En} {x y : EnA} {u v : Int}
end
end Go.Proofs.Ytoljahfofkmdaaa

/-! The document's entities: each runner is in one of them; each stands ahead of those behind it; plain. -/
namespace Go.Proofs.Ytoljahfofkmdaaa
open Go Go.RowKit

/-- Not less, as fractions that may be. -/
def GeF (f g : Fq) : Prop := ¬ cmpF f g < 0
section
variable {f g h : Fq}
end
theorem split_perm {α : Type} (f : α → Nat) (zs : List α) : ∀ N, (zs.filter fun p => decide (f p < N)).Perm ((List.range N).flatMap fun n => zs.filter fun p => decide (f p = n))
  | 0 => by simp
  | N + 1 => by
    rw [List.range_succ, List.flatMap_append, List.flatMap_singleton]
    have h1 := List.filter_append_perm (fun p => decide (f p < N)) (zs.filter fun p => decide (f p < N + 1))
    have e1 : ((zs.filter fun p => decide (f p < N + 1)).filter fun p => decide (f p < N)) = zs.filter fun p => decide (f p < N) := by
      rw [List.filter_filter]
      apply List.filter_congr
      intro p _
      rw [← Bool.decide_and, decide_eq_decide]
      omega
    have e2 : ((zs.filter fun p => decide (f p < N + 1)).filter fun p => !decide (f p < N)) = zs.filter fun p => decide (f p = N) := by
      rw [List.filter_filter]
      apply List.filter_congr
      intro p _
      rw [Bool.eq_iff_iff]
      simp only [Bool.and_eq_true, Bool.not_eq_true', decide_eq_false_iff_not, decide_eq_true_eq]
      omega
    rw [e1, e2] at h1
    exact h1.symm.trans ((split_perm f zs N).append_right _)
section
variable {ts : List Rn} {ws : List Wt} {gs : List (List Int)} {a b e : En} {i j : Nat} {k : Int} {zs : List Pr} {y : Rn}
theorem raw_mems : ((rawV gs zs).flatMap En.mem).Perm (zs.map fun p => p.r.id) := by
  have e1 : (singZ gs zs).flatMap En.mem = (rowZ gs zs 0).map fun p => p.r.id := by
    unfold singZ
    rw [List.flatMap_map]
    induction rowZ gs zs 0 with
    | nil => rfl
    | cons p r ih => rw [List.flatMap_cons, ih, List.map_cons, one_mem]; rfl
  have e2 : ∀ l : List Nat, (l.filterMap fun n => neO (rowZ gs zs (n + 1))).flatMap En.mem = (l.flatMap fun n => rowZ gs zs (n + 1)).map fun p => p.r.id := by
    intro l
    induction l with
    | nil => rfl
    | cons n r ih =>
      rw [List.filterMap_cons, List.flatMap_cons, List.map_append, ← ih]
      by_cases hF : rowZ gs zs (n + 1) = []
      · rw [hF, ne_nil]; rfl
      · rw [ne_some hF]; simp only [List.flatMap_cons]; rw [one_mem]
  unfold rawV
  rw [rowP_z, List.flatMap_append, e1, e2, ← List.map_append]
  apply List.Perm.map
  have h1 := split_perm (fun p : Pr => gnV gs p.r.id) zs (gs.length + 1)
  have e3 : (zs.filter fun p => decide (gnV gs p.r.id < gs.length + 1)) = zs := by
    rw [List.filter_eq_self]
    intro p _
    have := gnV_le (gs := gs) (k := p.r.id)
    exact decide_eq_true (by omega)
  rw [e3, List.range_succ_eq_map, List.flatMap_cons, List.flatMap_map] at h1
  exact h1.symm
theorem doc_perm (h : chkO ts ws gs = 0) : (docV ts ws gs).Perm (rawV gs (pairsV ts ws)) := by
  obtain ⟨hq, hw, ha⟩ := co_iff.1 h
  exact srtE_perm.trans (raw_perm hq hw ha).symm
theorem doc_right (h : chkO ts ws gs = 0) (he : e ∈ docV ts ws gs) : rightE e = true := raw_right (co_iff.1 h).1 ((doc_perm h).mem_iff.1 he)
theorem doc_mems (h : chkO ts ws gs = 0) : ((docV ts ws gs).flatMap En.mem).Perm (ts.map Rn.id) := by
  obtain ⟨hq, hw, ha⟩ := co_iff.1 h
  refine ((doc_perm h).flatMap_right En.mem).trans (raw_mems.trans (List.Perm.of_eq ?_))
  rw [show (fun p : Pr => p.r.id) = Rn.id ∘ Pr.r from rfl, ← List.map_map, pairs_r (wt_len hw)]
theorem doc_len (h : chkO ts ws gs = 0) : ((docV ts ws gs).flatMap En.mem).length = ts.length := by rw [(doc_mems h).length_eq, List.length_map]
/-- The members of the first so many. -/
def cntE (l : List EnA) (i : Nat) : Nat := ((l.take i).flatMap EnA.l).length
theorem doc_small (h : chkO ts ws gs = 0) : (docV ts ws gs).length ≤ 1000 := by
  have h1 := doc_len h
  have h2 : ts.length ≤ 16 := (chk_iff.1 (co_iff.1 h).1).len
  have h3 : (docV ts ws gs).length ≤ ((docV ts ws gs).flatMap En.mem).length := by
    have hr := fun e (he : e ∈ docV ts ws gs) => (rt_iff.1 (doc_right h he)).1
    generalize docV ts ws gs = l at hr
    induction l with
    | nil => exact Nat.zero_le _
    | cons a r ih =>
      rw [List.flatMap_cons, List.length_append, List.length_cons]
      have := hr a (List.mem_cons_self ..)
      have := ih fun e he => hr e (List.mem_cons_of_mem _ he)
      omega
  omega
end
end Go.Proofs.Ytoljahfofkmdaaa

/-! The document's entities, whatever the order of the gangs; plain. -/
namespace Go.Proofs.Ytoljahfofkmdaaa
open Go Go.RowKit

section
variable {gs gs' : List (List Int)} {ts : List Rn} {ws : List Wt} {a e : En}
theorem ents_small (he : e ∈ if chkO ts ws gs = 0 then docV ts ws gs else []) : e.mem.length ≤ 1000 := by
  split at he
  · next hc =>
    have h1 := doc_len hc
    have h2 : ts.length ≤ 16 := (chk_iff.1 (co_iff.1 hc).1).len
    have h3 : List.Sublist e.mem ((docV ts ws gs).flatMap En.mem) := by
      rw [List.flatMap_def]
      exact List.sublist_flatten_of_mem (List.mem_map_of_mem he)
    have := h3.length_le
    omega
  · cases he
end
end Go.Proofs.Ytoljahfofkmdaaa

/-! What is put in order, as an element; plain. -/
namespace Go.Proofs.Ytoljahfofkmdaaa
open Go Go.RowKit

structure RowO where
  p : Option Addr
  n : Nat
  cap : Nat
  ts : List Rn
  pw : Option Addr
  nw : Nat
  capw : Nat
  ws : List Wt
  q : Option Addr
  m : Nat
  capq : Nat
  al : List IntsA
def RowO.enc (x : RowO) : List Value := [.slice x.p x.n x.cap, .slice x.pw x.nw x.capw, .slice x.q x.m x.capq]
instance : Enc RowO := ⟨RowO.enc, 3, fun _ => rfl, fun x v h => by simp [RowO.enc] at h; rcases h with rfl | rfl | rfl <;> rfl, by decide⟩
structure RowO.Reads (x : RowO) (w : World) : Prop where
  hts : Sv w x.p x.ts
  hn : x.n = x.ts.length
  hcp : x.n ≤ x.cap
  hbg : x.cap ≤ 9223372036854775807
  hU : ∀ r ∈ x.ts, r.U
  hws : Sv w x.pw x.ws
  hnw : x.nw = x.ws.length
  hcw : x.nw ≤ x.capw
  hbw : x.capw ≤ 9223372036854775807
  hWU : ∀ r ∈ x.ws, r.U
  hal : Sv w x.q x.al
  hma : x.m = x.al.length
  hcq : x.m ≤ x.capq
  hbq : x.capq ≤ 9223372036854775807
  hnm : ∀ y ∈ x.al, y.Reads w
theorem RowO.Reads.kept {x : RowO} {w w' : World} (h : x.Reads w) (hb : Below w.heap.size w w') : x.Reads w' :=
  ⟨h.hts.kept hb, h.hn, h.hcp, h.hbg, h.hU, h.hws.kept hb, h.hnw, h.hcw, h.hbw, h.hWU, h.hal.kept hb, h.hma, h.hcq, h.hbq, fun y hy => (h.hnm y hy).kept hb⟩
end Go.Proofs.Ytoljahfofkmdaaa

/-! What of a row is put in order; plain. -/
namespace Go.Proofs.Ytoljahfofkmdaaa
open Go Go.RowKit

/-- The gangs that are looked at. -/
def shortG (gs : List (List Int)) : List (List Int) := (gs.take 17).map fun g => g.take 17
section
variable {al bl : List IntsA} {x y : IntsA} {j : Nat} {gs : List (List Int)}
theorem sg_on (h : bl.map IntsA.l = shortG ((al.take j).map IntsA.l)) (hx : al[j]? = some x) (hj : j < 17) (hy : y.l = x.l.take 17) : (bl ++ [y]).map IntsA.l = shortG ((al.take (j + 1)).map IntsA.l) := by
  have e1 : ∀ i, i ≤ 17 → shortG ((al.take i).map IntsA.l) = ((al.take i).map IntsA.l).map fun g => g.take 17 := fun i hi => by
    unfold shortG
    rw [List.take_of_length_le (by rw [List.length_map, List.length_take]; omega)]
  rw [List.map_append, h, e1 j (by omega), e1 (j + 1) (by omega), take_one hx]
  simp [hy]
theorem sg_out (h : bl.map IntsA.l = shortG ((al.take j).map IntsA.l)) (hj : ¬ j < 17) : bl.map IntsA.l = shortG ((al.take (j + 1)).map IntsA.l) := by
  rw [h]
  unfold shortG
  rw [← List.map_take, ← List.map_take, List.take_take, List.take_take, Nat.min_eq_left (by omega), Nat.min_eq_left (by omega)]
theorem sg_all (hj : al.length ≤ j) : shortG ((al.take j).map IntsA.l) = shortG (al.map IntsA.l) := by rw [List.take_of_length_le hj]
theorem sg_facts (h : bl.map IntsA.l = shortG gs) : bl.length ≤ 17 ∧ ∀ x ∈ bl, x.l.length ≤ 17 := by
  refine ⟨?_, fun x hx => ?_⟩
  · have := congrArg List.length h
    unfold shortG at this
    rw [List.length_map, List.length_map, List.length_take] at this
    omega
  · have : x.l ∈ shortG gs := by rw [← h]; exact List.mem_map_of_mem hx
    unfold shortG at this
    obtain ⟨g, _, e⟩ := List.mem_map.1 this
    rw [← e, List.length_take]; omega
end
end Go.Proofs.Ytoljahfofkmdaaa

/-! Entities of one's own whose members are laid over. -/
namespace Go.Proofs.Ytoljahfofkmdaaa
open Go Go.RowKit

section
variable {T : TypeId} {Yi : List Ob} {al : List IntsA} {x : IntsA} {i : Nat}
theorem GotR.cutO (h : GotR T Yi al) (hx : al[i]? = some x) : ∃ A Z B, Yi = A ++ (Z ++ B) ∧ SlO T Z x.p x.n x.cap x.l ∧ ∀ (Z' : List Ob) (y : IntsA), SlO T Z' y.p y.n y.cap y.l → GotR T (A ++ (Z' ++ B)) (al.set i y) := by
  obtain ⟨Ys, rfl, hl, hs⟩ := h
  have hil := (List.getElem?_eq_some_iff.1 hx).1
  have hiy : i < Ys.length := by omega
  have e : Ys[i]? = some Ys[i] := List.getElem?_eq_getElem hiy
  have hsp : Ys = Ys.take i ++ Ys[i] :: Ys.drop (i + 1) := by rw [← List.drop_eq_getElem_cons hiy, List.take_append_drop]
  refine ⟨(Ys.take i).flatten, Ys[i], (Ys.drop (i + 1)).flatten, ?_, hs i _ x e hx, fun Z' y hy => ⟨Ys.set i Z', ?_, by simp [hl], fun k Z z h1 h2 => ?_⟩⟩
  · have h9 := congrArg List.flatten hsp
    rw [List.flatten_append, List.flatten_cons] at h9
    exact h9
  · rw [List.set_eq_take_append_cons_drop, if_pos hiy]
    simp
  · by_cases hk : i = k
    · subst hk
      rw [List.getElem?_set_self hiy] at h1
      rw [List.getElem?_set_self hil] at h2
      cases h1; cases h2
      exact hy
    · rw [List.getElem?_set_ne hk] at h1 h2
      exact hs k Z z h1 h2
end
theorem flat_sameE {lh : List EnA} {x y : EnA} {k : Nat} (hx : lh[k]? = some x) (e : Enc.enc y = Enc.enc x) : (lh.set k y).flatMap Enc.enc = lh.flatMap Enc.enc := by
  have h1 : (lh.set k y).map Enc.enc = lh.map (Enc.enc (α := EnA)) := by
    rw [List.map_set, e]
    apply List.ext_getElem?
    intro i
    by_cases hi : k = i
    · subst hi
      rw [List.getElem?_set_self (by rw [List.length_map]; exact (List.getElem?_eq_some_iff.1 hx).1), List.getElem?_map, hx]; rfl
    · rw [List.getElem?_set_ne hi]
  rw [List.flatMap_def, List.flatMap_def, h1]
theorem SlO.retagE {T : TypeId} {Y : List Ob} {p : Option Addr} {n cap : Nat} {lh : List EnA} {x y : EnA} {k : Nat} (h : SlO T Y p n cap lh) (hx : lh[k]? = some x) (e : Enc.enc y = Enc.enc x) : SlO T Y p n cap (lh.set k y) := by
  rcases h with ⟨_, _, _, _, rfl⟩ | ⟨g, cs, h1, h2, h3, h4⟩
  · simp at hx
  · exact .inr ⟨g, cs, h1, h2, by rw [List.length_set]; exact h3, by rw [flat_sameE hx e]; exact h4⟩
theorem GotE.cutE {T : TypeId} {Yi : List Ob} {el : List EnA} {x : EnA} {i : Nat} (h : GotE T Yi el) (hx : el[i]? = some x) : ∃ A Z B, Yi = A ++ (Z ++ B) ∧ SlO T Z x.p x.n x.cap x.l ∧ ∀ (Z' : List Ob) (y : EnA), SlO T Z' y.p y.n y.cap y.l → GotE T (A ++ (Z' ++ B)) (el.set i y) := by
  obtain ⟨A, Z, B, h1, h2, h3⟩ := GotR.cutO (x := x.row) h (by rw [List.getElem?_map, hx]; rfl)
  refine ⟨A, Z, B, h1, h2, fun Z' y hy => ?_⟩
  have := h3 Z' y.row hy
  unfold GotE
  rw [List.map_set]
  exact this
theorem at_sameI {l l2 : List IntsA} {V : List (List Int)} {i : Nat} {x y : IntsA} (h1 : l.map IntsA.l = V) (h2 : l2.map IntsA.l = V) (hx : l[i]? = some x) (hy : l2[i]? = some y) : x.l = y.l := by
  have e1 : (l.map IntsA.l)[i]? = some x.l := by rw [List.getElem?_map, hx]; rfl
  have e2 : (l2.map IntsA.l)[i]? = some y.l := by rw [List.getElem?_map, hy]; rfl
  rw [h1] at e1
  rw [h2] at e2
  rw [e1] at e2
  exact Option.some.inj e2
theorem only_mem {l l2 : List Int} (h : l = l2) : decide ((⟨l, ⟨0, 0, 0⟩, 0, false⟩ : En) = ⟨l2, ⟨0, 0, 0⟩, 0, false⟩) = true := decide_eq_true (by rw [h])
end Go.Proofs.Ytoljahfofkmdaaa

/-! The walker: blocks of one's own are let go: from here on they count as old memory. -/
namespace Go.Proofs.Ytoljahfofkmdaaa
open Go Go.RowKit

section
variable {P : Program} {rd : Option Nat} {D : List Deferred} {R : Exit → Act → World → Prop} {w0 w1 w : World} {n i : Nat} {k : List Fr} {l : Sl} {L L0 : List Ob} {c : Code} {all os : List Oper}
theorem Hs.over (h0 : Hs w0 L0 w1) (h : Hs w1 L w) : Hs w0 L w := ⟨h.rows, fun r hr => Nat.le_trans h0.below.size (h.low r hr), h.apart, below_two' h0.below (Nat.le_refl _) h.below⟩
theorem at_rebase (h : ∀ w1, Hs w0 L w1 → At ⟨P, rd, D, R, w1, n⟩ k c l []) : At ⟨P, rd, D, R, w0, n⟩ k c l L := ⟨fun a w ha hw => (h w hw).out a w ha (Hs.start w)⟩
theorem done_unbase (h0 : Hs w0 L0 w1) (h : Done ⟨P, rd, D, R, w0, n⟩ k l L) : Done ⟨P, rd, D, R, w1, n⟩ k l L := ⟨fun a w ha hw => h.out a w ha (h0.over hw)⟩
theorem hs_re {A Y Z B : List Ob} (h : Hs w0 (A ++ ((Y ++ Z) ++ B)) w) : Hs w0 (A ++ (Y ++ (Z ++ B))) w := by rwa [← List.append_assoc Y Z B]
/-- What stands in a block of one's own, read as old. -/
theorem Hs.oldRow {g : Nat} {cs : Array Value} {T : TypeId} {f : Nat × Nat} (h : Hs w0 L w) (j : Nat) (e : L[j]? = some (g, .cells cs T f)) : Rd w g (0 + 0 * cs.size) cs.toList := fun q v hq => by
  rw [show (⟨g, 0 + 0 * cs.size + q, none⟩ : Addr) = ⟨g, q, none⟩ by simp, cell_own (h.row j e)]
  simpa using hq
/-- Where a slice stands that begins behind the first so many. -/
abbrev cutP (p : Option Addr) (cap lo k : Nat) : Option Addr := if cap = lo then p else p.map (·.add (lo * k))
end
end Go.Proofs.Ytoljahfofkmdaaa

/-! Order: what the document says of entities. -/
namespace Go.Proofs.Ytoljahfofkmdaaa
open Go Go.RowKit

set_option maxRecDepth 100000 in
theorem rright_t (a : EnA) (w : World)
    (ra : a.Reads w)
    : Calls Try.prog 49 #[.agg #[.slice a.p a.n a.cap, .int .u64 a.th, .int .u64 a.tl, .int .u64 a.tw, .int .u64 a.ord, .bool a.fresh]] w fun e w' => e = .returned (.bool (rightE a.val)) ∧ Below w.heap.size w w' := by
  have hsa : Sv w a.p a.l := ra.sv
  have hna : a.n = a.l.length := ra.hn
  have hca := ra.hc
  have hba := ra.hb
  refine enter (Hs.start w) Try.func49 rfl Try.ntmps49 rfl (sq_ (ma0 [] [] (fun γ1 => [(1, .pointer (some ⟨γ1 0, 0, none⟩))]) (fun γ1 L => bx (γ1 0) (#[.slice a.p a.n a.cap, .int .u64 a.th, .int .u64 a.tl, .int .u64 a.tw, .int .u64 a.ord, .bool a.fresh]) 47 :: L) (fun γ1 => ds_ (sq_ ?_))))
  by_cases q3 : ((a.n : Nat) : Int) > (0 : Int)
  ·
    refine ao_ (qo 7 [(1, .go (owns 0 0 1)), (3, .yes), (6, .go (owns 0 1 3))] [] [(7, .bool true), (9, .agg #[.int .u64 a.th, .int .u64 a.tl, .int .u64 a.tw])] ([((a.n : Nat) : Int) > (0 : Int)]) (al1 q3) ?_)
    rcases q5 : a.t.ok with _ | _
    ·
      refine cD (.bool false) Try.call67 (fun w hw => by have := r05right_t a.t w; rw [q5] at this; exact this) (qo0 2 [] [] [(2, .bool false)] (on_ (ds_ (rt ([]) (.bool false) ?_))))
      exact fun w' hw => ⟨by rw [rt_noT (a := a.val) q5], hw.below⟩
    ·
      refine cD (.bool true) Try.call67 (fun w hw => by have := r05right_t a.t w; rw [q5] at this; exact this) (qo0 2 [] [] [(2, .bool true)] (on_ (ds_ (rt ([]) (.bool true) ?_))))
      exact fun w' hw => ⟨by rw [rt_yes (a := a.val) (by show 0 < a.l.length; omega) q5], hw.below⟩
  ·
    refine qa [(1, .go (owns 0 0 1)), (3, .no)] [] [(2, .bool false)] ([¬ (((a.n : Nat) : Int) > (0 : Int))]) (al1 q3) (ds_ (rt ([]) (.bool false) ?_))
    exact fun w' hw => ⟨by rw [rt_no0 (a := a.val) (by show ¬ 0 < a.l.length; omega)], hw.below⟩

set_option maxRecDepth 100000 in
theorem rahead_t (a b : EnA) (w : World)
    (ra : a.Reads w)
    (rb : b.Reads w)
    : Calls Try.prog 24 #[.agg #[.slice a.p a.n a.cap, .int .u64 a.th, .int .u64 a.tl, .int .u64 a.tw, .int .u64 a.ord, .bool a.fresh], .agg #[.slice b.p b.n b.cap, .int .u64 b.th, .int .u64 b.tl, .int .u64 b.tw, .int .u64 b.ord, .bool b.fresh]] w fun e w' => e = .returned (.bool (aheadE a.val b.val)) ∧ Below w.heap.size w w' := by
  have hsa : Sv w a.p a.l := ra.sv
  have hna : a.n = a.l.length := ra.hn
  have hca := ra.hc
  have hba := ra.hb
  have hsb : Sv w b.p b.l := rb.sv
  have hnb : b.n = b.l.length := rb.hn
  have hcb := rb.hc
  have hbb := rb.hb
  refine enter (Hs.start w) Try.func24 rfl Try.ntmps24 rfl (sq_ (ma0 [] [] (fun γ1 => [(2, .pointer (some ⟨γ1 0, 0, none⟩)), (3, .pointer (some ⟨γ1 1, 0, none⟩))]) (fun γ1 L => bx (γ1 1) (#[.slice b.p b.n b.cap, .int .u64 b.th, .int .u64 b.tl, .int .u64 b.tw, .int .u64 b.ord, .bool b.fresh]) 47 :: bx (γ1 0) (#[.slice a.p a.n a.cap, .int .u64 a.th, .int .u64 a.tl, .int .u64 a.tw, .int .u64 a.ord, .bool a.fresh]) 47 :: L) (fun γ1 => ds_ (sq_ (sq_ (ao_ (qo0 1 [(0, .go (owns 1 0 6))] [2, 3] [(6, .agg #[.slice a.p a.n a.cap, .int .u64 a.th, .int .u64 a.tl, .int .u64 a.tw, .int .u64 a.ord, .bool a.fresh])] ?_)))))))
  rcases q3 : rightE a.val with _ | _
  ·
    refine cD (.bool false) Try.call49 (fun w hw => by have := rright_t a w (ra.kept hw.below); rw [q3] at this; exact this) (qo0 6 [] [2, 3] [(13, .bool true)] (on_ (ds_ (t_ (sq_ (qa0 [] [] [(4, .bool false)] (ds_ (rt ([]) (.bool false) ?_))))))))
    exact fun w' hw => ⟨by rw [ah_no1 (a := a.val) q3], hw.below⟩
  ·
    refine cD (.bool true) Try.call49 (fun w hw => by have := rright_t a w (ra.kept hw.below); rw [q3] at this; exact this) (qo0 3 [(4, .go (owns 0 0 6))] [2, 3] [(9, .bool false), (10, .agg #[.slice b.p b.n b.cap, .int .u64 b.th, .int .u64 b.tl, .int .u64 b.tw, .int .u64 b.ord, .bool b.fresh])] ?_)
    rcases q7 : rightE b.val with _ | _
    ·
      refine cD (.bool false) Try.call49 (fun w hw => by have := rright_t b w (rb.kept hw.below); rw [q7] at this; exact this) (qo0 2 [] [2, 3] [(13, .bool true)] (on_ (ds_ (t_ (sq_ (qa0 [] [] [(4, .bool false)] (ds_ (rt ([]) (.bool false) ?_))))))))
      exact fun w' hw => ⟨by rw [ah_no2 (b := b.val) q7], hw.below⟩
    ·
      refine cD (.bool true) Try.call49 (fun w hw => by have := rright_t b w (rb.kept hw.below); rw [q7] at this; exact this) (qo0 2 [] [2, 3] [(13, .bool false)] (on_ (ds_ (f_ (at_skip (ds_ (sq_ ?_)))))))
      have h0a := rt_first q3
      have h0b := rt_first q7
      refine ao_ (qo0 4 [(1, .go (owns 1 1 3)), (3, .go (owns 0 1 3))] [2, 3] [(15, .agg #[.int .u64 a.th, .int .u64 a.tl, .int .u64 a.tw]), (17, .agg #[.int .u64 b.th, .int .u64 b.tl, .int .u64 b.tw])] (cD (.int .i64 (cmpF a.t b.t)) Try.call50 (fun w hw => by have := rcmp_t a.t b.t w ra.tU rb.tU; rw [show cmpI (a.t.num * b.t.w) (b.t.num * a.t.w) = cmpF a.t b.t from (cmpF_p (a := a.val) (b := b.val) (rt_iff.1 q3).2 (rt_iff.1 q7).2).symm] at this; exact this) (qo0 1 [] [2, 3] [(5, .int .i64 (cmpF a.t b.t))] (on_ (ds_ (sq_ (at_block (sq_ ?_))))))))
      rcases q14 : a.fresh with _ | _
      ·
        rcases q16 : b.fresh with _ | _
        ·
          refine qa [(1, .go (owns 1 5 1)), (3, .go (owns 0 5 1)), (4, .eqs false)] [2, 3, 5] [(19, .bool false)] ([EqRun Try.prog .neq 4 (.tmp 21) (.tmp 23) (.bool false) (.bool false) false]) (al1 (bool_ne false false)) (ds_ (f_ (sq_ ?_)))
          by_cases q19 : ((cmpF a.t b.t) : Int) ≠ (0 : Int)
          ·
            refine qa [(1, .yes)] [2, 3, 5] [(27, .bool true)] ([((cmpF a.t b.t) : Int) ≠ (0 : Int)]) (al1 q19) (ds_ (t_ (sq_ ?_)))
            by_cases q22 : ((cmpF a.t b.t) : Int) < (0 : Int)
            ·
              refine qa [(1, .yes)] [] [(4, .bool true)] ([((cmpF a.t b.t) : Int) < (0 : Int)]) (al1 q22) (ds_ (rt ([]) (.bool true) ?_))
              obtain ⟨u, hu⟩ := get_some (l := a.l) (m := 0) h0a
              obtain ⟨v, hv⟩ := get_some (l := b.l) (m := 0) h0b
              have e1 : a.val.t = a.t := rfl
              have e2 : b.val.t = b.t := rfl
              have e3 : a.val.ord = a.ord := rfl
              have e4 : b.val.ord = b.ord := rfl
              exact fun w' hw => ⟨by rw [ahd_s (a := a.val) (b := b.val) q3 q7 (q14.trans q16.symm) hu hv, e1, e2, e3, e4, decide_eq_true (by omega)], hw.below⟩
            ·
              refine qa [(1, .no)] [] [(4, .bool false)] ([¬ (((cmpF a.t b.t) : Int) < (0 : Int))]) (al1 q22) (ds_ (rt ([]) (.bool false) ?_))
              obtain ⟨u, hu⟩ := get_some (l := a.l) (m := 0) h0a
              obtain ⟨v, hv⟩ := get_some (l := b.l) (m := 0) h0b
              have e1 : a.val.t = a.t := rfl
              have e2 : b.val.t = b.t := rfl
              have e3 : a.val.ord = a.ord := rfl
              have e4 : b.val.ord = b.ord := rfl
              exact fun w' hw => ⟨by rw [ahd_s (a := a.val) (b := b.val) q3 q7 (q14.trans q16.symm) hu hv, e1, e2, e3, e4, decide_eq_false (by omega)], hw.below⟩
          ·
            refine qa [(1, .no)] [2, 3, 5] [(27, .bool false)] ([¬ (((cmpF a.t b.t) : Int) ≠ (0 : Int))]) (al1 q19) (ds_ (f_ (sq_ ?_)))
            by_cases q27 : (a.ord : Int) ≠ (b.ord : Int)
            ·
              refine qa [(1, .go (owns 1 4 1)), (3, .go (owns 0 4 1)), (4, .yes)] [2, 3] [(32, .bool true)] ([(a.ord : Int) ≠ (b.ord : Int)]) (al1 q27) (ds_ (t_ (sq_ ?_)))
              by_cases q30 : (a.ord : Int) < (b.ord : Int)
              ·
                refine qa [(1, .go (owns 1 4 1)), (3, .go (owns 0 4 1)), (4, .yes)] [] [(4, .bool true)] ([(a.ord : Int) < (b.ord : Int)]) (al1 q30) (ds_ (rt ([]) (.bool true) ?_))
                obtain ⟨u, hu⟩ := get_some (l := a.l) (m := 0) h0a
                obtain ⟨v, hv⟩ := get_some (l := b.l) (m := 0) h0b
                have e1 : a.val.t = a.t := rfl
                have e2 : b.val.t = b.t := rfl
                have e3 : a.val.ord = a.ord := rfl
                have e4 : b.val.ord = b.ord := rfl
                exact fun w' hw => ⟨by rw [ahd_s (a := a.val) (b := b.val) q3 q7 (q14.trans q16.symm) hu hv, e1, e2, e3, e4, decide_eq_true (by omega)], hw.below⟩
              ·
                refine qa [(1, .go (owns 1 4 1)), (3, .go (owns 0 4 1)), (4, .no)] [] [(4, .bool false)] ([¬ ((a.ord : Int) < (b.ord : Int))]) (al1 q30) (ds_ (rt ([]) (.bool false) ?_))
                obtain ⟨u, hu⟩ := get_some (l := a.l) (m := 0) h0a
                obtain ⟨v, hv⟩ := get_some (l := b.l) (m := 0) h0b
                have e1 : a.val.t = a.t := rfl
                have e2 : b.val.t = b.t := rfl
                have e3 : a.val.ord = a.ord := rfl
                have e4 : b.val.ord = b.ord := rfl
                exact fun w' hw => ⟨by rw [ahd_s (a := a.val) (b := b.val) q3 q7 (q14.trans q16.symm) hu hv, e1, e2, e3, e4, decide_eq_false (by omega)], hw.below⟩
            ·
              refine qa [(1, .go (owns 1 4 1)), (3, .go (owns 0 4 1)), (4, .no)] [2, 3] [(32, .bool false)] ([¬ ((a.ord : Int) ≠ (b.ord : Int))]) (al1 q27) (ds_ (f_ (at_skip (done_block (ds_ (sq_ ?_))))))
              obtain ⟨b35, o35, hbo35⟩ := hsa.pos (i := 0) (by omega)
              have hsv35 := hsa
              rw [hbo35] at hsv35
              obtain ⟨x37, hx37⟩ := get_some (l := a.l) (m := 0) (by omega)
              obtain ⟨b39, o39, hbo39⟩ := hsb.pos (i := 0) (by omega)
              have hsv39 := hsb
              rw [hbo39] at hsv39
              obtain ⟨x41, hx41⟩ := get_some (l := b.l) (m := 0) (by omega)
              by_cases q43 : (x37 : Int) < (x41 : Int)
              ·
                refine cq [(1, .go (owns 1 0 1)), (2, .at b35 o35 0), (3, .go (outs b35 (o35 + 0 * 1) [.int .i64 x37])), (5, .go (owns 0 0 1)), (6, .at b39 o39 0), (7, .go (outs b39 (o39 + 0 * 1) [.int .i64 x41])), (8, .yes)] [] [(4, .bool true)] ([(a.p : Option Addr) = some ⟨b35, o35, none⟩, 0 = ((0 : Nat) : Int), 0 < a.n] ++ (cellsP w b35 (o35 + 0 * 1) [.int .i64 x37] ++ ([(b.p : Option Addr) = some ⟨b39, o39, none⟩, 0 = ((0 : Nat) : Int), 0 < b.n] ++ (cellsP w b39 (o39 + 0 * 1) [.int .i64 x41] ++ ([(x37 : Int) < (x41 : Int)]))))) rfl (by kernel_rfl) (by kernel_rfl) (by kernel_rfl) (alA (al2 hbo35 (al2 rfl (al1 (by omega)))) (alA (rd_pre (hsv35.get hx37) _ rfl) (alA (al2 hbo39 (al2 rfl (al1 (by omega)))) (alA (rd_pre (hsv39.get hx41) _ rfl) (al1 q43))))) (ds_ (rt ([]) (.bool true) ?_))
                have e1 : a.val.t = a.t := rfl
                have e2 : b.val.t = b.t := rfl
                have e3 : a.val.ord = a.ord := rfl
                have e4 : b.val.ord = b.ord := rfl
                exact fun w' hw => ⟨by rw [ahd_s (a := a.val) (b := b.val) q3 q7 (q14.trans q16.symm) hx37 hx41, e1, e2, e3, e4, decide_eq_true (by omega)], hw.below⟩
              ·
                refine cq [(1, .go (owns 1 0 1)), (2, .at b35 o35 0), (3, .go (outs b35 (o35 + 0 * 1) [.int .i64 x37])), (5, .go (owns 0 0 1)), (6, .at b39 o39 0), (7, .go (outs b39 (o39 + 0 * 1) [.int .i64 x41])), (8, .no)] [] [(4, .bool false)] ([(a.p : Option Addr) = some ⟨b35, o35, none⟩, 0 = ((0 : Nat) : Int), 0 < a.n] ++ (cellsP w b35 (o35 + 0 * 1) [.int .i64 x37] ++ ([(b.p : Option Addr) = some ⟨b39, o39, none⟩, 0 = ((0 : Nat) : Int), 0 < b.n] ++ (cellsP w b39 (o39 + 0 * 1) [.int .i64 x41] ++ ([¬ ((x37 : Int) < (x41 : Int))]))))) rfl (by kernel_rfl) (by kernel_rfl) (by kernel_rfl) (alA (al2 hbo35 (al2 rfl (al1 (by omega)))) (alA (rd_pre (hsv35.get hx37) _ rfl) (alA (al2 hbo39 (al2 rfl (al1 (by omega)))) (alA (rd_pre (hsv39.get hx41) _ rfl) (al1 q43))))) (ds_ (rt ([]) (.bool false) ?_))
                have e1 : a.val.t = a.t := rfl
                have e2 : b.val.t = b.t := rfl
                have e3 : a.val.ord = a.ord := rfl
                have e4 : b.val.ord = b.ord := rfl
                exact fun w' hw => ⟨by rw [ahd_s (a := a.val) (b := b.val) q3 q7 (q14.trans q16.symm) hx37 hx41, e1, e2, e3, e4, decide_eq_false (by omega)], hw.below⟩
        ·
          refine qa [(1, .go (owns 1 5 1)), (3, .go (owns 0 5 1)), (4, .eqs true)] [2, 3, 5] [(19, .bool true)] ([EqRun Try.prog .neq 4 (.tmp 21) (.tmp 23) (.bool false) (.bool true) true]) (al1 (bool_ne false true)) (ds_ (t_ (sq_ (qa0 [(1, .go (owns 1 5 1))] [] [(4, .bool false)] (ds_ (rt ([]) (.bool false) ?_))))))
          exact fun w' hw => ⟨by rw [ahd_f (a := a.val) (b := b.val) q3 q7 (fun h => by have h2 : a.fresh = b.fresh := h; rw [q14, q16] at h2; cases h2), show a.val.fresh = false from q14], hw.below⟩
      ·
        rcases q49 : b.fresh with _ | _
        ·
          refine qa [(1, .go (owns 1 5 1)), (3, .go (owns 0 5 1)), (4, .eqs true)] [2, 3, 5] [(19, .bool true)] ([EqRun Try.prog .neq 4 (.tmp 21) (.tmp 23) (.bool true) (.bool false) true]) (al1 (bool_ne true false)) (ds_ (t_ (sq_ (qa0 [(1, .go (owns 1 5 1))] [] [(4, .bool true)] (ds_ (rt ([]) (.bool true) ?_))))))
          exact fun w' hw => ⟨by rw [ahd_f (a := a.val) (b := b.val) q3 q7 (fun h => by have h2 : a.fresh = b.fresh := h; rw [q14, q49] at h2; cases h2), show a.val.fresh = true from q14], hw.below⟩
        ·
          refine qa [(1, .go (owns 1 5 1)), (3, .go (owns 0 5 1)), (4, .eqs false)] [2, 3, 5] [(19, .bool false)] ([EqRun Try.prog .neq 4 (.tmp 21) (.tmp 23) (.bool true) (.bool true) false]) (al1 (bool_ne true true)) (ds_ (f_ (sq_ ?_)))
          by_cases q54 : ((cmpF a.t b.t) : Int) ≠ (0 : Int)
          ·
            refine qa [(1, .yes)] [2, 3, 5] [(27, .bool true)] ([((cmpF a.t b.t) : Int) ≠ (0 : Int)]) (al1 q54) (ds_ (t_ (sq_ ?_)))
            by_cases q57 : ((cmpF a.t b.t) : Int) < (0 : Int)
            ·
              refine qa [(1, .yes)] [] [(4, .bool true)] ([((cmpF a.t b.t) : Int) < (0 : Int)]) (al1 q57) (ds_ (rt ([]) (.bool true) ?_))
              obtain ⟨u, hu⟩ := get_some (l := a.l) (m := 0) h0a
              obtain ⟨v, hv⟩ := get_some (l := b.l) (m := 0) h0b
              have e1 : a.val.t = a.t := rfl
              have e2 : b.val.t = b.t := rfl
              have e3 : a.val.ord = a.ord := rfl
              have e4 : b.val.ord = b.ord := rfl
              exact fun w' hw => ⟨by rw [ahd_s (a := a.val) (b := b.val) q3 q7 (q14.trans q49.symm) hu hv, e1, e2, e3, e4, decide_eq_true (by omega)], hw.below⟩
            ·
              refine qa [(1, .no)] [] [(4, .bool false)] ([¬ (((cmpF a.t b.t) : Int) < (0 : Int))]) (al1 q57) (ds_ (rt ([]) (.bool false) ?_))
              obtain ⟨u, hu⟩ := get_some (l := a.l) (m := 0) h0a
              obtain ⟨v, hv⟩ := get_some (l := b.l) (m := 0) h0b
              have e1 : a.val.t = a.t := rfl
              have e2 : b.val.t = b.t := rfl
              have e3 : a.val.ord = a.ord := rfl
              have e4 : b.val.ord = b.ord := rfl
              exact fun w' hw => ⟨by rw [ahd_s (a := a.val) (b := b.val) q3 q7 (q14.trans q49.symm) hu hv, e1, e2, e3, e4, decide_eq_false (by omega)], hw.below⟩
          ·
            refine qa [(1, .no)] [2, 3, 5] [(27, .bool false)] ([¬ (((cmpF a.t b.t) : Int) ≠ (0 : Int))]) (al1 q54) (ds_ (f_ (sq_ ?_)))
            by_cases q62 : (a.ord : Int) ≠ (b.ord : Int)
            ·
              refine qa [(1, .go (owns 1 4 1)), (3, .go (owns 0 4 1)), (4, .yes)] [2, 3] [(32, .bool true)] ([(a.ord : Int) ≠ (b.ord : Int)]) (al1 q62) (ds_ (t_ (sq_ ?_)))
              by_cases q65 : (a.ord : Int) < (b.ord : Int)
              ·
                refine qa [(1, .go (owns 1 4 1)), (3, .go (owns 0 4 1)), (4, .yes)] [] [(4, .bool true)] ([(a.ord : Int) < (b.ord : Int)]) (al1 q65) (ds_ (rt ([]) (.bool true) ?_))
                obtain ⟨u, hu⟩ := get_some (l := a.l) (m := 0) h0a
                obtain ⟨v, hv⟩ := get_some (l := b.l) (m := 0) h0b
                have e1 : a.val.t = a.t := rfl
                have e2 : b.val.t = b.t := rfl
                have e3 : a.val.ord = a.ord := rfl
                have e4 : b.val.ord = b.ord := rfl
                exact fun w' hw => ⟨by rw [ahd_s (a := a.val) (b := b.val) q3 q7 (q14.trans q49.symm) hu hv, e1, e2, e3, e4, decide_eq_true (by omega)], hw.below⟩
              ·
                refine qa [(1, .go (owns 1 4 1)), (3, .go (owns 0 4 1)), (4, .no)] [] [(4, .bool false)] ([¬ ((a.ord : Int) < (b.ord : Int))]) (al1 q65) (ds_ (rt ([]) (.bool false) ?_))
                obtain ⟨u, hu⟩ := get_some (l := a.l) (m := 0) h0a
                obtain ⟨v, hv⟩ := get_some (l := b.l) (m := 0) h0b
                have e1 : a.val.t = a.t := rfl
                have e2 : b.val.t = b.t := rfl
                have e3 : a.val.ord = a.ord := rfl
                have e4 : b.val.ord = b.ord := rfl
                exact fun w' hw => ⟨by rw [ahd_s (a := a.val) (b := b.val) q3 q7 (q14.trans q49.symm) hu hv, e1, e2, e3, e4, decide_eq_false (by omega)], hw.below⟩
            ·
              refine qa [(1, .go (owns 1 4 1)), (3, .go (owns 0 4 1)), (4, .no)] [2, 3] [(32, .bool false)] ([¬ ((a.ord : Int) ≠ (b.ord : Int))]) (al1 q62) (ds_ (f_ (at_skip (done_block (ds_ (sq_ ?_))))))
              obtain ⟨b70, o70, hbo70⟩ := hsa.pos (i := 0) (by omega)
              have hsv70 := hsa
              rw [hbo70] at hsv70
              obtain ⟨x72, hx72⟩ := get_some (l := a.l) (m := 0) (by omega)
              obtain ⟨b74, o74, hbo74⟩ := hsb.pos (i := 0) (by omega)
              have hsv74 := hsb
              rw [hbo74] at hsv74
              obtain ⟨x76, hx76⟩ := get_some (l := b.l) (m := 0) (by omega)
              by_cases q78 : (x72 : Int) < (x76 : Int)
              ·
                refine cq [(1, .go (owns 1 0 1)), (2, .at b70 o70 0), (3, .go (outs b70 (o70 + 0 * 1) [.int .i64 x72])), (5, .go (owns 0 0 1)), (6, .at b74 o74 0), (7, .go (outs b74 (o74 + 0 * 1) [.int .i64 x76])), (8, .yes)] [] [(4, .bool true)] ([(a.p : Option Addr) = some ⟨b70, o70, none⟩, 0 = ((0 : Nat) : Int), 0 < a.n] ++ (cellsP w b70 (o70 + 0 * 1) [.int .i64 x72] ++ ([(b.p : Option Addr) = some ⟨b74, o74, none⟩, 0 = ((0 : Nat) : Int), 0 < b.n] ++ (cellsP w b74 (o74 + 0 * 1) [.int .i64 x76] ++ ([(x72 : Int) < (x76 : Int)]))))) rfl (by kernel_rfl) (by kernel_rfl) (by kernel_rfl) (alA (al2 hbo70 (al2 rfl (al1 (by omega)))) (alA (rd_pre (hsv70.get hx72) _ rfl) (alA (al2 hbo74 (al2 rfl (al1 (by omega)))) (alA (rd_pre (hsv74.get hx76) _ rfl) (al1 q78))))) (ds_ (rt ([]) (.bool true) ?_))
                have e1 : a.val.t = a.t := rfl
                have e2 : b.val.t = b.t := rfl
                have e3 : a.val.ord = a.ord := rfl
                have e4 : b.val.ord = b.ord := rfl
                exact fun w' hw => ⟨by rw [ahd_s (a := a.val) (b := b.val) q3 q7 (q14.trans q49.symm) hx72 hx76, e1, e2, e3, e4, decide_eq_true (by omega)], hw.below⟩
              ·
                refine cq [(1, .go (owns 1 0 1)), (2, .at b70 o70 0), (3, .go (outs b70 (o70 + 0 * 1) [.int .i64 x72])), (5, .go (owns 0 0 1)), (6, .at b74 o74 0), (7, .go (outs b74 (o74 + 0 * 1) [.int .i64 x76])), (8, .no)] [] [(4, .bool false)] ([(a.p : Option Addr) = some ⟨b70, o70, none⟩, 0 = ((0 : Nat) : Int), 0 < a.n] ++ (cellsP w b70 (o70 + 0 * 1) [.int .i64 x72] ++ ([(b.p : Option Addr) = some ⟨b74, o74, none⟩, 0 = ((0 : Nat) : Int), 0 < b.n] ++ (cellsP w b74 (o74 + 0 * 1) [.int .i64 x76] ++ ([¬ ((x72 : Int) < (x76 : Int))]))))) rfl (by kernel_rfl) (by kernel_rfl) (by kernel_rfl) (alA (al2 hbo70 (al2 rfl (al1 (by omega)))) (alA (rd_pre (hsv70.get hx72) _ rfl) (alA (al2 hbo74 (al2 rfl (al1 (by omega)))) (alA (rd_pre (hsv74.get hx76) _ rfl) (al1 q78))))) (ds_ (rt ([]) (.bool false) ?_))
                have e1 : a.val.t = a.t := rfl
                have e2 : b.val.t = b.t := rfl
                have e3 : a.val.ord = a.ord := rfl
                have e4 : b.val.ord = b.ord := rfl
                exact fun w' hw => ⟨by rw [ahd_s (a := a.val) (b := b.val) q3 q7 (q14.trans q49.symm) hx72 hx76, e1, e2, e3, e4, decide_eq_false (by omega)], hw.below⟩

set_option maxRecDepth 100000 in
theorem has_t (p : Option Addr) (n cap : Nat) (l : List Int) (k : Int) (w : World)
    (hsl : Sv w p l) (hn : n = l.length) (hb : n ≤ 1000)
    : Calls Try.prog 43 #[.slice p n cap, .int .i64 k] w fun e w' => e = .returned (.bool (decide (k ∈ l))) ∧ Below w.heap.size w w' := by
  refine enter (Hs.start w) Try.func43 rfl Try.ntmps43 rfl (sq_ (qa0 [] [0, 1] [] (ds_ (sq_ (sq_ (qa0 [] [1] [(7, .slice p n cap), (8, .int .i64 (n : Nat)), (9, .int .i64 0)] (ds_ (at_block (at_loop (α := Nat) [1, 7, 8, 9] (fun j => [(1, .int .i64 k), (7, .slice p n cap), (8, .int .i64 (n : Nat)), (9, .int .i64 (j : Nat))]) (fun j => []) (fun j => j ≤ n ∧ ∀ t y, t < j → l[t]? = some y → ¬ y = k) (fun j => n - j) 0 (by kernel_rfl) rfl ⟨Nat.zero_le _, fun t y h => by omega⟩ ?_)))))))))
  rintro j
  rintro ⟨hj, hI⟩
  refine sq_ ?_
  by_cases q4 : ((j : Nat) : Int) < ((n : Nat) : Int)
  ·
    refine qa [(0, .yes)] [1, 7, 8, 9] [(10, .bool true)] ([((j : Nat) : Int) < ((n : Nat) : Int)]) (al1 q4) (ds_ (sq_ (t_ (at_skip (ds_ (sq_ (at_block (sq_ ?_))))))))
    obtain ⟨b7, o7, rfl⟩ := hsl.pos (i := j) (by omega)
    obtain ⟨x9, hx9⟩ := get_some (l := l) (m := j) (by omega)
    refine qa [(0, .at b7 o7 j), (1, .go (outs b7 (o7 + j * 1) [.int .i64 x9]))] [1, 7, 8, 9] [(6, .int .i64 x9)] ([(some ⟨b7, o7, none⟩ : Option Addr) = some ⟨b7, o7, none⟩, (j : Nat) = ((j : Nat) : Int), j < n] ++ (cellsP w b7 (o7 + j * 1) [.int .i64 x9])) (alA (al2 rfl (al2 rfl (al1 (by omega)))) (rd_pre (hsl.get hx9) _ rfl)) (ds_ (sq_ ?_))
    by_cases q12 : (x9 : Int) = (k : Int)
    ·
      refine qa [(2, .yes)] [1, 7, 8, 9] [(15, .bool true)] ([(x9 : Int) = (k : Int)]) (al1 q12) (ds_ (t_ (sq_ (qa0 [] [] [(4, .bool true)] (ds_ (rt ([]) (.bool true) ?_))))))
      exact fun w' hw => ⟨by rw [mem_yes hx9 q12], hw.below⟩
    ·
      refine qa [(2, .no)] [1, 7, 8, 9] [(15, .bool false)] ([¬ ((x9 : Int) = (k : Int))]) (al1 q12) (ds_ (f_ (at_skip (done_block (ds_ (qa [(0, .fit)] [1, 7, 8] [(9, .int .i64 (j + 1 : Nat))] ([Fit .i64 ((j + 1 : Nat))]) (al1 (fit64 (by omega) (by omega))) ?_))))))
      exact dr [1, 7, 8, 9] (j + 1) ⟨by omega, mem_onT hI hx9 q12⟩
  ·
    refine qa [(0, .no)] [1, 7, 8, 9] [(10, .bool false)] ([¬ (((j : Nat) : Int) < ((n : Nat) : Int))]) (al1 q4) (ds_ (sq_ (f_ (at_leave _ rfl (ds_ (sq_ (qa0 [] [] [(4, .bool false)] (ds_ (rt ([]) (.bool false) ?_)))))))))
    exact fun w' hw => ⟨by rw [mem_no hI (by omega)], hw.below⟩

end Go.Proofs.Ytoljahfofkmdaaa

/-! The walker: a scope without a goto, a label. -/
namespace Go.Proofs.Ytoljahfofkmdaaa
open Go Go.RowKit
section
variable {P : Program} {b : Frame} {a : Act} {ks : List Item} {cs : List Frame} {w : World} {F : Fence} {n : Nat} {Q : Exit → Act → World → Prop}
end
section
variable {E : Env} {k : List Fr} {l : Sl} {L : List Ob}
end
end Go.Proofs.Ytoljahfofkmdaaa

/-! Order: who is first; the same entities. -/
namespace Go.Proofs.Ytoljahfofkmdaaa
open Go Go.RowKit

set_option maxRecDepth 100000 in
theorem sameone_t (a b : EnA) (w : World)
    (hsa : Sv w a.p a.l) (hna : a.n = a.l.length) (hba : a.n ≤ 1000)
    (hsb : Sv w b.p b.l) (hnb : b.n = b.l.length) (hbb : b.n ≤ 1000)
    : Calls Try.prog 27 #[.agg #[.slice a.p a.n a.cap, .int .u64 a.th, .int .u64 a.tl, .int .u64 a.tw, .int .u64 a.ord, .bool a.fresh], .agg #[.slice b.p b.n b.cap, .int .u64 b.th, .int .u64 b.tl, .int .u64 b.tw, .int .u64 b.ord, .bool b.fresh]] w fun e w' => e = .returned (.bool (decide (a.val = b.val))) ∧ Below w.heap.size w w' := by
  refine enter (Hs.start w) Try.func27 rfl Try.ntmps27 rfl (sq_ (ma0 [] [] (fun γ1 => [(2, .pointer (some ⟨γ1 0, 0, none⟩)), (3, .pointer (some ⟨γ1 1, 0, none⟩))]) (fun γ1 L => bx (γ1 1) (#[.slice b.p b.n b.cap, .int .u64 b.th, .int .u64 b.tl, .int .u64 b.tw, .int .u64 b.ord, .bool b.fresh]) 47 :: bx (γ1 0) (#[.slice a.p a.n a.cap, .int .u64 a.th, .int .u64 a.tl, .int .u64 a.tw, .int .u64 a.ord, .bool a.fresh]) 47 :: L) (fun γ1 => ds_ (sq_ (sq_ ?_)))))
  by_cases q3 : a.t = b.t
  ·
    by_cases q5 : (a.ord : Int) ≠ (b.ord : Int)
    ·
      refine qa [(1, .go (owns 1 1 3)), (3, .go (owns 0 1 3)), (4, .eqs false), (7, .go (owns 1 4 1)), (9, .go (owns 0 4 1)), (10, .yes)] [2, 3] [(33, .bool true)] ([EqRun Try.prog .neq 45 (.tmp 7) (.tmp 9) (.agg #[.int .u64 a.th, .int .u64 a.tl, .int .u64 a.tw]) (.agg #[.int .u64 b.th, .int .u64 b.tl, .int .u64 b.tw]) false] ++ ([(a.ord : Int) ≠ (b.ord : Int)])) (alA (al1 (fq_ne_t (a := a.t) (b := b.t) q3)) (al1 q5)) (ds_ (t_ (sq_ (qa0 [] [] [(4, .bool false)] (ds_ (rt ([]) (.bool false) ?_))))))
      exact fun w' hw => ⟨by rw [so_o (by omega)], hw.below⟩
    ·
      rcases q9 : a.fresh with _ | _
      ·
        rcases q11 : b.fresh with _ | _
        ·
          by_cases q13 : ((a.n : Nat) : Int) ≠ ((b.n : Nat) : Int)
          ·
            refine qa [(1, .go (owns 1 1 3)), (3, .go (owns 0 1 3)), (4, .eqs false), (7, .go (owns 1 4 1)), (9, .go (owns 0 4 1)), (10, .no), (14, .go (owns 1 5 1)), (16, .go (owns 0 5 1)), (17, .eqs false), (21, .go (owns 1 0 1)), (24, .go (owns 0 0 1)), (26, .yes)] [2, 3] [(33, .bool true)] ([EqRun Try.prog .neq 45 (.tmp 7) (.tmp 9) (.agg #[.int .u64 a.th, .int .u64 a.tl, .int .u64 a.tw]) (.agg #[.int .u64 b.th, .int .u64 b.tl, .int .u64 b.tw]) false] ++ ([¬ ((a.ord : Int) ≠ (b.ord : Int))] ++ ([EqRun Try.prog .neq 4 (.tmp 20) (.tmp 22) (.bool false) (.bool false) false] ++ ([((a.n : Nat) : Int) ≠ ((b.n : Nat) : Int)])))) (alA (al1 (fq_ne_t (a := a.t) (b := b.t) q3)) (alA (al1 q5) (alA (al1 (bool_ne false false)) (al1 q13)))) (ds_ (t_ (sq_ (qa0 [] [] [(4, .bool false)] (ds_ (rt ([]) (.bool false) ?_))))))
            exact fun w' hw => ⟨by rw [so_l (fun h => by have := congrArg List.length h; omega)], hw.below⟩
          ·
            refine qa [(1, .go (owns 1 1 3)), (3, .go (owns 0 1 3)), (4, .eqs false), (7, .go (owns 1 4 1)), (9, .go (owns 0 4 1)), (10, .no), (14, .go (owns 1 5 1)), (16, .go (owns 0 5 1)), (17, .eqs false), (21, .go (owns 1 0 1)), (24, .go (owns 0 0 1)), (26, .no)] [2, 3] [(33, .bool false)] ([EqRun Try.prog .neq 45 (.tmp 7) (.tmp 9) (.agg #[.int .u64 a.th, .int .u64 a.tl, .int .u64 a.tw]) (.agg #[.int .u64 b.th, .int .u64 b.tl, .int .u64 b.tw]) false] ++ ([¬ ((a.ord : Int) ≠ (b.ord : Int))] ++ ([EqRun Try.prog .neq 4 (.tmp 20) (.tmp 22) (.bool false) (.bool false) false] ++ ([¬ (((a.n : Nat) : Int) ≠ ((b.n : Nat) : Int))])))) (alA (al1 (fq_ne_t (a := a.t) (b := b.t) q3)) (alA (al1 q5) (alA (al1 (bool_ne false false)) (al1 q13)))) (ds_ (f_ (at_skip (ds_ (sq_ (sq_ (qa0 [(1, .go (owns 1 0 1))] [2, 3] [(36, .int .i64 (a.n : Nat)), (37, .int .i64 0)] (ds_ (at_block (at_loop (α := Nat) [2, 3, 36, 37] (fun j => [(2, .pointer (some ⟨γ1 0, 0, none⟩)), (3, .pointer (some ⟨γ1 1, 0, none⟩)), (36, .int .i64 (a.n : Nat)), (37, .int .i64 (j : Nat))]) (fun j => [bx (γ1 1) (#[.slice b.p b.n b.cap, .int .u64 b.th, .int .u64 b.tl, .int .u64 b.tw, .int .u64 b.ord, .bool false]) 47, bx (γ1 0) (#[.slice a.p a.n a.cap, .int .u64 a.th, .int .u64 a.tl, .int .u64 a.tw, .int .u64 a.ord, .bool false]) 47]) (fun j => j ≤ a.n ∧ a.l.take j = b.l.take j) (fun j => a.n - j) 0 (by kernel_rfl) rfl ⟨Nat.zero_le _, rfl⟩ ?_))))))))))
            rintro j
            rintro ⟨hj, hI⟩
            refine sq_ ?_
            by_cases q19 : ((j : Nat) : Int) < ((a.n : Nat) : Int)
            ·
              refine qa [(0, .yes)] [2, 3, 36, 37] [(38, .bool true)] ([((j : Nat) : Int) < ((a.n : Nat) : Int)]) (al1 q19) (ds_ (sq_ (t_ (at_skip (ds_ (sq_ (at_block (sq_ (qa0 [] [2, 3, 36, 37] [(5, .int .i64 (j : Nat))] (ds_ (sq_ ?_)))))))))))
              obtain ⟨b23, o23, hbo23⟩ := hsa.pos (i := j) (by omega)
              have hsv23 := hsa
              rw [hbo23] at hsv23
              obtain ⟨x25, hx25⟩ := get_some (l := a.l) (m := j) (by omega)
              obtain ⟨b27, o27, hbo27⟩ := hsb.pos (i := j) (by omega)
              have hsv27 := hsb
              rw [hbo27] at hsv27
              obtain ⟨x29, hx29⟩ := get_some (l := b.l) (m := j) (by omega)
              by_cases q31 : (x25 : Int) ≠ (x29 : Int)
              ·
                refine cq [(1, .go (owns 1 0 1)), (3, .at b23 o23 j), (4, .go (outs b23 (o23 + j * 1) [.int .i64 x25])), (6, .go (owns 0 0 1)), (8, .at b27 o27 j), (9, .go (outs b27 (o27 + j * 1) [.int .i64 x29])), (10, .yes)] [2, 3, 36, 37] [(50, .bool true)] ([(a.p : Option Addr) = some ⟨b23, o23, none⟩, (j : Nat) = ((j : Nat) : Int), j < a.n] ++ (cellsP w b23 (o23 + j * 1) [.int .i64 x25] ++ ([(b.p : Option Addr) = some ⟨b27, o27, none⟩, (j : Nat) = ((j : Nat) : Int), j < b.n] ++ (cellsP w b27 (o27 + j * 1) [.int .i64 x29] ++ ([(x25 : Int) ≠ (x29 : Int)]))))) rfl (by kernel_rfl) (by kernel_rfl) (by kernel_rfl) (alA (al2 hbo23 (al2 rfl (al1 (by omega)))) (alA (rd_pre (hsv23.get hx25) _ rfl) (alA (al2 hbo27 (al2 rfl (al1 (by omega)))) (alA (rd_pre (hsv27.get hx29) _ rfl) (al1 q31))))) (ds_ (t_ (sq_ (qa0 [] [] [(4, .bool false)] (ds_ (rt ([]) (.bool false) ?_))))))
                exact fun w' hw => ⟨by rw [so_l (of_decide_eq_false (dsame_no hx25 hx29 (by omega)).symm)], hw.below⟩
              ·
                refine cq [(1, .go (owns 1 0 1)), (3, .at b23 o23 j), (4, .go (outs b23 (o23 + j * 1) [.int .i64 x25])), (6, .go (owns 0 0 1)), (8, .at b27 o27 j), (9, .go (outs b27 (o27 + j * 1) [.int .i64 x29])), (10, .no)] [2, 3, 36, 37] [(50, .bool false)] ([(a.p : Option Addr) = some ⟨b23, o23, none⟩, (j : Nat) = ((j : Nat) : Int), j < a.n] ++ (cellsP w b23 (o23 + j * 1) [.int .i64 x25] ++ ([(b.p : Option Addr) = some ⟨b27, o27, none⟩, (j : Nat) = ((j : Nat) : Int), j < b.n] ++ (cellsP w b27 (o27 + j * 1) [.int .i64 x29] ++ ([¬ ((x25 : Int) ≠ (x29 : Int))]))))) rfl (by kernel_rfl) (by kernel_rfl) (by kernel_rfl) (alA (al2 hbo23 (al2 rfl (al1 (by omega)))) (alA (rd_pre (hsv23.get hx25) _ rfl) (alA (al2 hbo27 (al2 rfl (al1 (by omega)))) (alA (rd_pre (hsv27.get hx29) _ rfl) (al1 q31))))) (ds_ (f_ (at_skip (done_block (ds_ (qa [(0, .fit)] [2, 3, 36] [(37, .int .i64 (j + 1 : Nat))] ([Fit .i64 ((j + 1 : Nat))]) (al1 (fit64 (by omega) (by omega))) ?_))))))
                exact dr [2, 3, 36, 37] (j + 1) ⟨by omega, dsame_on hI hx25 hx29 (by omega)⟩
            ·
              refine qa [(0, .no)] [2, 3, 36, 37] [(38, .bool false)] ([¬ (((j : Nat) : Int) < ((a.n : Nat) : Int))]) (al1 q19) (ds_ (sq_ (f_ (at_leave _ rfl (ds_ (sq_ (qa0 [] [] [(4, .bool true)] (ds_ (rt ([]) (.bool true) ?_)))))))))
              exact fun w' hw => ⟨by rw [so_yes q3 (by omega) (q9.trans q11.symm) (of_decide_eq_true (dsame_yes hI (by omega) (by omega)).symm)], hw.below⟩
        ·
          refine qa [(1, .go (owns 1 1 3)), (3, .go (owns 0 1 3)), (4, .eqs false), (7, .go (owns 1 4 1)), (9, .go (owns 0 4 1)), (10, .no), (14, .go (owns 1 5 1)), (16, .go (owns 0 5 1)), (17, .eqs true)] [2, 3] [(33, .bool true)] ([EqRun Try.prog .neq 45 (.tmp 7) (.tmp 9) (.agg #[.int .u64 a.th, .int .u64 a.tl, .int .u64 a.tw]) (.agg #[.int .u64 b.th, .int .u64 b.tl, .int .u64 b.tw]) false] ++ ([¬ ((a.ord : Int) ≠ (b.ord : Int))] ++ ([EqRun Try.prog .neq 4 (.tmp 20) (.tmp 22) (.bool false) (.bool true) true]))) (alA (al1 (fq_ne_t (a := a.t) (b := b.t) q3)) (alA (al1 q5) (al1 (bool_ne false true)))) (ds_ (t_ (sq_ (qa0 [] [] [(4, .bool false)] (ds_ (rt ([]) (.bool false) ?_))))))
          exact fun w' hw => ⟨by rw [so_f (fun h => by rw [q9, q11] at h; cases h)], hw.below⟩
      ·
        rcases q41 : b.fresh with _ | _
        ·
          refine qa [(1, .go (owns 1 1 3)), (3, .go (owns 0 1 3)), (4, .eqs false), (7, .go (owns 1 4 1)), (9, .go (owns 0 4 1)), (10, .no), (14, .go (owns 1 5 1)), (16, .go (owns 0 5 1)), (17, .eqs true)] [2, 3] [(33, .bool true)] ([EqRun Try.prog .neq 45 (.tmp 7) (.tmp 9) (.agg #[.int .u64 a.th, .int .u64 a.tl, .int .u64 a.tw]) (.agg #[.int .u64 b.th, .int .u64 b.tl, .int .u64 b.tw]) false] ++ ([¬ ((a.ord : Int) ≠ (b.ord : Int))] ++ ([EqRun Try.prog .neq 4 (.tmp 20) (.tmp 22) (.bool true) (.bool false) true]))) (alA (al1 (fq_ne_t (a := a.t) (b := b.t) q3)) (alA (al1 q5) (al1 (bool_ne true false)))) (ds_ (t_ (sq_ (qa0 [] [] [(4, .bool false)] (ds_ (rt ([]) (.bool false) ?_))))))
          exact fun w' hw => ⟨by rw [so_f (fun h => by rw [q9, q41] at h; cases h)], hw.below⟩
        ·
          by_cases q45 : ((a.n : Nat) : Int) ≠ ((b.n : Nat) : Int)
          ·
            refine qa [(1, .go (owns 1 1 3)), (3, .go (owns 0 1 3)), (4, .eqs false), (7, .go (owns 1 4 1)), (9, .go (owns 0 4 1)), (10, .no), (14, .go (owns 1 5 1)), (16, .go (owns 0 5 1)), (17, .eqs false), (21, .go (owns 1 0 1)), (24, .go (owns 0 0 1)), (26, .yes)] [2, 3] [(33, .bool true)] ([EqRun Try.prog .neq 45 (.tmp 7) (.tmp 9) (.agg #[.int .u64 a.th, .int .u64 a.tl, .int .u64 a.tw]) (.agg #[.int .u64 b.th, .int .u64 b.tl, .int .u64 b.tw]) false] ++ ([¬ ((a.ord : Int) ≠ (b.ord : Int))] ++ ([EqRun Try.prog .neq 4 (.tmp 20) (.tmp 22) (.bool true) (.bool true) false] ++ ([((a.n : Nat) : Int) ≠ ((b.n : Nat) : Int)])))) (alA (al1 (fq_ne_t (a := a.t) (b := b.t) q3)) (alA (al1 q5) (alA (al1 (bool_ne true true)) (al1 q45)))) (ds_ (t_ (sq_ (qa0 [] [] [(4, .bool false)] (ds_ (rt ([]) (.bool false) ?_))))))
            exact fun w' hw => ⟨by rw [so_l (fun h => by have := congrArg List.length h; omega)], hw.below⟩
          ·
            refine qa [(1, .go (owns 1 1 3)), (3, .go (owns 0 1 3)), (4, .eqs false), (7, .go (owns 1 4 1)), (9, .go (owns 0 4 1)), (10, .no), (14, .go (owns 1 5 1)), (16, .go (owns 0 5 1)), (17, .eqs false), (21, .go (owns 1 0 1)), (24, .go (owns 0 0 1)), (26, .no)] [2, 3] [(33, .bool false)] ([EqRun Try.prog .neq 45 (.tmp 7) (.tmp 9) (.agg #[.int .u64 a.th, .int .u64 a.tl, .int .u64 a.tw]) (.agg #[.int .u64 b.th, .int .u64 b.tl, .int .u64 b.tw]) false] ++ ([¬ ((a.ord : Int) ≠ (b.ord : Int))] ++ ([EqRun Try.prog .neq 4 (.tmp 20) (.tmp 22) (.bool true) (.bool true) false] ++ ([¬ (((a.n : Nat) : Int) ≠ ((b.n : Nat) : Int))])))) (alA (al1 (fq_ne_t (a := a.t) (b := b.t) q3)) (alA (al1 q5) (alA (al1 (bool_ne true true)) (al1 q45)))) (ds_ (f_ (at_skip (ds_ (sq_ (sq_ (qa0 [(1, .go (owns 1 0 1))] [2, 3] [(36, .int .i64 (a.n : Nat)), (37, .int .i64 0)] (ds_ (at_block (at_loop (α := Nat) [2, 3, 36, 37] (fun j => [(2, .pointer (some ⟨γ1 0, 0, none⟩)), (3, .pointer (some ⟨γ1 1, 0, none⟩)), (36, .int .i64 (a.n : Nat)), (37, .int .i64 (j : Nat))]) (fun j => [bx (γ1 1) (#[.slice b.p b.n b.cap, .int .u64 b.th, .int .u64 b.tl, .int .u64 b.tw, .int .u64 b.ord, .bool true]) 47, bx (γ1 0) (#[.slice a.p a.n a.cap, .int .u64 a.th, .int .u64 a.tl, .int .u64 a.tw, .int .u64 a.ord, .bool true]) 47]) (fun j => j ≤ a.n ∧ a.l.take j = b.l.take j) (fun j => a.n - j) 0 (by kernel_rfl) rfl ⟨Nat.zero_le _, rfl⟩ ?_))))))))))
            rintro j
            rintro ⟨hj, hI⟩
            refine sq_ ?_
            by_cases q51 : ((j : Nat) : Int) < ((a.n : Nat) : Int)
            ·
              refine qa [(0, .yes)] [2, 3, 36, 37] [(38, .bool true)] ([((j : Nat) : Int) < ((a.n : Nat) : Int)]) (al1 q51) (ds_ (sq_ (t_ (at_skip (ds_ (sq_ (at_block (sq_ (qa0 [] [2, 3, 36, 37] [(5, .int .i64 (j : Nat))] (ds_ (sq_ ?_)))))))))))
              obtain ⟨b55, o55, hbo55⟩ := hsa.pos (i := j) (by omega)
              have hsv55 := hsa
              rw [hbo55] at hsv55
              obtain ⟨x57, hx57⟩ := get_some (l := a.l) (m := j) (by omega)
              obtain ⟨b59, o59, hbo59⟩ := hsb.pos (i := j) (by omega)
              have hsv59 := hsb
              rw [hbo59] at hsv59
              obtain ⟨x61, hx61⟩ := get_some (l := b.l) (m := j) (by omega)
              by_cases q63 : (x57 : Int) ≠ (x61 : Int)
              ·
                refine cq [(1, .go (owns 1 0 1)), (3, .at b55 o55 j), (4, .go (outs b55 (o55 + j * 1) [.int .i64 x57])), (6, .go (owns 0 0 1)), (8, .at b59 o59 j), (9, .go (outs b59 (o59 + j * 1) [.int .i64 x61])), (10, .yes)] [2, 3, 36, 37] [(50, .bool true)] ([(a.p : Option Addr) = some ⟨b55, o55, none⟩, (j : Nat) = ((j : Nat) : Int), j < a.n] ++ (cellsP w b55 (o55 + j * 1) [.int .i64 x57] ++ ([(b.p : Option Addr) = some ⟨b59, o59, none⟩, (j : Nat) = ((j : Nat) : Int), j < b.n] ++ (cellsP w b59 (o59 + j * 1) [.int .i64 x61] ++ ([(x57 : Int) ≠ (x61 : Int)]))))) rfl (by kernel_rfl) (by kernel_rfl) (by kernel_rfl) (alA (al2 hbo55 (al2 rfl (al1 (by omega)))) (alA (rd_pre (hsv55.get hx57) _ rfl) (alA (al2 hbo59 (al2 rfl (al1 (by omega)))) (alA (rd_pre (hsv59.get hx61) _ rfl) (al1 q63))))) (ds_ (t_ (sq_ (qa0 [] [] [(4, .bool false)] (ds_ (rt ([]) (.bool false) ?_))))))
                exact fun w' hw => ⟨by rw [so_l (of_decide_eq_false (dsame_no hx57 hx61 (by omega)).symm)], hw.below⟩
              ·
                refine cq [(1, .go (owns 1 0 1)), (3, .at b55 o55 j), (4, .go (outs b55 (o55 + j * 1) [.int .i64 x57])), (6, .go (owns 0 0 1)), (8, .at b59 o59 j), (9, .go (outs b59 (o59 + j * 1) [.int .i64 x61])), (10, .no)] [2, 3, 36, 37] [(50, .bool false)] ([(a.p : Option Addr) = some ⟨b55, o55, none⟩, (j : Nat) = ((j : Nat) : Int), j < a.n] ++ (cellsP w b55 (o55 + j * 1) [.int .i64 x57] ++ ([(b.p : Option Addr) = some ⟨b59, o59, none⟩, (j : Nat) = ((j : Nat) : Int), j < b.n] ++ (cellsP w b59 (o59 + j * 1) [.int .i64 x61] ++ ([¬ ((x57 : Int) ≠ (x61 : Int))]))))) rfl (by kernel_rfl) (by kernel_rfl) (by kernel_rfl) (alA (al2 hbo55 (al2 rfl (al1 (by omega)))) (alA (rd_pre (hsv55.get hx57) _ rfl) (alA (al2 hbo59 (al2 rfl (al1 (by omega)))) (alA (rd_pre (hsv59.get hx61) _ rfl) (al1 q63))))) (ds_ (f_ (at_skip (done_block (ds_ (qa [(0, .fit)] [2, 3, 36] [(37, .int .i64 (j + 1 : Nat))] ([Fit .i64 ((j + 1 : Nat))]) (al1 (fit64 (by omega) (by omega))) ?_))))))
                exact dr [2, 3, 36, 37] (j + 1) ⟨by omega, dsame_on hI hx57 hx61 (by omega)⟩
            ·
              refine qa [(0, .no)] [2, 3, 36, 37] [(38, .bool false)] ([¬ (((j : Nat) : Int) < ((a.n : Nat) : Int))]) (al1 q51) (ds_ (sq_ (f_ (at_leave _ rfl (ds_ (sq_ (qa0 [] [] [(4, .bool true)] (ds_ (rt ([]) (.bool true) ?_)))))))))
              exact fun w' hw => ⟨by rw [so_yes q3 (by omega) (q9.trans q41.symm) (of_decide_eq_true (dsame_yes hI (by omega) (by omega)).symm)], hw.below⟩
  ·
    refine qa [(1, .go (owns 1 1 3)), (3, .go (owns 0 1 3)), (4, .eqs true)] [2, 3] [(33, .bool true)] ([EqRun Try.prog .neq 45 (.tmp 7) (.tmp 9) (.agg #[.int .u64 a.th, .int .u64 a.tl, .int .u64 a.tw]) (.agg #[.int .u64 b.th, .int .u64 b.tl, .int .u64 b.tw]) true]) (al1 (fq_ne_f (a := a.t) (b := b.t) q3)) (ds_ (t_ (sq_ (qa0 [] [] [(4, .bool false)] (ds_ (rt ([]) (.bool false) ?_))))))
    exact fun w' hw => ⟨by rw [so_t q3], hw.below⟩

set_option maxRecDepth 100000 in
theorem esame_t (q : Option Addr) (m capq : Nat) (al : List EnA) (q2 : Option Addr) (m2 capq2 : Nat) (bl : List EnA) (w : World)
    (hal : Sv w q al) (hma : m = al.length) (hbm : m ≤ 1000) (hnm : ∀ x ∈ al, x.Reads w)
    (hm9 : ∀ x ∈ al, x.n ≤ 1000)
    (hbl : Sv w q2 bl) (hma2 : m2 = bl.length) (hbm2 : m2 ≤ 1000) (hnm2 : ∀ x ∈ bl, x.Reads w)
    (hm92 : ∀ x ∈ bl, x.n ≤ 1000)
    : Calls Try.prog 15 #[.slice q m capq, .slice q2 m2 capq2] w fun e w' => e = .returned (.bool (decide ((al.map EnA.val) = (bl.map EnA.val)))) ∧ Below w.heap.size w w' := by
  refine enter (Hs.start w) Try.func15 rfl Try.ntmps15 rfl (sq_ (qa0 [] [0, 1] [] (ds_ (sq_ (sq_ ?_)))))
  by_cases q3 : ((m : Nat) : Int) ≠ ((m2 : Nat) : Int)
  ·
    refine qa [(4, .yes)] [0, 1] [(10, .bool true)] ([((m : Nat) : Int) ≠ ((m2 : Nat) : Int)]) (al1 q3) (ds_ (t_ (sq_ (qa0 [] [] [(4, .bool false)] (ds_ (rt ([]) (.bool false) ?_))))))
    exact fun w' hw => ⟨by rw [dsame_len (l := (al.map EnA.val)) (l2 := (bl.map EnA.val)) (by rw [List.length_map, List.length_map]; omega)], hw.below⟩
  ·
    refine qa [(4, .no)] [0, 1] [(10, .bool false)] ([¬ (((m : Nat) : Int) ≠ ((m2 : Nat) : Int))]) (al1 q3) (ds_ (f_ (at_skip (ds_ (sq_ (sq_ (qa0 [] [0, 1] [(12, .int .i64 (m : Nat)), (13, .int .i64 0)] (ds_ (at_block (at_loop (α := Nat) [0, 1, 12, 13] (fun j => [(0, .slice q m capq), (1, .slice q2 m2 capq2), (12, .int .i64 (m : Nat)), (13, .int .i64 (j : Nat))]) (fun j => []) (fun j => j ≤ m ∧ (al.map EnA.val).take j = (bl.map EnA.val).take j) (fun j => m - j) 0 (by kernel_rfl) rfl ⟨Nat.zero_le _, rfl⟩ ?_))))))))))
    rintro j
    rintro ⟨hj, hI⟩
    refine sq_ ?_
    by_cases q9 : ((j : Nat) : Int) < ((m : Nat) : Int)
    ·
      refine qa [(0, .yes)] [0, 1, 12, 13] [(14, .bool true)] ([((j : Nat) : Int) < ((m : Nat) : Int)]) (al1 q9) (ds_ (sq_ (t_ (at_skip (ds_ (sq_ (at_block (sq_ (qa0 [] [0, 1, 12, 13] [(5, .int .i64 (j : Nat))] (ds_ (sq_ ?_)))))))))))
      obtain ⟨b13, o13, rfl⟩ := hal.pos (i := j) (by omega)
      obtain ⟨x15, hx15⟩ := get_some (l := al) (m := j) (by omega)
      have hrx15 := hnm x15 (List.mem_of_getElem? hx15)
      have hsx15 : Sv w x15.p x15.l := hrx15.sv
      have hnx15 : x15.n = x15.l.length := hrx15.hn
      have hcx15 : x15.n ≤ x15.cap := hrx15.hc
      have hbx15 : x15.cap ≤ 9223372036854775807 := hrx15.hb
      have h9x15 := hm9 x15 (List.mem_of_getElem? hx15)
      obtain ⟨b17, o17, rfl⟩ := hbl.pos (i := j) (by omega)
      obtain ⟨x19, hx19⟩ := get_some (l := bl) (m := j) (by omega)
      have hrx19 := hnm2 x19 (List.mem_of_getElem? hx19)
      have hsx19 : Sv w x19.p x19.l := hrx19.sv
      have hnx19 : x19.n = x19.l.length := hrx19.hn
      have hcx19 : x19.n ≤ x19.cap := hrx19.hc
      have hbx19 : x19.cap ≤ 9223372036854775807 := hrx19.hb
      have h9x19 := hm92 x19 (List.mem_of_getElem? hx19)
      refine at_calm rfl (by kernel_rfl) (by kernel_rfl) ?_
      refine cm 8 [(2, .at b13 o13 j), (3, .go (outs b13 (o13 + j * 6) [.slice x15.p x15.n x15.cap, .int .u64 x15.th, .int .u64 x15.tl, .int .u64 x15.tw, .int .u64 x15.ord, .bool x15.fresh])), (6, .at b17 o17 j), (7, .go (outs b17 (o17 + j * 6) [.slice x19.p x19.n x19.cap, .int .u64 x19.th, .int .u64 x19.tl, .int .u64 x19.tw, .int .u64 x19.ord, .bool x19.fresh]))] [0, 1, 12, 13] [(19, .agg #[.slice x15.p x15.n x15.cap, .int .u64 x15.th, .int .u64 x15.tl, .int .u64 x15.tw, .int .u64 x15.ord, .bool x15.fresh]), (23, .agg #[.slice x19.p x19.n x19.cap, .int .u64 x19.th, .int .u64 x19.tl, .int .u64 x19.tw, .int .u64 x19.ord, .bool x19.fresh])] ([(some ⟨b13, o13, none⟩ : Option Addr) = some ⟨b13, o13, none⟩, (j : Nat) = ((j : Nat) : Int), j < m] ++ (cellsP w b13 (o13 + j * 6) [.slice x15.p x15.n x15.cap, .int .u64 x15.th, .int .u64 x15.tl, .int .u64 x15.tw, .int .u64 x15.ord, .bool x15.fresh] ++ ([(some ⟨b17, o17, none⟩ : Option Addr) = some ⟨b17, o17, none⟩, (j : Nat) = ((j : Nat) : Int), j < m2] ++ (cellsP w b17 (o17 + j * 6) [.slice x19.p x19.n x19.cap, .int .u64 x19.th, .int .u64 x19.tl, .int .u64 x19.tw, .int .u64 x19.ord, .bool x19.fresh])))) (by kernel_rfl) rfl (alA (al2 rfl (al2 rfl (al1 (by omega)))) (alA (rd_pre (hal.get hx15) _ rfl) (alA (al2 rfl (al2 rfl (al1 (by omega)))) (rd_pre (hbl.get hx19) _ rfl)))) ?_
      rcases q21 : decide (x15.val = x19.val) with _ | _
      ·
        refine cK (.bool false) Try.call27 (fun w hw => by have := sameone_t x15 x19 w (hsx15.kept hw.below) hnx15 h9x15 (hsx19.kept hw.below) hnx19 h9x19; rw [q21] at this; exact this) ?_
        refine cm 1 [] [0, 1, 12, 13] [(25, .bool true)] ([]) (by kernel_rfl) rfl al0 ?_
        refine calm_nil' ?_
        refine ds_ (t_ (sq_ (qa0 [] [] [(4, .bool false)] (ds_ (rt ([]) (.bool false) ?_)))))
        exact fun w' hw => ⟨by rw [dsame_no (map_at12 hx15) (map_at12 hx19) (of_decide_eq_false q21)], hw.below⟩
      ·
        refine cK (.bool true) Try.call27 (fun w hw => by have := sameone_t x15 x19 w (hsx15.kept hw.below) hnx15 h9x15 (hsx19.kept hw.below) hnx19 h9x19; rw [q21] at this; exact this) ?_
        refine cm 1 [] [0, 1, 12, 13] [(25, .bool false)] ([]) (by kernel_rfl) rfl al0 ?_
        refine calm_nil' ?_
        refine ds_ (f_ (at_skip (done_block (ds_ (qa [(0, .fit)] [0, 1, 12] [(13, .int .i64 (j + 1 : Nat))] ([Fit .i64 ((j + 1 : Nat))]) (al1 (fit64 (by omega) (by omega))) ?_)))))
        exact dr [0, 1, 12, 13] (j + 1) ⟨by omega, dsame_on hI (map_at12 hx15) (map_at12 hx19) (of_decide_eq_true q21)⟩
    ·
      refine qa [(0, .no)] [0, 1, 12, 13] [(14, .bool false)] ([¬ (((j : Nat) : Int) < ((m : Nat) : Int))]) (al1 q9) (ds_ (sq_ (f_ (at_leave _ rfl (ds_ (sq_ (qa0 [] [] [(4, .bool true)] (ds_ (rt ([]) (.bool true) ?_)))))))))
      exact fun w' hw => ⟨by rw [dsame_yes hI (by rw [List.length_map]; omega) (by rw [List.length_map]; omega)], hw.below⟩
end Go.Proofs.Ytoljahfofkmdaaa

/-! Order: the same rows. -/
namespace Go.Proofs.Ytoljahfofkmdaaa
open Go Go.RowKit
theorem wt_eqRun (op : BinOp) (hop : op = .eql ∨ op = .neq) (x y : Operand) (a b : Wt) (r : Bool) (hr : r = (if op = .eql then decide (a = b) else !decide (a = b))) : EqRun Try.prog op 51 x y (.agg #[.int .i64 a.id, .int .u64 a.ord, .bool a.fresh]) (.agg #[.int .i64 b.id, .int .u64 b.ord, .bool b.fresh]) r := by
 intro w
 subst hr
 have hS : Try.prog.underlying 51 = some (.struct (Try.prog.fieldsOf 51)) := by kernel_rfl
 have hp : Try.prog.stoodInHeld 51 = false := by kernel_rfl
 have hg : Try.prog.eqGuardType Try.prog.depth 51 = false := by kernel_rfl
 have key : (Op.equal 51 (.agg #[.int .i64 a.id, .int .u64 a.ord, .bool a.fresh]) (.agg #[.int .i64 b.id, .int .u64 b.ord, .bool b.fresh])).run Try.prog w = .ok (decide (a = b)) w := by
  unfold Op.equal
  rw [show Op.maxDepth = 9999 + 1 from rfl, run_equalIn_struct w 9999 51 _ _ hS hp]
  simp only [Program.fieldsOf, Try.underlying51]
  go_simp
  obtain ⟨a0, a1, a2⟩ := a
  obtain ⟨b0, b1, b2⟩ := b
  simp only [Wt.mk.injEq]
  by_cases h0 : a0 = b0 <;> by_cases h1 : a1 = b1 <;> by_cases h2 : a2 = b2 <;> simp [h0, h1, h2]
 have guard : (eqGuard op 51 x y (.agg #[.int .i64 a.id, .int .u64 a.ord, .bool a.fresh]) (.agg #[.int .i64 b.id, .int .u64 b.ord, .bool b.fresh])).run Try.prog w = .ok () w := by
  unfold eqGuard
  rcases hop with rfl | rfl <;> simp [hg]
 rw [Sem.run_bind, guard]
 simp only [Result.andThen_ok]
 rcases hop with rfl | rfl <;> simp [binOp, Sem.run_bind, key]
theorem wt_ne_t {x y : Operand} {a b : Wt} (h : a = b) : EqRun Try.prog .neq 51 x y (.agg #[.int .i64 a.id, .int .u64 a.ord, .bool a.fresh]) (.agg #[.int .i64 b.id, .int .u64 b.ord, .bool b.fresh]) false := wt_eqRun _ (.inr rfl) x y a b _ (by simp [h])
set_option maxRecDepth 100000 in
theorem rowsame_t (p : Option Addr) (n cap : Nat) (p2 : Option Addr) (n2 cap2 : Nat) (ts : List Rn) (pw : Option Addr) (nw capw : Nat) (pw2 : Option Addr) (nw2 capw2 : Nat) (ws : List Wt) (q : Option Addr) (m capq : Nat) (al : List IntsA) (q2 : Option Addr) (m2 capq2 : Nat) (bl : List IntsA) (w : World)
 (hts : Sv w p ts) (hn : n = ts.length) (hb : n ≤ 1000)
 (hts2 : Sv w p2 ts) (hn2 : n2 = ts.length) (hb2 : n2 ≤ 1000)
 (hws : Sv w pw ws) (hnw : nw = ws.length) (hbw : nw ≤ 1000)
 (hws2 : Sv w pw2 ws) (hnw2 : nw2 = ws.length) (hbw2 : nw2 ≤ 1000)
 (hal : Sv w q al) (hma : m = al.length) (hbm : m ≤ 1000) (hnm : ∀ x ∈ al, x.Reads w) (hm9 : ∀ x ∈ al, x.n ≤ 1000)
 (hbl : Sv w q2 bl) (hmb : m2 = bl.length) (hbm2 : m2 ≤ 1000) (hnm2 : ∀ x ∈ bl, x.Reads w) (hm92 : ∀ x ∈ bl, x.n ≤ 1000)
 (hg : bl.map IntsA.l = al.map IntsA.l)
 : Calls Try.prog 14 #[.agg #[.slice p n cap, .slice pw nw capw, .slice q m capq], .agg #[.slice p2 n2 cap2, .slice pw2 nw2 capw2, .slice q2 m2 capq2]] w fun e w' => e = .returned (.bool true) ∧ Below w.heap.size w w' := by
 refine enter (Hs.start w) Try.func14 rfl Try.ntmps14 rfl (sq_ (ma0 [] [] (fun γ1 => [(2, .pointer (some ⟨γ1 0, 0, none⟩)), (3, .pointer (some ⟨γ1 1, 0, none⟩))]) (fun γ1 L => bx (γ1 1) (#[.slice p2 n2 cap2, .slice pw2 nw2 capw2, .slice q2 m2 capq2]) 30 :: bx (γ1 0) (#[.slice p n cap, .slice pw nw capw, .slice q m capq]) 30 :: L) (fun γ1 => ds_ (sq_ (sq_ ?_)))))
 have hlg : bl.length = al.length := by have := congrArg List.length hg; rwa [List.length_map, List.length_map] at this
 refine ao_ (qo0 4 [(1, .go (owns 1 0 1)), (3, .go (owns 0 0 1))] [2, 3] [(8, .agg #[.slice p n cap]), (10, .agg #[.slice p2 n2 cap2])] (cD (.bool true) Try.call42 (fun w hw => by have := rsame_t p n cap ts p2 n2 cap2 ts w (hts.kept hw.below) hn (by omega) (hts2.kept hw.below) hn2 (by omega); rw [decide_eq_true rfl] at this; exact this) ?_))
 by_cases q4 : ((nw : Nat) : Int) ≠ ((nw2 : Nat) : Int)
 ·
  refine qo 19 [(8, .go (owns 1 1 1)), (11, .go (owns 0 1 1)), (13, .yes)] [2, 3] [(30, .bool true)] ([((nw : Nat) : Int) ≠ ((nw2 : Nat) : Int)]) (al1 q4) (on_ (ds_ (t_ (sq_ (qa0 [] [] [(4, .bool false)] (ds_ (rt ([]) (.bool false) ?_)))))))
  exfalso
  omega
 ·
  by_cases q8 : ((m : Nat) : Int) ≠ ((m2 : Nat) : Int)
  ·
   refine qo 19 [(8, .go (owns 1 1 1)), (11, .go (owns 0 1 1)), (13, .no), (17, .go (owns 1 2 1)), (20, .go (owns 0 2 1)), (22, .yes)] [2, 3] [(30, .bool true)] ([¬ (((nw : Nat) : Int) ≠ ((nw2 : Nat) : Int))] ++ ([((m : Nat) : Int) ≠ ((m2 : Nat) : Int)])) (alA (al1 q4) (al1 q8)) (on_ (ds_ (t_ (sq_ (qa0 [] [] [(4, .bool false)] (ds_ (rt ([]) (.bool false) ?_)))))))
   exfalso
   omega
  ·
   refine qo 19 [(8, .go (owns 1 1 1)), (11, .go (owns 0 1 1)), (13, .no), (17, .go (owns 1 2 1)), (20, .go (owns 0 2 1)), (22, .no)] [2, 3] [(30, .bool false)] ([¬ (((nw : Nat) : Int) ≠ ((nw2 : Nat) : Int))] ++ ([¬ (((m : Nat) : Int) ≠ ((m2 : Nat) : Int))])) (alA (al1 q4) (al1 q8)) (on_ (ds_ (f_ (at_skip (ds_ (sq_ (sq_ (qa0 [(1, .go (owns 1 1 1))] [2, 3] [(33, .int .i64 (nw : Nat)), (34, .int .i64 0)] (ds_ (at_block (at_loop (α := Nat) [2, 3, 33, 34] (fun j => [(2, .pointer (some ⟨γ1 0, 0, none⟩)), (3, .pointer (some ⟨γ1 1, 0, none⟩)), (33, .int .i64 (nw : Nat)), (34, .int .i64 (j : Nat))]) (fun j => [bx (γ1 1) (#[.slice p2 n2 cap2, .slice pw2 nw2 capw2, .slice q2 m2 capq2]) 30, bx (γ1 0) (#[.slice p n cap, .slice pw nw capw, .slice q m capq]) 30]) (fun j => j ≤ nw) (fun j => nw - j) 0 (by kernel_rfl) rfl (Nat.zero_le _) ?_)))))))))))
   rintro j
   intro hj
   refine sq_ ?_
   by_cases q14 : ((j : Nat) : Int) < ((nw : Nat) : Int)
   ·
    refine qa [(0, .yes)] [2, 3, 33, 34] [(35, .bool true)] ([((j : Nat) : Int) < ((nw : Nat) : Int)]) (al1 q14) (ds_ (sq_ (t_ (at_skip (ds_ (sq_ (at_block (sq_ (qa0 [] [2, 3, 33, 34] [(5, .int .i64 (j : Nat))] (ds_ (sq_ ?_)))))))))))
    obtain ⟨b18, o18, rfl⟩ := hws.pos (i := j) (by omega)
    obtain ⟨x20, hx20⟩ := get_some (l := ws) (m := j) (by omega)
    obtain ⟨b22, o22, rfl⟩ := hws2.pos (i := j) (by omega)
    refine cq [(1, .go (owns 1 1 1)), (3, .at b18 o18 j), (4, .go (outs b18 (o18 + j * 3) [.int .i64 x20.id, .int .u64 x20.ord, .bool x20.fresh])), (6, .go (owns 0 1 1)), (8, .at b22 o22 j), (9, .go (outs b22 (o22 + j * 3) [.int .i64 x20.id, .int .u64 x20.ord, .bool x20.fresh])), (10, .eqs false)] [2, 3, 33, 34] [(47, .bool false)] ([(some ⟨b18, o18, none⟩ : Option Addr) = some ⟨b18, o18, none⟩, (j : Nat) = ((j : Nat) : Int), j < nw] ++ (cellsP w b18 (o18 + j * 3) [.int .i64 x20.id, .int .u64 x20.ord, .bool x20.fresh] ++ ([(some ⟨b22, o22, none⟩ : Option Addr) = some ⟨b22, o22, none⟩, (j : Nat) = ((j : Nat) : Int), j < nw2] ++ (cellsP w b22 (o22 + j * 3) [.int .i64 x20.id, .int .u64 x20.ord, .bool x20.fresh] ++ ([EqRun Try.prog .neq 51 (.tmp 41) (.tmp 46) (.agg #[.int .i64 x20.id, .int .u64 x20.ord, .bool x20.fresh]) (.agg #[.int .i64 x20.id, .int .u64 x20.ord, .bool x20.fresh]) false]))))) rfl (by kernel_rfl) (by kernel_rfl) (by kernel_rfl) (alA (al2 rfl (al2 rfl (al1 (by omega)))) (alA (rd_pre (hws.get hx20) _ rfl) (alA (al2 rfl (al2 rfl (al1 (by omega)))) (alA (rd_pre (hws2.get hx20) _ rfl) (al1 (wt_ne_t (a := x20) (b := x20) rfl)))))) (ds_ (f_ (at_skip (done_block (ds_ (qa [(0, .fit)] [2, 3, 33] [(34, .int .i64 (j + 1 : Nat))] ([Fit .i64 ((j + 1 : Nat))]) (al1 (fit64 (by omega) (by omega))) ?_))))))
    exact done_round [2, 3, 33, 34] (j + 1) (by kernel_rfl) rfl (by show j + 1 ≤ nw; omega) (by first | omega | (simp only; omega))
   ·
    refine qa [(0, .no)] [2, 3, 33, 34] [(35, .bool false)] ([¬ (((j : Nat) : Int) < ((nw : Nat) : Int))]) (al1 q14) (ds_ (sq_ (f_ (at_leave _ rfl (ds_ (sq_ (sq_ (qa0 [(1, .go (owns 1 2 1))] [2, 3] [(51, .int .i64 (m : Nat)), (52, .int .i64 0)] (ds_ (at_block (at_loop (α := Nat) [2, 3, 51, 52] (fun j => [(2, .pointer (some ⟨γ1 0, 0, none⟩)), (3, .pointer (some ⟨γ1 1, 0, none⟩)), (51, .int .i64 (m : Nat)), (52, .int .i64 (j : Nat))]) (fun j => [bx (γ1 1) (#[.slice p2 n2 cap2, .slice pw2 nw2 capw2, .slice q2 m2 capq2]) 30, bx (γ1 0) (#[.slice p n cap, .slice pw nw capw, .slice q m capq]) 30]) (fun j => j ≤ m) (fun j => m - j) 0 (by kernel_rfl) rfl (Nat.zero_le _) ?_)))))))))))
    rintro j
    intro hj
    refine sq_ ?_
    by_cases q28 : ((j : Nat) : Int) < ((m : Nat) : Int)
    ·
     refine qa [(0, .yes)] [2, 3, 51, 52] [(53, .bool true)] ([((j : Nat) : Int) < ((m : Nat) : Int)]) (al1 q28) (ds_ (sq_ (t_ (at_skip (ds_ (sq_ (at_block (sq_ (qa0 [] [2, 3, 51, 52] [(6, .int .i64 (j : Nat))] (ds_ (sq_ ?_)))))))))))
     obtain ⟨b32, o32, rfl⟩ := hal.pos (i := j) (by omega)
     obtain ⟨x34, hx34⟩ := get_some (l := al) (m := j) (by omega)
     obtain ⟨hsx34, hnx34, hcx34, hbx34⟩ := hnm x34 (List.mem_of_getElem? hx34)
     have h9x34 := hm9 x34 (List.mem_of_getElem? hx34)
     obtain ⟨b36, o36, rfl⟩ := hbl.pos (i := j) (by omega)
     obtain ⟨x38, hx38⟩ := get_some (l := bl) (m := j) (by omega)
     obtain ⟨hsx38, hnx38, hcx38, hbx38⟩ := hnm2 x38 (List.mem_of_getElem? hx38)
     have h9x38 := hm92 x38 (List.mem_of_getElem? hx38)
     refine at_calm rfl (by kernel_rfl) (by kernel_rfl) ?_
     refine cm 12 [(1, .go (owns 1 2 1)), (3, .at b32 o32 j), (4, .go (outs b32 (o32 + j * 1) [.slice x34.p x34.n x34.cap])), (7, .go (owns 0 2 1)), (9, .at b36 o36 j), (10, .go (outs b36 (o36 + j * 1) [.slice x38.p x38.n x38.cap]))] [2, 3, 51, 52] [(60, .agg #[.slice x34.p x34.n x34.cap, .int .u64 0, .int .u64 0, .int .u64 0, .int .u64 0, .bool false]), (66, .agg #[.slice x38.p x38.n x38.cap, .int .u64 0, .int .u64 0, .int .u64 0, .int .u64 0, .bool false])] ([(some ⟨b32, o32, none⟩ : Option Addr) = some ⟨b32, o32, none⟩, (j : Nat) = ((j : Nat) : Int), j < m] ++ (cellsP w b32 (o32 + j * 1) [.slice x34.p x34.n x34.cap] ++ ([(some ⟨b36, o36, none⟩ : Option Addr) = some ⟨b36, o36, none⟩, (j : Nat) = ((j : Nat) : Int), j < m2] ++ (cellsP w b36 (o36 + j * 1) [.slice x38.p x38.n x38.cap])))) (by kernel_rfl) rfl (alA (al2 rfl (al2 rfl (al1 (by omega)))) (alA (rd_pre (hal.get hx34) _ rfl) (alA (al2 rfl (al2 rfl (al1 (by omega)))) (rd_pre (hbl.get hx38) _ rfl)))) ?_
     refine cK (.bool true) Try.call27 (fun w hw => by have := sameone_t (⟨x34.p, x34.n, x34.cap, x34.l, 0, 0, 0, 0, false⟩ : EnA) (⟨x38.p, x38.n, x38.cap, x38.l, 0, 0, 0, 0, false⟩ : EnA) w (hsx34.kept hw.below) hnx34 h9x34 (hsx38.kept hw.below) hnx38 h9x38; rw [show decide ((⟨x34.p, x34.n, x34.cap, x34.l, 0, 0, 0, 0, false⟩ : EnA).val = (⟨x38.p, x38.n, x38.cap, x38.l, 0, 0, 0, 0, false⟩ : EnA).val) = true from only_mem (at_sameI rfl hg hx34 hx38)] at this; exact this) ?_
     refine cm 1 [] [2, 3, 51, 52] [(68, .bool false)] ([]) (by kernel_rfl) rfl al0 ?_
     refine calm_nil' ?_
     refine ds_ (f_ (at_skip (done_block (ds_ (qa [(0, .fit)] [2, 3, 51] [(52, .int .i64 (j + 1 : Nat))] ([Fit .i64 ((j + 1 : Nat))]) (al1 (fit64 (by omega) (by omega))) ?_)))))
     exact done_round [2, 3, 51, 52] (j + 1) (by kernel_rfl) rfl (by show j + 1 ≤ m; omega) (by first | omega | (simp only; omega))
    ·
     refine qa [(0, .no)] [2, 3, 51, 52] [(53, .bool false)] ([¬ (((j : Nat) : Int) < ((m : Nat) : Int))]) (al1 q28) (ds_ (sq_ (f_ (at_leave _ rfl (ds_ (sq_ (qa0 [] [] [(4, .bool true)] (ds_ (rt ([]) (.bool true) ?_)))))))))
     exact fun w' hw => ⟨rfl, hw.below⟩
end Go.Proofs.Ytoljahfofkmdaaa

/-! The document's entities without gangs; plain. -/
namespace Go.Proofs.Ytoljahfofkmdaaa
open Go Go.RowKit

/-- Who is fresh, as a map. -/
def frD (ws : List Wt) (j : Nat) : List (Int × Bool) := (ws.take j).foldl (fun D w => mupd D w.id w.fresh) []
section
variable {ts : List Rn} {ws : List Wt} {i j : Nat} {x y : En} {v : Wt} {c : Int} {p : Pr}
theorem single_t : (entO [p]).t = p.r.t := by
  show (oneS ⟨[], p.r.t, p.w.ord, true⟩ p).t = p.r.t
  unfold oneS
  simp only [ite_self]
theorem single_f : (entO [p]).fresh = p.w.fresh := by
  show (true && p.w.fresh) = p.w.fresh
  rw [Bool.true_and]
end
end Go.Proofs.Ytoljahfofkmdaaa

/-! The document's looks at what is put in order; plain. -/
namespace Go.Proofs.Ytoljahfofkmdaaa
open Go Go.RowKit

section
variable {ts : List Rn} {ws : List Wt} {gs : List (List Int)} {g met : List Int} {x : Rn} {y z : Wt} {j i k : Nat} {c la : Int}
theorem mo_no (h1 : ¬ y.ord < 1) (hI : ∀ (t : Nat) (z : Wt), t < k → ws[t]? = some z → ¬ z.ord = y.ord) (hk : j ≤ k) : decide (y.ord ∈ metO ws j) = false := by
  refine decide_eq_false fun h => ?_
  unfold metO at h
  rcases List.mem_cons.1 h with e | h
  · omega
  · obtain ⟨z, hz, e⟩ := List.mem_map.1 h
    obtain ⟨t, ht⟩ := List.mem_iff_getElem?.1 hz
    rw [List.getElem?_take] at ht
    split at ht
    · exact hI t z (by omega) ht e
    · cases ht
theorem mo_yes (hz : ws[k]? = some z) (hk : k < j) (e : z.ord = y.ord) : ¬ decide (y.ord ∈ metO ws j) = false := by
  rw [decide_eq_false_iff_not, Classical.not_not, ← e]
  unfold metO
  refine List.mem_cons_of_mem _ (List.mem_map_of_mem (List.mem_of_getElem? (i := k) ?_))
  rw [List.getElem?_take, if_pos hk]; exact hz
theorem mo_zero (h : y.ord = 0) : ¬ decide (y.ord ∈ metO ws j) = false := by
  rw [decide_eq_false_iff_not, Classical.not_not, h]
  exact List.mem_cons_self ..
theorem take_at {α : Type} {l : List α} {a : α} (h : (l.take j)[k]? = some a) : l[k]? = some a ∧ k < j := by
  rw [List.getElem?_take] at h
  split at h
  · next hk => exact ⟨h, hk⟩
  · cases h
/-- What the gangs ahead and the members ahead have not. -/
theorem mg_no (hI : ∀ (t : Nat) (h : List Int), t < k → gs[t]? = some h → decide (c ∈ h) = false) (hk : j ≤ k) (hL : ∀ y ∈ g.take i, y ≤ la) (h : la < c) : decide (c ∈ metG gs j ++ g.take i) = false := by
  refine decide_eq_false fun hm => ?_
  rcases List.mem_append.1 hm with hm | hm
  · unfold metG at hm
    obtain ⟨h0, hh, hc⟩ := List.mem_flatten.1 hm
    obtain ⟨t, ht⟩ := List.mem_iff_getElem?.1 hh
    obtain ⟨h1, h2⟩ := take_at ht
    have := hI t h0 (by omega) h1
    exact of_decide_eq_false this hc
  · have := hL c hm; omega
theorem mg_yes {h0 : List Int} (hz : gs[k]? = some h0) (hk : k < j) (e : decide (c ∈ h0) = true) : ¬ decide (c ∈ metG gs j ++ g.take i) = false := by
  rw [decide_eq_false_iff_not, Classical.not_not]
  refine List.mem_append_left _ ?_
  unfold metG
  refine List.mem_flatten.2 ⟨h0, List.mem_of_getElem? (i := k) ?_, of_decide_eq_true e⟩
  rw [List.getElem?_take, if_pos hk]; exact hz
theorem le_on (hL : ∀ y ∈ g.take i, y ≤ la) (hx : g[i]? = some c) (h : la < c) : ∀ y ∈ g.take (i + 1), y ≤ c := fun y hy => by
  rw [take_one hx] at hy
  rcases List.mem_append.1 hy with h1 | h1
  · have := hL y h1; omega
  · have := List.mem_singleton.1 h1; omega
end
end Go.Proofs.Ytoljahfofkmdaaa

/-! The document's entity of some members; the document's order; plain. -/
namespace Go.Proofs.Ytoljahfofkmdaaa
open Go Go.RowKit

/-- The entity of some runners, be there any. -/
def entR (F : List Pr) : En := if F.isEmpty then ⟨[], zF, 0, true⟩ else entO F
def selF (zs : List Pr) (m : List Int) (j : Nat) : List Pr := (zs.take j).filter fun p => decide (p.r.id ∈ m)
def memS (zs : List Pr) (m : List Int) (j : Nat) : List Int := (selF zs m j).map fun p => p.r.id
section
variable {zs F : List Pr} {m mem : List Int} {j n : Nat} {p : Pr} {f : Fq} {od : Int} {fb : Bool}
theorem sel_no (hz : zs[j]? = some p) (h : decide (p.r.id ∈ m) = false) : selF zs m (j + 1) = selF zs m j := by
  unfold selF
  rw [take_one hz, List.filter_append]
  simp [of_decide_eq_false h]
theorem sel_yes (hz : zs[j]? = some p) (h : decide (p.r.id ∈ m) = true) : selF zs m (j + 1) = selF zs m j ++ [p] := by
  unfold selF
  rw [take_one hz, List.filter_append]
  simp [of_decide_eq_true h]
theorem mems_no (hz : zs[j]? = some p) (h : decide (p.r.id ∈ m) = false) : memS zs m (j + 1) = memS zs m j := by unfold memS; rw [sel_no hz h]
theorem mems_yes (hz : zs[j]? = some p) (h : decide (p.r.id ∈ m) = true) : memS zs m (j + 1) = memS zs m j ++ [p.r.id] := by unfold memS; rw [sel_yes hz h, List.map_append]; rfl
theorem entR_mem : (entR F).mem = F.map fun p => p.r.id := by
  unfold entR
  split
  · next h => rw [List.isEmpty_iff.1 h]; rfl
  · exact one_mem
theorem single_o : (entO [p]).ord = p.w.ord := by
  show (oneS ⟨[], p.r.t, p.w.ord, true⟩ p).ord = p.w.ord
  unfold oneS
  simp only [ite_self]
theorem ent_first (h : entR F = ⟨mem, f, od, fb⟩) (h0 : F = []) : entR (F ++ [p]) = ⟨mem ++ [p.r.id], p.r.t, p.w.ord, fb && p.w.fresh⟩ := by
  subst h0
  have e : (⟨[], zF, 0, true⟩ : En) = ⟨mem, f, od, fb⟩ := h
  cases e
  show entO [p] = _
  have e2 : entO [p] = ⟨(entO [p]).mem, (entO [p]).t, (entO [p]).ord, (entO [p]).fresh⟩ := rfl
  rw [e2, single_t, single_o, single_f, one_mem, Bool.true_and]
  rfl
theorem ent_more (h : entR F = ⟨mem, f, od, fb⟩) (h0 : F ≠ []) : entR (F ++ [p]) = ⟨mem ++ [p.r.id], if 0 < cmpF p.r.t f then p.r.t else f, if p.w.ord < od then p.w.ord else od, fb && p.w.fresh⟩ := by
  have e1 : entR F = entO F := by unfold entR; rw [if_neg (by simpa using h0)]
  have e2 : entR (F ++ [p]) = entO (F ++ [p]) := by unfold entR; rw [if_neg (by simp)]
  rw [e1] at h
  rw [e2]
  unfold entO
  have e3 : oneI (F ++ [p]) = oneI F := by
    cases F with
    | nil => exact absurd rfl h0
    | cons a r => rfl
  rw [e3, List.foldl_append]
  have e4 : F.foldl oneS (oneI F) = ⟨mem, f, od, fb⟩ := h
  rw [e4]
  rfl
theorem sel_nil (h : (memS zs m j).length = 0) : selF zs m j = [] := by unfold memS at h; rw [List.length_map] at h; exact List.length_eq_zero_iff.1 h
theorem sel_ne (h : ¬ (memS zs m j).length = 0) : selF zs m j ≠ [] := fun e => h (by unfold memS; rw [e]; rfl)
theorem sel_all (hj : zs.length ≤ j) : selF zs m j = zs.filter fun p => decide (p.r.id ∈ m) := by unfold selF; rw [List.take_of_length_le hj]
end
end Go.Proofs.Ytoljahfofkmdaaa

/-! The document's order, put together one by one; plain. -/
namespace Go.Proofs.Ytoljahfofkmdaaa
open Go Go.RowKit

def insA (x : EnA) : List EnA → List EnA
  | [] => [x]
  | y :: r => if aheadE x.val y.val = true then x :: y :: r else y :: insA x r
section
variable {l r : List EnA} {x y : EnA} {k : Nat} {T : TypeId} {Y Yi L : List Ob} {w w0 : World}
theorem insA_val : ∀ {l : List EnA}, (insA x l).map EnA.val = insE x.val (l.map EnA.val)
  | [] => rfl
  | y :: r => by
    unfold insA
    rw [List.map_cons, insE]
    split
    · rfl
    · rw [List.map_cons, insA_val]
theorem insA_perm : ∀ {l : List EnA}, (insA x l).Perm (x :: l)
  | [] => .refl _
  | y :: r => by
    unfold insA
    split
    · exact .refl _
    · exact (insA_perm.cons y).trans (.swap x y r)
theorem insA_none : ∀ {l : List EnA}, (∀ y ∈ l, aheadE x.val y.val = false) → insA x (l ++ r) = l ++ insA x r
  | [], _ => rfl
  | y :: l, h => by
    rw [List.cons_append, insA, if_neg (by rw [h y (List.mem_cons_self ..)]; decide), insA_none fun z hz => h z (List.mem_cons_of_mem _ hz)]
    rfl
theorem insA_some : ∀ {l : List EnA}, (∃ y ∈ l, aheadE x.val y.val = true) → insA x (l ++ r) = insA x l ++ r
  | [], h => by obtain ⟨y, hy, _⟩ := h; cases hy
  | y :: l, h => by
    rw [List.cons_append, insA, insA]
    split
    · rfl
    · next hn =>
      rw [List.cons_append]
      congr 1
      refine insA_some ?_
      obtain ⟨z, hz, he⟩ := h
      rcases List.mem_cons.1 hz with rfl | hz
      · exact absurd he hn
      · exact ⟨z, hz, he⟩
/-- The row that is being made: so far none was found behind x, or x is in. -/
def NxA (x : EnA) (l : List EnA) (k : Nat) (dn : Bool) (nl : List EnA) : Prop := (dn = false → (∀ y ∈ l.take k, aheadE x.val y.val = false) ∧ nl = l.take k) ∧ (dn = true → (∃ y ∈ l.take k, aheadE x.val y.val = true) ∧ nl = insA x (l.take k))
variable {dn : Bool} {nl : List EnA}
theorem nx_0 : NxA x l 0 false [] := ⟨fun _ => ⟨(fun y hy => by rw [List.take_zero] at hy; cases hy), by rw [List.take_zero]⟩, (fun h => by cases h)⟩
theorem nx_done (h : NxA x l k dn nl) (hd : dn = true) (hy : l[k]? = some y) : NxA x l (k + 1) true (nl ++ [y]) := by
  obtain ⟨h1, h2⟩ := h.2 hd
  refine ⟨(fun e => by cases e), fun _ => ⟨?_, ?_⟩⟩
  · obtain ⟨z, hz, he⟩ := h1
    exact ⟨z, by rw [take_one hy]; exact List.mem_append_left _ hz, he⟩
  · rw [take_one hy, insA_some h1, h2]
theorem nx_in (h : NxA x l k dn nl) (hd : dn = false) (hy : l[k]? = some y) (ha : aheadE x.val y.val = true) : NxA x l (k + 1) true ((nl ++ [x]) ++ [y]) := by
  obtain ⟨h1, h2⟩ := h.1 hd
  refine ⟨(fun e => by cases e), fun _ => ⟨⟨y, by rw [take_one hy]; exact List.mem_append_right _ (List.mem_singleton.2 rfl), ha⟩, ?_⟩⟩
  rw [take_one hy, insA_none h1, h2, insA, if_pos ha, List.append_assoc]
  rfl
theorem nx_on (h : NxA x l k dn nl) (hd : dn = false) (hy : l[k]? = some y) (ha : aheadE x.val y.val = false) : NxA x l (k + 1) false (nl ++ [y]) := by
  obtain ⟨h1, h2⟩ := h.1 hd
  refine ⟨fun _ => ⟨fun z hz => ?_, by rw [take_one hy, h2]⟩, (fun e => by cases e)⟩
  rw [take_one hy] at hz
  rcases List.mem_append.1 hz with h3 | h3
  · exact h1 z h3
  · rw [List.mem_singleton.1 h3]; exact ha
theorem nx_end1 (h : NxA x l k dn nl) (hd : dn = true) (hk : l.length ≤ k) : nl = insA x l := by
  have := (h.2 hd).2
  rwa [List.take_of_length_le hk] at this
theorem nx_end0 (h : NxA x l k dn nl) (hd : dn = false) (hk : l.length ≤ k) : nl ++ [x] = insA x l := by
  obtain ⟨h1, h2⟩ := h.1 hd
  rw [List.take_of_length_le hk] at h1 h2
  have := insA_none (r := []) h1
  rw [List.append_nil] at this
  rw [this, h2]; rfl
theorem ent_reads (h : SlO T Y x.p x.n x.cap x.l) (hU : x.U) (hw : Hs w0 L w) (hs : List.Sublist Y L) : x.Reads w :=
  ⟨h.sub hw hs, h.facts.1, h.facts.2.1, h.facts.2.2, hU.t, hU.o0, hU.o1⟩
theorem insA_U (h : ∀ y ∈ l, y.U) (hx : x.U) : ∀ y ∈ insA x l, y.U := fun y hy => by
  rcases List.mem_cons.1 (insA_perm.mem_iff.1 hy) with rfl | h2
  · exact hx
  · exact h y h2
theorem insA_got (hG : GotE T Yi l) (hx : SlO T Y x.p x.n x.cap x.l) : ∃ Yj, Yj.Perm (Yi ++ Y) ∧ GotE T Yj (insA x l) :=
  GotE.perm (List.perm_append_comm.trans (insA_perm (l := l)).symm) (GotE.snoc hG hx)
end
section
variable {ts : List Rn} {ws : List Wt} {gs : List (List Int)} {R : List (List Int)} {m : List Int} {i j k : Nat} {x : Rn} {g : List Int} {b : Bool} {zs : List Pr} {sl : List IntsA} {V : List En} {e : En}
/-- Put together of the first so many rows. -/
def ordV (zs : List Pr) (R : List (List Int)) (i : Nat) : List En := ((R.take i).filterMap (entD zs)).foldl (fun o x => insE x o) []
theorem ord_no (hm : R[i]? = some m) (h : (zs.filter fun p => decide (p.r.id ∈ m)).isEmpty = true) : ordV zs R (i + 1) = ordV zs R i := by
  unfold ordV
  rw [take_one hm, List.filterMap_append]
  have : entD zs m = none := by unfold entD neO; rw [if_pos h]
  simp [this]
theorem ord_yes (hm : R[i]? = some m) (h : (zs.filter fun p => decide (p.r.id ∈ m)).isEmpty = false) : ordV zs R (i + 1) = insE (entR (zs.filter fun p => decide (p.r.id ∈ m))) (ordV zs R i) := by
  unfold ordV
  rw [take_one hm, List.filterMap_append]
  have : entD zs m = some (entR (zs.filter fun p => decide (p.r.id ∈ m))) := by unfold entD entR neO; rw [if_neg (by rw [h]; decide), if_neg (by rw [h]; decide)]
  simp [this]
theorem ord_all (hi : R.length ≤ i) (hR : R = rowsD gs ts) : ordV (pairsV ts ws) R i = docV ts ws gs := by
  unfold ordV
  rw [List.take_of_length_le hi, hR]; rfl
/-- So far alone. -/
def aloT (gs : List (List Int)) (c : Int) (k : Nat) : Bool := (gs.take k).all fun g => !decide (c ∈ g)
theorem alo_0 {c : Int} : true = aloT gs c 0 := by unfold aloT; rw [List.take_zero]; rfl
theorem alo_no {c : Int} (h : b = aloT gs c k) (hb : b = false) (hg : gs[k]? = some g) : false = aloT gs c (k + 1) := by
  subst h
  unfold aloT at *
  rw [take_one hg, List.all_append, hb]; rfl
theorem alo_yes {c : Int} (h : b = aloT gs c k) (hb : b = true) (hg : gs[k]? = some g) : (!decide (c ∈ g)) = aloT gs c (k + 1) := by
  subst h
  unfold aloT at *
  rw [take_one hg, List.all_append, hb]; simp
theorem alo_end (h : b = aloT gs x.id k) (hk : gs.length ≤ k) : aloneD gs x = b := by
  rw [h]
  unfold aloT aloneD
  rw [List.take_of_length_le hk]
theorem sing_on (h : sl.map IntsA.l = ((ts.take j).filter (aloneD gs)).map fun r => [r.id]) (hx : ts[j]? = some x) (ha : aloneD gs x = true) {y : IntsA} (hy : y.l = [x.id]) : (sl ++ [y]).map IntsA.l = ((ts.take (j + 1)).filter (aloneD gs)).map fun r => [r.id] := by
  rw [take_one hx, List.filter_append, List.map_append, List.map_append, h]
  simp [ha, hy]
theorem sing_out (h : sl.map IntsA.l = ((ts.take j).filter (aloneD gs)).map fun r => [r.id]) (hx : ts[j]? = some x) (ha : aloneD gs x = false) : sl.map IntsA.l = ((ts.take (j + 1)).filter (aloneD gs)).map fun r => [r.id] := by
  rw [take_one hx, List.filter_append, List.map_append, h]
  simp [ha]
theorem sing_rows {al : List IntsA} (h : sl.map IntsA.l = ((ts.take j).filter (aloneD gs)).map fun r => [r.id]) (hj : ts.length ≤ j) (ha : al.map IntsA.l = gs) : (al ++ sl).map IntsA.l = rowsD gs ts := by
  rw [List.take_of_length_le hj] at h
  rw [List.map_append, h, ha]; rfl
theorem sing_n (h : sl.map IntsA.l = ((ts.take j).filter (aloneD gs)).map fun r => [r.id]) : ∀ y ∈ sl, y.l.length = 1 := fun y hy => by
  have h1 : y.l ∈ sl.map IntsA.l := List.mem_map_of_mem hy
  rw [h] at h1
  obtain ⟨r, _, e⟩ := List.mem_map.1 h1
  rw [← e]; rfl
end
end Go.Proofs.Ytoljahfofkmdaaa

/-! Order: the document's looks at what is put in order. -/
namespace Go.Proofs.Ytoljahfofkmdaaa
open Go Go.RowKit

set_option maxRecDepth 100000 in
theorem rwaits_t (p : Option Addr) (n cap : Nat) (ts : List Rn) (pw : Option Addr) (nw capw : Nat) (ws : List Wt) (w : World)
    (hts : Sv w p ts) (hn : n = ts.length) (hb : n ≤ 1000)
    (hws : Sv w pw ws) (hnw : nw = ws.length) (hbw : nw ≤ 1000)
    (hWU : ∀ x ∈ ws, x.U)
    (hcw : nw ≤ capw)
    : Calls Try.prog 34 #[.agg #[.slice p n cap], .slice pw nw capw] w fun e w' => e = .returned (.bool (waitsV ts ws)) ∧ Below w.heap.size w w' := by
  refine enter (Hs.start w) Try.func34 rfl Try.ntmps34 rfl (sq_ (ma0 [] [1] (fun γ1 => [(2, .pointer (some ⟨γ1 0, 0, none⟩))]) (fun γ1 L => bx (γ1 0) (#[.slice p n cap]) 26 :: L) (fun γ1 => ds_ (sq_ (sq_ ?_)))))
  by_cases q3 : ((nw : Nat) : Int) ≠ ((n : Nat) : Int)
  ·
    refine qa [(3, .go (owns 0 0 1)), (5, .yes)] [1, 2] [(14, .bool true)] ([((nw : Nat) : Int) ≠ ((n : Nat) : Int)]) (al1 q3) (ds_ (t_ (sq_ (qa0 [] [] [(4, .bool false)] (ds_ (rt ([]) (.bool false) ?_))))))
    exact fun w' hw => ⟨by rw [wt_nolen (by omega)], hw.below⟩
  ·
    refine qa [(3, .go (owns 0 0 1)), (5, .no)] [1, 2] [(14, .bool false)] ([¬ (((nw : Nat) : Int) ≠ ((n : Nat) : Int))]) (al1 q3) (ds_ (f_ (at_skip (ds_ (sq_ (sq_ (qa0 [] [1, 2] [(15, .slice pw nw capw), (16, .int .i64 (nw : Nat)), (17, .int .i64 0)] (ds_ (at_block (at_loop (α := Nat) [1, 2, 15, 16, 17] (fun j => [(1, .slice pw nw capw), (2, .pointer (some ⟨γ1 0, 0, none⟩)), (15, .slice pw nw capw), (16, .int .i64 (nw : Nat)), (17, .int .i64 (j : Nat))]) (fun j => [bx (γ1 0) (#[.slice p n cap]) 26]) (fun j => j ≤ n ∧ wtB (metO ws j) (ts.drop j) (ws.drop j) = waitsV ts ws) (fun j => n - j) 0 (by kernel_rfl) rfl ⟨Nat.zero_le _, rfl⟩ ?_))))))))))
    rintro j
    rintro ⟨hj, hI⟩
    refine sq_ ?_
    by_cases q9 : ((j : Nat) : Int) < ((nw : Nat) : Int)
    ·
      refine qa [(0, .yes)] [1, 2, 15, 16, 17] [(18, .bool true)] ([((j : Nat) : Int) < ((nw : Nat) : Int)]) (al1 q9) (ds_ (sq_ (t_ (at_skip (ds_ (sq_ (at_block (sq_ ?_))))))))
      obtain ⟨b12, o12, rfl⟩ := hws.pos (i := j) (by omega)
      obtain ⟨x14, hx14⟩ := get_some (l := ws) (m := j) (by omega)
      refine ma [(1, .at b12 o12 j), (2, .go (outs b12 (o12 + j * 3) [.int .i64 x14.id, .int .u64 x14.ord, .bool x14.fresh])), (5, .go (owns 0 0 3))] [1, 2, 15, 16, 17] (fun γ15 => [(5, .int .i64 (j : Nat)), (6, .pointer (some ⟨γ15 0, 0, none⟩))]) (fun γ15 L => bx (γ15 0) (#[.int .i64 x14.id, .int .u64 x14.ord, .bool x14.fresh]) 51 :: L) (fun γ15 => [(some ⟨b12, o12, none⟩ : Option Addr) = some ⟨b12, o12, none⟩, (j : Nat) = ((j : Nat) : Int), j < nw] ++ (cellsP w b12 (o12 + j * 3) [.int .i64 x14.id, .int .u64 x14.ord, .bool x14.fresh])) (fun γ15 => (alA (al2 rfl (al2 rfl (al1 (by omega)))) (rd_pre (hws.get hx14) _ rfl))) (fun γ15 => ds_ (sq_ (sq_ ?_)))
      obtain ⟨b17, o17, rfl⟩ := hts.pos (i := j) (by omega)
      obtain ⟨x19, hx19⟩ := get_some (l := ts) (m := j) (by omega)
      by_cases q21 : (x14.id : Int) ≠ (x19.id : Int)
      ·
        refine cq [(1, .go (owns 0 0 1)), (3, .go (owns 1 0 1)), (5, .at b17 o17 j), (7, .go (outs b17 (o17 + j * 5) [.int .i64 x19.id])), (8, .yes)] [1, 2, 5, 6, 15, 16, 17] [(40, .bool true)] ([(some ⟨b17, o17, none⟩ : Option Addr) = some ⟨b17, o17, none⟩, (j : Nat) = ((j : Nat) : Int), j < n] ++ (cellsP w b17 (o17 + j * 5) [.int .i64 x19.id] ++ ([(x14.id : Int) ≠ (x19.id : Int)]))) rfl (by kernel_rfl) (by kernel_rfl) (by kernel_rfl) (alA (al2 rfl (al2 rfl (al1 (by omega)))) (alA (rd_pre (hts.get hx19) _ rfl) (al1 q21))) (ds_ (t_ (sq_ (qa0 [] [] [(4, .bool false)] (ds_ (rt ([]) (.bool false) ?_))))))
        have ho0 := (hWU x14 (List.mem_of_getElem? hx14)).o0
        exact fun w' hw => ⟨by rw [wt_no hI hx19 hx14 (fun h => absurd h (by omega))], hw.below⟩
      ·
        by_cases q25 : (x14.ord : Int) < (1 : Int)
        ·
          refine cq [(1, .go (owns 0 0 1)), (3, .go (owns 1 0 1)), (5, .at b17 o17 j), (7, .go (outs b17 (o17 + j * 5) [.int .i64 x19.id])), (8, .no), (11, .go (owns 0 1 1)), (12, .yes)] [1, 2, 5, 6, 15, 16, 17] [(40, .bool true)] ([(some ⟨b17, o17, none⟩ : Option Addr) = some ⟨b17, o17, none⟩, (j : Nat) = ((j : Nat) : Int), j < n] ++ (cellsP w b17 (o17 + j * 5) [.int .i64 x19.id] ++ ([¬ ((x14.id : Int) ≠ (x19.id : Int))] ++ ([(x14.ord : Int) < (1 : Int)])))) rfl (by kernel_rfl) (by kernel_rfl) (by kernel_rfl) (alA (al2 rfl (al2 rfl (al1 (by omega)))) (alA (rd_pre (hts.get hx19) _ rfl) (alA (al1 q21) (al1 q25)))) (ds_ (t_ (sq_ (qa0 [] [] [(4, .bool false)] (ds_ (rt ([]) (.bool false) ?_))))))
          have ho0 := (hWU x14 (List.mem_of_getElem? hx14)).o0
          exact fun w' hw => ⟨by rw [wt_no hI hx19 hx14 (fun _ h => absurd h (mo_zero (by omega)))], hw.below⟩
        ·
          by_cases q29 : (x14.ord : Int) > (4611686018427387904 : Int)
          ·
            refine cq [(1, .go (owns 0 0 1)), (3, .go (owns 1 0 1)), (5, .at b17 o17 j), (7, .go (outs b17 (o17 + j * 5) [.int .i64 x19.id])), (8, .no), (11, .go (owns 0 1 1)), (12, .no), (16, .go (owns 0 1 1)), (17, .yes)] [1, 2, 5, 6, 15, 16, 17] [(40, .bool true)] ([(some ⟨b17, o17, none⟩ : Option Addr) = some ⟨b17, o17, none⟩, (j : Nat) = ((j : Nat) : Int), j < n] ++ (cellsP w b17 (o17 + j * 5) [.int .i64 x19.id] ++ ([¬ ((x14.id : Int) ≠ (x19.id : Int))] ++ ([¬ ((x14.ord : Int) < (1 : Int))] ++ ([(x14.ord : Int) > (4611686018427387904 : Int)]))))) rfl (by kernel_rfl) (by kernel_rfl) (by kernel_rfl) (alA (al2 rfl (al2 rfl (al1 (by omega)))) (alA (rd_pre (hts.get hx19) _ rfl) (alA (al1 q21) (alA (al1 q25) (al1 q29))))) (ds_ (t_ (sq_ (qa0 [] [] [(4, .bool false)] (ds_ (rt ([]) (.bool false) ?_))))))
            have ho0 := (hWU x14 (List.mem_of_getElem? hx14)).o0
            exact fun w' hw => ⟨by rw [wt_no hI hx19 hx14 (fun _ _ => by omega)], hw.below⟩
          ·
            refine cq [(1, .go (owns 0 0 1)), (3, .go (owns 1 0 1)), (5, .at b17 o17 j), (7, .go (outs b17 (o17 + j * 5) [.int .i64 x19.id])), (8, .no), (11, .go (owns 0 1 1)), (12, .no), (16, .go (owns 0 1 1)), (17, .no)] [1, 2, 5, 6, 15, 16, 17] [(40, .bool false)] ([(some ⟨b17, o17, none⟩ : Option Addr) = some ⟨b17, o17, none⟩, (j : Nat) = ((j : Nat) : Int), j < n] ++ (cellsP w b17 (o17 + j * 5) [.int .i64 x19.id] ++ ([¬ ((x14.id : Int) ≠ (x19.id : Int))] ++ ([¬ ((x14.ord : Int) < (1 : Int))] ++ ([¬ ((x14.ord : Int) > (4611686018427387904 : Int))]))))) rfl (by kernel_rfl) (by kernel_rfl) (by kernel_rfl) (alA (al2 rfl (al2 rfl (al1 (by omega)))) (alA (rd_pre (hts.get hx19) _ rfl) (alA (al1 q21) (alA (al1 q25) (al1 q29))))) (ds_ (f_ (at_skip (ds_ (sq_ (qa [(2, .sl (.slice (some ⟨b12, o12, none⟩) j capw))] [1, 2, 6, 15, 16, 17] [(43, .slice (some ⟨b12, o12, none⟩) j capw), (44, .int .i64 (j : Nat)), (45, .int .i64 0)] ([SlRun Try.prog 27 (.slice (some ⟨b12, o12, none⟩) nw capw) none (some (.int .i64 (j : Nat))) none (.slice (some ⟨b12, o12, none⟩) j capw)]) (al1 (slE_hi (P := Try.prog) (h := j) (T := 27) (e := 51) (k := 3) (by_ := 24) (by kernel_rfl) (by omega))) (ds_ (at_block ?_))))))))
            have htk : (ws.take j).length = j := by rw [List.length_take]; omega
            refine at_loop (α := Nat) [1, 2, 6, 15, 16, 17, 43, 44, 45] (fun k => [(1, .slice (some ⟨b12, o12, none⟩) nw capw), (2, .pointer (some ⟨γ1 0, 0, none⟩)), (6, .pointer (some ⟨γ15 0, 0, none⟩)), (15, .slice (some ⟨b12, o12, none⟩) nw capw), (16, .int .i64 (nw : Nat)), (17, .int .i64 (j : Nat)), (43, .slice (some ⟨b12, o12, none⟩) j capw), (44, .int .i64 (j : Nat)), (45, .int .i64 (k : Nat))]) (fun k => [bx (γ15 0) (#[.int .i64 x14.id, .int .u64 x14.ord, .bool x14.fresh]) 51, bx (γ1 0) (#[.slice (some ⟨b17, o17, none⟩) n cap]) 26]) (fun k => k ≤ j ∧ ∀ (t : Nat) (z : Wt), t < k → ws[t]? = some z → ¬ z.ord = x14.ord) (fun k => j - k) 0 (by kernel_rfl) rfl ⟨Nat.zero_le _, fun t z h => by omega⟩ ?_
            rintro k
            rintro ⟨hk, hK⟩
            refine sq_ ?_
            by_cases q35 : ((k : Nat) : Int) < ((j : Nat) : Int)
            ·
              refine qa [(0, .yes)] [1, 2, 6, 15, 16, 17, 43, 44, 45] [(46, .bool true)] ([((k : Nat) : Int) < ((j : Nat) : Int)]) (al1 q35) (ds_ (sq_ (t_ (at_skip (ds_ (sq_ (at_block (sq_ ?_))))))))
              obtain ⟨x38, hx38⟩ := get_some (l := (ws.take j)) (m := k) (by omega)
              refine ma [(0, .at b12 o12 k), (1, .go (outs b12 (o12 + k * 3) [.int .i64 x38.id, .int .u64 x38.ord, .bool x38.fresh])), (3, .go (owns 0 0 3))] [1, 2, 6, 15, 16, 17, 43, 44, 45] (fun γ39 => [(8, .pointer (some ⟨γ39 0, 0, none⟩))]) (fun γ39 L => bx (γ39 0) (#[.int .i64 x38.id, .int .u64 x38.ord, .bool x38.fresh]) 51 :: L) (fun γ39 => [(some ⟨b12, o12, none⟩ : Option Addr) = some ⟨b12, o12, none⟩, (k : Nat) = ((k : Nat) : Int), k < j] ++ (cellsP w b12 (o12 + k * 3) [.int .i64 x38.id, .int .u64 x38.ord, .bool x38.fresh])) (fun γ39 => (alA (al2 rfl (al2 rfl (al1 (by omega)))) (rd_pre ((hws.take j).get hx38) _ rfl))) (fun γ39 => ds_ (sq_ ?_))
              by_cases q41 : (x38.ord : Int) = (x14.ord : Int)
              ·
                refine qa [(1, .go (owns 0 1 1)), (3, .go (owns 1 1 1)), (4, .yes)] [1, 2, 6, 15, 16, 17, 43, 44, 45] [(53, .bool true)] ([(x38.ord : Int) = (x14.ord : Int)]) (al1 q41) (ds_ (t_ (sq_ (qa0 [] [] [(4, .bool false)] (ds_ (rt ([]) (.bool false) ?_))))))
                have ho0 := (hWU x14 (List.mem_of_getElem? hx14)).o0
                exact fun w' hw => ⟨by rw [wt_no hI hx19 hx14 (fun _ h => absurd h (mo_yes (take_at hx38).1 (take_at hx38).2 (by omega)))], hw.below⟩
              ·
                refine qa [(1, .go (owns 0 1 1)), (3, .go (owns 1 1 1)), (4, .no)] [1, 2, 6, 15, 16, 17, 43, 44, 45] [(53, .bool false)] ([¬ ((x38.ord : Int) = (x14.ord : Int))]) (al1 q41) (ds_ (f_ (at_skip (done_block (ds_ (qa [(0, .fit)] [1, 2, 6, 15, 16, 17, 43, 44] [(45, .int .i64 (k + 1 : Nat))] ([Fit .i64 ((k + 1 : Nat))]) (al1 (fit64 (by omega) (by omega))) (Done.drop (L' := [bx (γ15 0) (#[.int .i64 x14.id, .int .u64 x14.ord, .bool x14.fresh]) 51, bx (γ1 0) (#[.slice (some ⟨b17, o17, none⟩) n cap]) 26]) ?_ (List.Sublist.cons _ (List.Sublist.cons_cons _ (List.Sublist.cons_cons _ (List.Sublist.refl _)))))))))))
                exact done_round [1, 2, 6, 15, 16, 17, 43, 44, 45] (k + 1) (by kernel_rfl) rfl ⟨by omega, fun t y ht e => by
                    by_cases htk : t = k
                    · subst htk; rw [(take_at hx38).1] at e; cases e; omega
                    · exact hK t y (by omega) e⟩ (by first | omega | (simp only; omega))
            ·
              refine qa [(0, .no)] [1, 2, 6, 15, 16, 17, 43, 44, 45] [(46, .bool false)] ([¬ (((k : Nat) : Int) < ((j : Nat) : Int))]) (al1 q35) (ds_ (sq_ (f_ (at_leave _ rfl (done_block (ds_ (qa [(0, .fit)] [1, 2, 15, 16] [(17, .int .i64 (j + 1 : Nat))] ([Fit .i64 ((j + 1 : Nat))]) (al1 (fit64 (by omega) (by omega))) (Done.drop (L' := [bx (γ1 0) (#[.slice (some ⟨b17, o17, none⟩) n cap]) 26]) ?_ (List.Sublist.cons _ (List.Sublist.cons_cons _ (List.Sublist.refl _)))))))))))
              exact dr [1, 2, 15, 16, 17] (j + 1) ⟨by omega, wt_on hI hx19 hx14 (by omega) (mo_no (by omega) hK (by omega)) (by omega)⟩
    ·
      refine qa [(0, .no)] [1, 2, 15, 16, 17] [(18, .bool false)] ([¬ (((j : Nat) : Int) < ((nw : Nat) : Int))]) (al1 q9) (ds_ (sq_ (f_ (at_leave _ rfl (ds_ (sq_ (qa0 [] [] [(4, .bool true)] (ds_ (rt ([]) (.bool true) ?_)))))))))
      exact fun w' hw => ⟨by rw [wt_end hI (by omega) (by omega)], hw.below⟩

set_option maxRecDepth 100000 in
theorem rapart_t (q : Option Addr) (m capq : Nat) (al : List IntsA) (w : World)
    (hal : Sv w q al) (hma : m = al.length) (hbm : m ≤ 1000) (hnm : ∀ x ∈ al, x.Reads w) (hm9 : ∀ x ∈ al, x.n ≤ 1000)
    (hcq : m ≤ capq)
    : Calls Try.prog 35 #[.slice q m capq] w fun e w' => e = .returned (.bool (apartV (al.map IntsA.l))) ∧ Below w.heap.size w w' := by
  refine enter (Hs.start w) Try.func35 rfl Try.ntmps35 rfl (sq_ (qa0 [] [0] [] (ds_ (sq_ (sq_ (qa0 [] [0] [(9, .slice q m capq), (10, .int .i64 (m : Nat)), (11, .int .i64 0)] (ds_ (at_block (at_loop (α := Nat) [0, 9, 10, 11] (fun j => [(0, .slice q m capq), (9, .slice q m capq), (10, .int .i64 (m : Nat)), (11, .int .i64 (j : Nat))]) (fun j => []) (fun j => j ≤ m ∧ apB (metG (al.map IntsA.l) j) ((al.map IntsA.l).drop j) = apartV (al.map IntsA.l)) (fun j => m - j) 0 (by kernel_rfl) rfl ⟨Nat.zero_le _, rfl⟩ ?_)))))))))
  rintro j
  rintro ⟨hj, hA⟩
  refine sq_ ?_
  by_cases q4 : ((j : Nat) : Int) < ((m : Nat) : Int)
  ·
    refine qa [(0, .yes)] [0, 9, 10, 11] [(12, .bool true)] ([((j : Nat) : Int) < ((m : Nat) : Int)]) (al1 q4) (ds_ (sq_ (t_ (at_skip (ds_ (sq_ (at_block (sq_ ?_))))))))
    obtain ⟨b7, o7, rfl⟩ := hal.pos (i := j) (by omega)
    obtain ⟨x9, hx9⟩ := get_some (l := al) (m := j) (by omega)
    obtain ⟨hsx9, hnx9, hcx9, hbx9⟩ := hnm x9 (List.mem_of_getElem? hx9)
    refine qa [(1, .at b7 o7 j), (2, .go (outs b7 (o7 + j * 1) [.slice x9.p x9.n x9.cap]))] [0, 9, 10, 11] [(3, .int .i64 (j : Nat)), (4, .slice x9.p x9.n x9.cap)] ([(some ⟨b7, o7, none⟩ : Option Addr) = some ⟨b7, o7, none⟩, (j : Nat) = ((j : Nat) : Int), j < m] ++ (cellsP w b7 (o7 + j * 1) [.slice x9.p x9.n x9.cap])) (alA (al2 rfl (al2 rfl (al1 (by omega)))) (rd_pre (hal.get hx9) _ rfl)) (ds_ (sq_ (sq_ (qa0 [] [0, 3, 4, 9, 10, 11] [(16, .slice x9.p x9.n x9.cap), (17, .int .i64 (x9.n : Nat)), (18, .int .i64 0)] (ds_ (at_block ?_))))))
    have hm9x9 := hm9 x9 (List.mem_of_getElem? hx9)
    refine at_loop (α := Nat × Int) [0, 3, 4, 9, 10, 11, 16, 17, 18] (fun ⟨i, la⟩ => [(0, .slice (some ⟨b7, o7, none⟩) m capq), (3, .int .i64 (j : Nat)), (4, .slice x9.p x9.n x9.cap), (9, .slice (some ⟨b7, o7, none⟩) m capq), (10, .int .i64 (m : Nat)), (11, .int .i64 (j : Nat)), (16, .slice x9.p x9.n x9.cap), (17, .int .i64 (x9.n : Nat)), (18, .int .i64 (i : Nat))]) (fun ⟨i, la⟩ => []) (fun ⟨i, la⟩ => i ≤ x9.n ∧ 0 ≤ la ∧ (i = 0 → la = 0) ∧ (∀ t, x9.l[i - 1]? = some t → 0 < i → t = la) ∧ (∀ y ∈ x9.l.take i, y ≤ la) ∧ grB la (metG (al.map IntsA.l) j ++ x9.l.take i) (x9.l.drop i) = grB 0 (metG (al.map IntsA.l) j) x9.l) (fun ⟨i, la⟩ => x9.n - i) (0, 0) (by kernel_rfl) rfl ⟨Nat.zero_le _, Int.le_refl _, fun _ => rfl, fun t _ h => absurd h (Nat.lt_irrefl 0), (fun y hy => by rw [List.take_zero] at hy; cases hy), by rw [List.take_zero, List.append_nil]; rfl⟩ ?_
    rintro ⟨i, la⟩
    rintro ⟨hi, hl0, hlz, hla, hL, hI⟩
    refine sq_ ?_
    by_cases q13 : ((i : Nat) : Int) < ((x9.n : Nat) : Int)
    ·
      refine qa [(0, .yes)] [0, 3, 4, 9, 10, 11, 16, 17, 18] [(19, .bool true)] ([((i : Nat) : Int) < ((x9.n : Nat) : Int)]) (al1 q13) (ds_ (sq_ (t_ (at_skip (ds_ (sq_ (at_block (sq_ ?_))))))))
      obtain ⟨b16, o16, hbo16⟩ := hsx9.pos (i := i) (by omega)
      have hsv16 := hsx9
      rw [hbo16] at hsv16
      obtain ⟨x18, hx18⟩ := get_some (l := x9.l) (m := i) (by omega)
      refine qa [(1, .at b16 o16 i), (2, .go (outs b16 (o16 + i * 1) [.int .i64 x18]))] [0, 3, 4, 9, 10, 11, 16, 17, 18] [(5, .int .i64 (i : Nat)), (6, .int .i64 x18)] ([(x9.p : Option Addr) = some ⟨b16, o16, none⟩, (i : Nat) = ((i : Nat) : Int), i < x9.n] ++ (cellsP w b16 (o16 + i * 1) [.int .i64 x18])) (alA (al2 hbo16 (al2 rfl (al1 (by omega)))) (rd_pre (hsv16.get hx18) _ rfl)) (ds_ (sq_ (sq_ (ao_ (qo0 1 [] [0, 3, 4, 5, 6, 9, 10, 11, 16, 17, 18] [(23, .int .i64 x18)] ?_)))))
      rcases q21 : idV x18 with _ | _
      ·
        refine cD (.bool false) Try.call56 (fun w hw => by have := rid_t x18 w; rw [q21] at this; exact this) (qo0 14 [] [0, 3, 4, 6, 9, 10, 11, 16, 17, 18] [(38, .bool true)] (on_ (ds_ (t_ (sq_ (qa0 [] [] [(2, .bool false)] (ds_ (rt ([]) (.bool false) ?_))))))))
        have hid : ¬ (1 ≤ x18 ∧ x18 ≤ 16) := fun h => by rw [idV_iff.2 h] at q21; cases q21
        exact fun w' hw => ⟨by rw [ap_no hA (gs_at hx9) (gr_no hI hx18 (fun _ _ => by omega))], hw.below⟩
      ·
        refine cD (.bool true) Try.call56 (fun w hw => by have := rid_t x18 w; rw [q21] at this; exact this) ?_
        by_cases q25 : ((i : Nat) : Int) > (0 : Int)
        ·
          obtain ⟨x27, hx27⟩ := get_some (l := x9.l) (m := i - 1) (by omega)
          by_cases q29 : (x27 : Int) ≥ (x18 : Int)
          ·
            refine qo 14 [(5, .yes), (9, .is [] (.int .i64 (i - 1 : Nat))), (10, .at b16 o16 (i - 1)), (11, .go (outs b16 (o16 + (i - 1) * 1) [.int .i64 x27])), (13, .yes)] [0, 3, 4, 6, 9, 10, 11, 16, 17, 18] [(38, .bool true)] ([((i : Nat) : Int) > (0 : Int)] ++ ([Value.int .i64 (IntKind.i64.wrap (((i : Nat) : Int) - 1)) = .int .i64 (i - 1 : Nat)] ++ ([(x9.p : Option Addr) = some ⟨b16, o16, none⟩, (i - 1 : Nat) = ((i - 1 : Nat) : Int), i - 1 < x9.n] ++ (cellsP w b16 (o16 + (i - 1) * 1) [.int .i64 x27] ++ ([(x27 : Int) ≥ (x18 : Int)]))))) (alA (al1 q25) (alA (al1 (by rw [wrap_fit (fit64 (by omega) (by omega))]; congr 1; omega)) (alA (al2 hbo16 (al2 rfl (al1 (by omega)))) (alA (rd_pre (hsv16.get hx27) _ rfl) (al1 q29))))) (on_ (ds_ (t_ (sq_ (qa0 [] [] [(2, .bool false)] (ds_ (rt ([]) (.bool false) ?_)))))))
            have hid := idV_iff.1 q21
            have hta := hla x27 hx27 (by omega)
            exact fun w' hw => ⟨by rw [ap_no hA (gs_at hx9) (gr_no hI hx18 (fun _ _ => by omega))], hw.below⟩
          ·
            refine qo 14 [(5, .yes), (9, .is [] (.int .i64 (i - 1 : Nat))), (10, .at b16 o16 (i - 1)), (11, .go (outs b16 (o16 + (i - 1) * 1) [.int .i64 x27])), (13, .no)] [0, 3, 4, 6, 9, 10, 11, 16, 17, 18] [(38, .bool false)] ([((i : Nat) : Int) > (0 : Int)] ++ ([Value.int .i64 (IntKind.i64.wrap (((i : Nat) : Int) - 1)) = .int .i64 (i - 1 : Nat)] ++ ([(x9.p : Option Addr) = some ⟨b16, o16, none⟩, (i - 1 : Nat) = ((i - 1 : Nat) : Int), i - 1 < x9.n] ++ (cellsP w b16 (o16 + (i - 1) * 1) [.int .i64 x27] ++ ([¬ ((x27 : Int) ≥ (x18 : Int))]))))) (alA (al1 q25) (alA (al1 (by rw [wrap_fit (fit64 (by omega) (by omega))]; congr 1; omega)) (alA (al2 hbo16 (al2 rfl (al1 (by omega)))) (alA (rd_pre (hsv16.get hx27) _ rfl) (al1 q29))))) (on_ (ds_ (f_ (at_skip (ds_ (sq_ ?_))))))
            have hid := idV_iff.1 q21
            have hta := hla x27 hx27 (by omega)
            have hlc : la < x18 := by omega
            refine qa [(2, .sl (.slice (some ⟨b7, o7, none⟩) j capq))] [0, 3, 4, 6, 9, 10, 11, 16, 17, 18] [(41, .slice (some ⟨b7, o7, none⟩) j capq), (42, .int .i64 (j : Nat)), (43, .int .i64 0)] ([SlRun Try.prog 28 (.slice (some ⟨b7, o7, none⟩) m capq) none (some (.int .i64 (j : Nat))) none (.slice (some ⟨b7, o7, none⟩) j capq)]) (al1 (slE_hi (P := Try.prog) (h := j) (T := 28) (e := 40) (k := 1) (by_ := 24) (by kernel_rfl) (by omega))) (ds_ (at_block ?_))
            have htk : (al.take j).length = j := by rw [List.length_take]; omega
            refine at_loop (α := Nat) [0, 3, 4, 6, 9, 10, 11, 16, 17, 18, 41, 42, 43] (fun k => [(0, .slice (some ⟨b7, o7, none⟩) m capq), (3, .int .i64 (j : Nat)), (4, .slice x9.p x9.n x9.cap), (6, .int .i64 x18), (9, .slice (some ⟨b7, o7, none⟩) m capq), (10, .int .i64 (m : Nat)), (11, .int .i64 (j : Nat)), (16, .slice x9.p x9.n x9.cap), (17, .int .i64 (x9.n : Nat)), (18, .int .i64 (i : Nat)), (41, .slice (some ⟨b7, o7, none⟩) j capq), (42, .int .i64 (j : Nat)), (43, .int .i64 (k : Nat))]) (fun k => []) (fun k => k ≤ j ∧ ∀ (t : Nat) (h : List Int), t < k → (al.map IntsA.l)[t]? = some h → decide (x18 ∈ h) = false) (fun k => j - k) 0 (by kernel_rfl) rfl ⟨Nat.zero_le _, fun t z h => by omega⟩ ?_
            rintro k
            rintro ⟨hk, hK⟩
            refine sq_ ?_
            by_cases q35 : ((k : Nat) : Int) < ((j : Nat) : Int)
            ·
              refine qa [(0, .yes)] [0, 3, 4, 6, 9, 10, 11, 16, 17, 18, 41, 42, 43] [(44, .bool true)] ([((k : Nat) : Int) < ((j : Nat) : Int)]) (al1 q35) (ds_ (sq_ (t_ (at_skip (ds_ (sq_ (at_block (sq_ ?_))))))))
              obtain ⟨x38, hx38⟩ := get_some (l := (al.take j)) (m := k) (by omega)
              have hy_x38 := (take_at hx38).1
              obtain ⟨hsx38, hnx38, hcx38, hbx38⟩ := hnm x38 (List.mem_of_getElem? hy_x38)
              have h9x38 := hm9 x38 (List.mem_of_getElem? hy_x38)
              refine qa [(0, .at b7 o7 k), (1, .go (outs b7 (o7 + k * 1) [.slice x38.p x38.n x38.cap]))] [0, 3, 4, 6, 9, 10, 11, 16, 17, 18, 41, 42, 43] [(8, .slice x38.p x38.n x38.cap)] ([(some ⟨b7, o7, none⟩ : Option Addr) = some ⟨b7, o7, none⟩, (k : Nat) = ((k : Nat) : Int), k < j] ++ (cellsP w b7 (o7 + k * 1) [.slice x38.p x38.n x38.cap])) (alA (al2 rfl (al2 rfl (al1 (by omega)))) (rd_pre ((hal.take j).get hx38) _ rfl)) (ds_ (sq_ (ao_ (qo0 2 [] [0, 3, 4, 6, 9, 10, 11, 16, 17, 18, 41, 42, 43] [(47, .slice x38.p x38.n x38.cap), (48, .int .i64 x18)] ?_))))
              rcases q41 : decide (x18 ∈ x38.l) with _ | _
              ·
                refine cD (.bool false) Try.call43 (fun w hw => by have := has_t x38.p x38.n x38.cap x38.l x18 w (hsx38.kept hw.below) hnx38 (by omega); rw [q41] at this; exact this) (on_ (ds_ (f_ (at_skip (done_block (ds_ (qa [(0, .fit)] [0, 3, 4, 6, 9, 10, 11, 16, 17, 18, 41, 42] [(43, .int .i64 (k + 1 : Nat))] ([Fit .i64 ((k + 1 : Nat))]) (al1 (fit64 (by omega) (by omega))) ?_)))))))
                exact done_round [0, 3, 4, 6, 9, 10, 11, 16, 17, 18, 41, 42, 43] (k + 1) (by kernel_rfl) rfl ⟨by omega, fun t y ht e => by
                    by_cases htk : t = k
                    · subst htk; rw [gs_at (take_at hx38).1] at e; cases e; exact q41
                    · exact hK t y (by omega) e⟩ (by first | omega | (simp only; omega))
              ·
                refine cD (.bool true) Try.call43 (fun w hw => by have := has_t x38.p x38.n x38.cap x38.l x18 w (hsx38.kept hw.below) hnx38 (by omega); rw [q41] at this; exact this) (on_ (ds_ (t_ (sq_ (qa0 [] [] [(2, .bool false)] (ds_ (rt ([]) (.bool false) ?_)))))))
                exact fun w' hw => ⟨by rw [ap_no hA (gs_at hx9) (gr_no hI hx18 (fun _ _ => mg_yes (gs_at (take_at hx38).1) (take_at hx38).2 q41))], hw.below⟩
            ·
              refine qa [(0, .no)] [0, 3, 4, 6, 9, 10, 11, 16, 17, 18, 41, 42, 43] [(44, .bool false)] ([¬ (((k : Nat) : Int) < ((j : Nat) : Int))]) (al1 q35) (ds_ (sq_ (f_ (at_leave _ rfl (done_block (ds_ (qa [(0, .fit)] [0, 3, 4, 9, 10, 11, 16, 17] [(18, .int .i64 (i + 1 : Nat))] ([Fit .i64 ((i + 1 : Nat))]) (al1 (fit64 (by omega) (by omega))) ?_)))))))
              exact dr [0, 3, 4, 9, 10, 11, 16, 17, 18] (i + 1, x18) ⟨by omega, by omega, fun h => by omega, fun t ht _ => by rw [show i + 1 - 1 = i from rfl, hx18] at ht; cases ht; rfl, le_on hL hx18 hlc, gr_on hI hx18 hlc (by omega) (mg_no hK (by omega) hL hlc)⟩
        ·
          refine qo 14 [(5, .no)] [0, 3, 4, 6, 9, 10, 11, 16, 17, 18] [(38, .bool false)] ([¬ (((i : Nat) : Int) > (0 : Int))]) (al1 q25) (on_ (ds_ (f_ (at_skip (ds_ (sq_ ?_))))))
          have hid := idV_iff.1 q21
          have hta := hlz (by omega)
          have hlc : la < x18 := by omega
          refine qa [(2, .sl (.slice (some ⟨b7, o7, none⟩) j capq))] [0, 3, 4, 6, 9, 10, 11, 16, 17, 18] [(41, .slice (some ⟨b7, o7, none⟩) j capq), (42, .int .i64 (j : Nat)), (43, .int .i64 0)] ([SlRun Try.prog 28 (.slice (some ⟨b7, o7, none⟩) m capq) none (some (.int .i64 (j : Nat))) none (.slice (some ⟨b7, o7, none⟩) j capq)]) (al1 (slE_hi (P := Try.prog) (h := j) (T := 28) (e := 40) (k := 1) (by_ := 24) (by kernel_rfl) (by omega))) (ds_ (at_block ?_))
          have htk : (al.take j).length = j := by rw [List.length_take]; omega
          refine at_loop (α := Nat) [0, 3, 4, 6, 9, 10, 11, 16, 17, 18, 41, 42, 43] (fun k => [(0, .slice (some ⟨b7, o7, none⟩) m capq), (3, .int .i64 (j : Nat)), (4, .slice x9.p x9.n x9.cap), (6, .int .i64 x18), (9, .slice (some ⟨b7, o7, none⟩) m capq), (10, .int .i64 (m : Nat)), (11, .int .i64 (j : Nat)), (16, .slice x9.p x9.n x9.cap), (17, .int .i64 (x9.n : Nat)), (18, .int .i64 (i : Nat)), (41, .slice (some ⟨b7, o7, none⟩) j capq), (42, .int .i64 (j : Nat)), (43, .int .i64 (k : Nat))]) (fun k => []) (fun k => k ≤ j ∧ ∀ (t : Nat) (h : List Int), t < k → (al.map IntsA.l)[t]? = some h → decide (x18 ∈ h) = false) (fun k => j - k) 0 (by kernel_rfl) rfl ⟨Nat.zero_le _, fun t z h => by omega⟩ ?_
          rintro k
          rintro ⟨hk, hK⟩
          refine sq_ ?_
          by_cases q51 : ((k : Nat) : Int) < ((j : Nat) : Int)
          ·
            refine qa [(0, .yes)] [0, 3, 4, 6, 9, 10, 11, 16, 17, 18, 41, 42, 43] [(44, .bool true)] ([((k : Nat) : Int) < ((j : Nat) : Int)]) (al1 q51) (ds_ (sq_ (t_ (at_skip (ds_ (sq_ (at_block (sq_ ?_))))))))
            obtain ⟨x54, hx54⟩ := get_some (l := (al.take j)) (m := k) (by omega)
            have hy_x54 := (take_at hx54).1
            obtain ⟨hsx54, hnx54, hcx54, hbx54⟩ := hnm x54 (List.mem_of_getElem? hy_x54)
            have h9x54 := hm9 x54 (List.mem_of_getElem? hy_x54)
            refine qa [(0, .at b7 o7 k), (1, .go (outs b7 (o7 + k * 1) [.slice x54.p x54.n x54.cap]))] [0, 3, 4, 6, 9, 10, 11, 16, 17, 18, 41, 42, 43] [(8, .slice x54.p x54.n x54.cap)] ([(some ⟨b7, o7, none⟩ : Option Addr) = some ⟨b7, o7, none⟩, (k : Nat) = ((k : Nat) : Int), k < j] ++ (cellsP w b7 (o7 + k * 1) [.slice x54.p x54.n x54.cap])) (alA (al2 rfl (al2 rfl (al1 (by omega)))) (rd_pre ((hal.take j).get hx54) _ rfl)) (ds_ (sq_ (ao_ (qo0 2 [] [0, 3, 4, 6, 9, 10, 11, 16, 17, 18, 41, 42, 43] [(47, .slice x54.p x54.n x54.cap), (48, .int .i64 x18)] ?_))))
            rcases q57 : decide (x18 ∈ x54.l) with _ | _
            ·
              refine cD (.bool false) Try.call43 (fun w hw => by have := has_t x54.p x54.n x54.cap x54.l x18 w (hsx54.kept hw.below) hnx54 (by omega); rw [q57] at this; exact this) (on_ (ds_ (f_ (at_skip (done_block (ds_ (qa [(0, .fit)] [0, 3, 4, 6, 9, 10, 11, 16, 17, 18, 41, 42] [(43, .int .i64 (k + 1 : Nat))] ([Fit .i64 ((k + 1 : Nat))]) (al1 (fit64 (by omega) (by omega))) ?_)))))))
              exact done_round [0, 3, 4, 6, 9, 10, 11, 16, 17, 18, 41, 42, 43] (k + 1) (by kernel_rfl) rfl ⟨by omega, fun t y ht e => by
                  by_cases htk : t = k
                  · subst htk; rw [gs_at (take_at hx54).1] at e; cases e; exact q57
                  · exact hK t y (by omega) e⟩ (by first | omega | (simp only; omega))
            ·
              refine cD (.bool true) Try.call43 (fun w hw => by have := has_t x54.p x54.n x54.cap x54.l x18 w (hsx54.kept hw.below) hnx54 (by omega); rw [q57] at this; exact this) (on_ (ds_ (t_ (sq_ (qa0 [] [] [(2, .bool false)] (ds_ (rt ([]) (.bool false) ?_)))))))
              exact fun w' hw => ⟨by rw [ap_no hA (gs_at hx9) (gr_no hI hx18 (fun _ _ => mg_yes (gs_at (take_at hx54).1) (take_at hx54).2 q57))], hw.below⟩
          ·
            refine qa [(0, .no)] [0, 3, 4, 6, 9, 10, 11, 16, 17, 18, 41, 42, 43] [(44, .bool false)] ([¬ (((k : Nat) : Int) < ((j : Nat) : Int))]) (al1 q51) (ds_ (sq_ (f_ (at_leave _ rfl (done_block (ds_ (qa [(0, .fit)] [0, 3, 4, 9, 10, 11, 16, 17] [(18, .int .i64 (i + 1 : Nat))] ([Fit .i64 ((i + 1 : Nat))]) (al1 (fit64 (by omega) (by omega))) ?_)))))))
            exact dr [0, 3, 4, 9, 10, 11, 16, 17, 18] (i + 1, x18) ⟨by omega, by omega, fun h => by omega, fun t ht _ => by rw [show i + 1 - 1 = i from rfl, hx18] at ht; cases ht; rfl, le_on hL hx18 hlc, gr_on hI hx18 hlc (by omega) (mg_no hK (by omega) hL hlc)⟩
    ·
      refine qa [(0, .no)] [0, 3, 4, 9, 10, 11, 16, 17, 18] [(19, .bool false)] ([¬ (((i : Nat) : Int) < ((x9.n : Nat) : Int))]) (al1 q13) (ds_ (sq_ (f_ (at_leave _ rfl (ds_ (sq_ ?_))))))
      by_cases q66 : ((x9.n : Nat) : Int) = (0 : Int)
      ·
        refine qa [(2, .yes)] [0, 9, 10, 11] [(54, .bool true)] ([((x9.n : Nat) : Int) = (0 : Int)]) (al1 q66) (ds_ (t_ (sq_ (qa0 [] [] [(2, .bool false)] (ds_ (rt ([]) (.bool false) ?_))))))
        exact fun w' hw => ⟨by rw [ap_nil hA (gs_at hx9) (List.length_eq_zero_iff.1 (by omega))], hw.below⟩
      ·
        refine qa [(2, .no)] [0, 9, 10, 11] [(54, .bool false)] ([¬ (((x9.n : Nat) : Int) = (0 : Int))]) (al1 q66) (ds_ (f_ (at_skip (done_block (ds_ (qa [(0, .fit)] [0, 9, 10] [(11, .int .i64 (j + 1 : Nat))] ([Fit .i64 ((j + 1 : Nat))]) (al1 (fit64 (by omega) (by omega))) ?_))))))
        exact dr [0, 9, 10, 11] (j + 1) ⟨by omega, ap_on hA (gs_at hx9) (fun e => by rw [e] at hnx9; simp at hnx9; omega) (gr_end hI (by omega))⟩
  ·
    refine qa [(0, .no)] [0, 9, 10, 11] [(12, .bool false)] ([¬ (((j : Nat) : Int) < ((m : Nat) : Int))]) (al1 q4) (ds_ (sq_ (f_ (at_leave _ rfl (ds_ (sq_ (qa0 [] [] [(2, .bool true)] (ds_ (rt ([]) (.bool true) ?_)))))))))
    exact fun w' hw => ⟨by rw [ap_end hA (by rw [List.length_map]; omega)], hw.below⟩

set_option maxRecDepth 100000 in
theorem rcheck_t (p : Option Addr) (n cap : Nat) (ts : List Rn) (pw : Option Addr) (nw capw : Nat) (ws : List Wt) (q : Option Addr) (m capq : Nat) (al : List IntsA) (w : World)
    (hts : Sv w p ts) (hn : n = ts.length) (hb : n ≤ 1000)
    (hws : Sv w pw ws) (hnw : nw = ws.length) (hbw : nw ≤ 1000)
    (hWU : ∀ x ∈ ws, x.U)
    (hal : Sv w q al) (hma : m = al.length) (hbm : m ≤ 1000) (hnm : ∀ x ∈ al, x.Reads w) (hm9 : ∀ x ∈ al, x.n ≤ 1000)
    (hcw : nw ≤ capw) (hcq : m ≤ capq)
    : Calls Try.prog 11 #[.agg #[.slice p n cap], .slice pw nw capw, .slice q m capq] w fun e w' => e = .returned (.int .i64 (chkO ts ws (al.map IntsA.l))) ∧ Below w.heap.size w w' := by
  refine enter (Hs.start w) Try.func11 rfl Try.ntmps11 rfl (sq_ (ma0 [] [1, 2] (fun γ1 => [(3, .pointer (some ⟨γ1 0, 0, none⟩))]) (fun γ1 L => bx (γ1 0) (#[.slice p n cap]) 26 :: L) (fun γ1 => ds_ (sq_ (at_block (sq_ (ao_ (qo0 1 [(0, .go (owns 0 0 1))] [1, 2, 3] [(8, .agg #[.slice p n cap])] ?_))))))))
  rcases q3 : chkQ ts with _ | _
  ·
    refine cD (.bool false) Try.call33 (fun w hw => by have := rrightq_t p n cap ts w (hts.kept hw.below) hn (by omega); rw [q3] at this; exact this) (qo0 2 [] [1, 2, 3] [(7, .bool true)] (on_ (ds_ (t_ (sq_ (qa0 [] [] [(6, .int .i64 200)] (ds_ (rt ([]) (.int .i64 200) ?_))))))))
    exact fun w' hw => ⟨by rw [co_q q3], hw.below⟩
  ·
    refine cD (.bool true) Try.call33 (fun w hw => by have := rrightq_t p n cap ts w (hts.kept hw.below) hn (by omega); rw [q3] at this; exact this) (qo0 2 [] [1, 2, 3] [(7, .bool false)] (on_ (ds_ (f_ (sq_ (ao_ (qo0 2 [(0, .go (owns 0 0 1))] [2] [(12, .agg #[.slice p n cap]), (13, .slice pw nw capw)] ?_)))))))
    rcases q8 : waitsV ts ws with _ | _
    ·
      refine cD (.bool false) Try.call34 (fun w hw => by have := rwaits_t p n cap ts pw nw capw ws w (hts.kept hw.below) hn hb (hws.kept hw.below) hnw hbw hWU hcw; rw [q8] at this; exact this) (qo0 7 [] [] [(11, .bool true)] (on_ (ds_ (t_ (sq_ (qa0 [] [] [(6, .int .i64 220)] (ds_ (rt ([]) (.int .i64 220) ?_))))))))
      exact fun w' hw => ⟨by rw [co_w q3 q8], hw.below⟩
    ·
      refine cD (.bool true) Try.call34 (fun w hw => by have := rwaits_t p n cap ts pw nw capw ws w (hts.kept hw.below) hn hb (hws.kept hw.below) hnw hbw hWU hcw; rw [q8] at this; exact this) (qo0 3 [] [] [(16, .bool false), (17, .slice q m capq)] ?_)
      rcases q12 : apartV (al.map IntsA.l) with _ | _
      ·
        refine cD (.bool false) Try.call35 (fun w hw => by have := rapart_t q m capq al w (hal.kept hw.below) hma hbm (fun x hx => (hnm x hx).kept hw.below) hm9 hcq; rw [q12] at this; exact this) (qo0 3 [] [] [(11, .bool true)] (on_ (ds_ (t_ (sq_ (qa0 [] [] [(6, .int .i64 220)] (ds_ (rt ([]) (.int .i64 220) ?_))))))))
        exact fun w' hw => ⟨by rw [co_a q3 q12], hw.below⟩
      ·
        refine cD (.bool true) Try.call35 (fun w hw => by have := rapart_t q m capq al w (hal.kept hw.below) hma hbm (fun x hx => (hnm x hx).kept hw.below) hm9 hcq; rw [q12] at this; exact this) (qo0 3 [] [] [(11, .bool false)] (on_ (ds_ (f_ (at_skip (done_block (ds_ (sq_ (qa0 [] [] [(6, .int .i64 0)] (ds_ (rt ([]) (.int .i64 0) ?_)))))))))))
        exact fun w' hw => ⟨by rw [co_ok q3 q8 q12], hw.below⟩
end Go.Proofs.Ytoljahfofkmdaaa
