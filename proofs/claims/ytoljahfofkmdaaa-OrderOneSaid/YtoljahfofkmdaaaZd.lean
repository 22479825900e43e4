/- Texts of this proof, one behind the other. -/
import Derived.Test.YtoljahfofkmdaaaZb
import Derived.Test.YtoljahfofkmdaaaZc
import Derived.Test.YtoljahfofkmdaaaZa
import Derived.ProofKit
import Derived.Carry
import Derived.Deep.Slices
import Derived.Lib.SmallJoins
import Derived.Test.YtoljahfofkmdaaaProg
/-! The statement OrderOne, walked. -/
namespace Go.Proofs.Ytoljahfofkmdaaa
open Go Go.RowKit

set_option maxRecDepth 100000 in
theorem like_t (a b : EnA) (w : World)
 (ra : a.Reads w)
 (rb : b.Reads w)
 (h0a : 0 < a.l.length) (h0b : 0 < b.l.length)
 : Calls Try.prog 21 #[.agg #[.slice a.p a.n a.cap, .int .u64 a.th, .int .u64 a.tl, .int .u64 a.tw, .int .u64 a.ord, .bool a.fresh], .agg #[.slice b.p b.n b.cap, .int .u64 b.th, .int .u64 b.tl, .int .u64 b.tw, .int .u64 b.ord, .bool b.fresh]] w fun e w' => e = .returned (.bool (likeE a.val b.val)) ∧ Below w.heap.size w w' := by
 have hsa : Sv w a.p a.l := ra.sv
 have hna : a.n = a.l.length := ra.hn
 have hca := ra.hc
 have hba := ra.hb
 have hsb : Sv w b.p b.l := rb.sv
 have hnb : b.n = b.l.length := rb.hn
 have hcb := rb.hc
 have hbb := rb.hb
 refine enter (Hs.start w) Try.func21 rfl Try.ntmps21 rfl (sq_ (ma0 [] [] (fun γ1 => [(2, .pointer (some ⟨γ1 0, 0, none⟩)), (3, .pointer (some ⟨γ1 1, 0, none⟩))]) (fun γ1 L => bx (γ1 1) (#[.slice b.p b.n b.cap, .int .u64 b.th, .int .u64 b.tl, .int .u64 b.tw, .int .u64 b.ord, .bool b.fresh]) 47 :: bx (γ1 0) (#[.slice a.p a.n a.cap, .int .u64 a.th, .int .u64 a.tl, .int .u64 a.tw, .int .u64 a.ord, .bool a.fresh]) 47 :: L) (fun γ1 => ds_ (sq_ ?_))))
 rcases q3 : a.fresh with _ | _
 ·
  rcases q5 : b.fresh with _ | _
  ·
   refine at_calm rfl (by kernel_rfl) (by kernel_rfl) ?_
   refine cm 10 [(1, .go (owns 1 5 1)), (3, .go (owns 0 5 1)), (4, .eqs true), (7, .go (owns 1 1 3)), (9, .go (owns 0 1 3))] [2, 3] [(10, .bool true), (12, .agg #[.int .u64 a.th, .int .u64 a.tl, .int .u64 a.tw]), (14, .agg #[.int .u64 b.th, .int .u64 b.tl, .int .u64 b.tw])] ([EqRun Try.prog .eql 4 (.tmp 6) (.tmp 8) (.bool false) (.bool false) true]) (by kernel_rfl) rfl (al1 (bool_eq false false)) ?_
   refine cK (.int .i64 (cmpF a.t b.t)) Try.call17 (fun w hw => fcmp_t a.t b.t w ra.tU rb.tU) ?_
   by_cases q8 : ((cmpF a.t b.t) : Int) = (0 : Int)
   ·
    by_cases q10 : (a.ord : Int) = (b.ord : Int)
    ·
     obtain ⟨b12, o12, hbo12⟩ := hsa.pos (i := 0) (by omega)
     have hsv12 := hsa
     rw [hbo12] at hsv12
     obtain ⟨x14, hx14⟩ := get_some (l := a.l) (m := 0) (by omega)
     obtain ⟨b16, o16, hbo16⟩ := hsb.pos (i := 0) (by omega)
     have hsv16 := hsb
     rw [hbo16] at hsv16
     obtain ⟨x18, hx18⟩ := get_some (l := b.l) (m := 0) (by omega)
     by_cases q20 : (x14 : Int) = (x18 : Int)
     ·
      refine cm 21 [(11, .yes), (15, .go (owns 1 4 1)), (17, .go (owns 0 4 1)), (18, .yes), (22, .go (owns 1 0 1)), (23, .at b12 o12 0), (24, .go (outs b12 (o12 + 0 * 1) [.int .i64 x14])), (26, .go (owns 0 0 1)), (27, .at b16 o16 0), (28, .go (outs b16 (o16 + 0 * 1) [.int .i64 x18])), (29, .yes)] [] [(4, .bool true)] ([((cmpF a.t b.t) : Int) = (0 : Int)] ++ ([(a.ord : Int) = (b.ord : Int)] ++ ([(a.p : Option Addr) = some ⟨b12, o12, none⟩, 0 = ((0 : Nat) : Int), 0 < a.n] ++ (cellsP w b12 (o12 + 0 * 1) [.int .i64 x14] ++ ([(b.p : Option Addr) = some ⟨b16, o16, none⟩, 0 = ((0 : Nat) : Int), 0 < b.n] ++ (cellsP w b16 (o16 + 0 * 1) [.int .i64 x18] ++ ([(x14 : Int) = (x18 : Int)]))))))) (by kernel_rfl) rfl (alA (al1 q8) (alA (al1 q10) (alA (al2 hbo12 (al2 rfl (al1 (by omega)))) (alA (rd_pre (hsv12.get hx14) _ rfl) (alA (al2 hbo16 (al2 rfl (al1 (by omega)))) (alA (rd_pre (hsv16.get hx18) _ rfl) (al1 q20))))))) ?_
      refine calm_nil' ?_
      refine ds_ (rt ([]) (.bool true) ?_)
      exact fun w' hw => ⟨by rw [like_y (a := a.val) (b := b.val) (q3.trans q5.symm) q8 (by show a.ord = b.ord; omega) hx14 hx18 (by omega)], hw.below⟩
     ·
      refine cm 21 [(11, .yes), (15, .go (owns 1 4 1)), (17, .go (owns 0 4 1)), (18, .yes), (22, .go (owns 1 0 1)), (23, .at b12 o12 0), (24, .go (outs b12 (o12 + 0 * 1) [.int .i64 x14])), (26, .go (owns 0 0 1)), (27, .at b16 o16 0), (28, .go (outs b16 (o16 + 0 * 1) [.int .i64 x18])), (29, .no)] [] [(4, .bool false)] ([((cmpF a.t b.t) : Int) = (0 : Int)] ++ ([(a.ord : Int) = (b.ord : Int)] ++ ([(a.p : Option Addr) = some ⟨b12, o12, none⟩, 0 = ((0 : Nat) : Int), 0 < a.n] ++ (cellsP w b12 (o12 + 0 * 1) [.int .i64 x14] ++ ([(b.p : Option Addr) = some ⟨b16, o16, none⟩, 0 = ((0 : Nat) : Int), 0 < b.n] ++ (cellsP w b16 (o16 + 0 * 1) [.int .i64 x18] ++ ([¬ ((x14 : Int) = (x18 : Int))]))))))) (by kernel_rfl) rfl (alA (al1 q8) (alA (al1 q10) (alA (al2 hbo12 (al2 rfl (al1 (by omega)))) (alA (rd_pre (hsv12.get hx14) _ rfl) (alA (al2 hbo16 (al2 rfl (al1 (by omega)))) (alA (rd_pre (hsv16.get hx18) _ rfl) (al1 q20))))))) ?_
      refine calm_nil' ?_
      refine ds_ (rt ([]) (.bool false) ?_)
      exact fun w' hw => ⟨by rw [like_m (a := a.val) (b := b.val) hx14 hx18 (by omega)], hw.below⟩
    ·
     refine cm 21 [(11, .yes), (15, .go (owns 1 4 1)), (17, .go (owns 0 4 1)), (18, .no)] [] [(4, .bool false)] ([((cmpF a.t b.t) : Int) = (0 : Int)] ++ ([¬ ((a.ord : Int) = (b.ord : Int))])) (by kernel_rfl) rfl (alA (al1 q8) (al1 q10)) ?_
     refine calm_nil' ?_
     refine ds_ (rt ([]) (.bool false) ?_)
     exact fun w' hw => ⟨by rw [like_o (a := a.val) (b := b.val) (by show ¬ a.ord = b.ord; omega)], hw.below⟩
   ·
    refine cm 21 [(11, .no)] [] [(4, .bool false)] ([¬ (((cmpF a.t b.t) : Int) = (0 : Int))]) (by kernel_rfl) rfl (al1 q8) ?_
    refine calm_nil' ?_
    refine ds_ (rt ([]) (.bool false) ?_)
    exact fun w' hw => ⟨by rw [like_t' (a := a.val) (b := b.val) q8], hw.below⟩
  ·
   refine cq [(1, .go (owns 1 5 1)), (3, .go (owns 0 5 1)), (4, .eqs false)] [] [(4, .bool false)] ([EqRun Try.prog .eql 4 (.tmp 6) (.tmp 8) (.bool false) (.bool true) false]) rfl (by kernel_rfl) (by kernel_rfl) (by kernel_rfl) (al1 (bool_eq false true)) (ds_ (rt ([]) (.bool false) ?_))
   exact fun w' hw => ⟨by rw [like_f (a := a.val) (b := b.val) (fun h => by have h2 : a.fresh = b.fresh := h; rw [q3, q5] at h2; cases h2)], hw.below⟩
 ·
  rcases q27 : b.fresh with _ | _
  ·
   refine cq [(1, .go (owns 1 5 1)), (3, .go (owns 0 5 1)), (4, .eqs false)] [] [(4, .bool false)] ([EqRun Try.prog .eql 4 (.tmp 6) (.tmp 8) (.bool true) (.bool false) false]) rfl (by kernel_rfl) (by kernel_rfl) (by kernel_rfl) (al1 (bool_eq true false)) (ds_ (rt ([]) (.bool false) ?_))
   exact fun w' hw => ⟨by rw [like_f (a := a.val) (b := b.val) (fun h => by have h2 : a.fresh = b.fresh := h; rw [q3, q27] at h2; cases h2)], hw.below⟩
  ·
   refine at_calm rfl (by kernel_rfl) (by kernel_rfl) ?_
   refine cm 10 [(1, .go (owns 1 5 1)), (3, .go (owns 0 5 1)), (4, .eqs true), (7, .go (owns 1 1 3)), (9, .go (owns 0 1 3))] [2, 3] [(10, .bool true), (12, .agg #[.int .u64 a.th, .int .u64 a.tl, .int .u64 a.tw]), (14, .agg #[.int .u64 b.th, .int .u64 b.tl, .int .u64 b.tw])] ([EqRun Try.prog .eql 4 (.tmp 6) (.tmp 8) (.bool true) (.bool true) true]) (by kernel_rfl) rfl (al1 (bool_eq true true)) ?_
   refine cK (.int .i64 (cmpF a.t b.t)) Try.call17 (fun w hw => fcmp_t a.t b.t w ra.tU rb.tU) ?_
   by_cases q31 : ((cmpF a.t b.t) : Int) = (0 : Int)
   ·
    by_cases q33 : (a.ord : Int) = (b.ord : Int)
    ·
     obtain ⟨b35, o35, hbo35⟩ := hsa.pos (i := 0) (by omega)
     have hsv35 := hsa
     rw [hbo35] at hsv35
     obtain ⟨x37, hx37⟩ := get_some (l := a.l) (m := 0) (by omega)
     obtain ⟨b39, o39, hbo39⟩ := hsb.pos (i := 0) (by omega)
     have hsv39 := hsb
     rw [hbo39] at hsv39
     obtain ⟨x41, hx41⟩ := get_some (l := b.l) (m := 0) (by omega)
     by_cases q43 : (x37 : Int) = (x41 : Int)
     ·
      refine cm 21 [(11, .yes), (15, .go (owns 1 4 1)), (17, .go (owns 0 4 1)), (18, .yes), (22, .go (owns 1 0 1)), (23, .at b35 o35 0), (24, .go (outs b35 (o35 + 0 * 1) [.int .i64 x37])), (26, .go (owns 0 0 1)), (27, .at b39 o39 0), (28, .go (outs b39 (o39 + 0 * 1) [.int .i64 x41])), (29, .yes)] [] [(4, .bool true)] ([((cmpF a.t b.t) : Int) = (0 : Int)] ++ ([(a.ord : Int) = (b.ord : Int)] ++ ([(a.p : Option Addr) = some ⟨b35, o35, none⟩, 0 = ((0 : Nat) : Int), 0 < a.n] ++ (cellsP w b35 (o35 + 0 * 1) [.int .i64 x37] ++ ([(b.p : Option Addr) = some ⟨b39, o39, none⟩, 0 = ((0 : Nat) : Int), 0 < b.n] ++ (cellsP w b39 (o39 + 0 * 1) [.int .i64 x41] ++ ([(x37 : Int) = (x41 : Int)]))))))) (by kernel_rfl) rfl (alA (al1 q31) (alA (al1 q33) (alA (al2 hbo35 (al2 rfl (al1 (by omega)))) (alA (rd_pre (hsv35.get hx37) _ rfl) (alA (al2 hbo39 (al2 rfl (al1 (by omega)))) (alA (rd_pre (hsv39.get hx41) _ rfl) (al1 q43))))))) ?_
      refine calm_nil' ?_
      refine ds_ (rt ([]) (.bool true) ?_)
      exact fun w' hw => ⟨by rw [like_y (a := a.val) (b := b.val) (q3.trans q27.symm) q31 (by show a.ord = b.ord; omega) hx37 hx41 (by omega)], hw.below⟩
     ·
      refine cm 21 [(11, .yes), (15, .go (owns 1 4 1)), (17, .go (owns 0 4 1)), (18, .yes), (22, .go (owns 1 0 1)), (23, .at b35 o35 0), (24, .go (outs b35 (o35 + 0 * 1) [.int .i64 x37])), (26, .go (owns 0 0 1)), (27, .at b39 o39 0), (28, .go (outs b39 (o39 + 0 * 1) [.int .i64 x41])), (29, .no)] [] [(4, .bool false)] ([((cmpF a.t b.t) : Int) = (0 : Int)] ++ ([(a.ord : Int) = (b.ord : Int)] ++ ([(a.p : Option Addr) = some ⟨b35, o35, none⟩, 0 = ((0 : Nat) : Int), 0 < a.n] ++ (cellsP w b35 (o35 + 0 * 1) [.int .i64 x37] ++ ([(b.p : Option Addr) = some ⟨b39, o39, none⟩, 0 = ((0 : Nat) : Int), 0 < b.n] ++ (cellsP w b39 (o39 + 0 * 1) [.int .i64 x41] ++ ([¬ ((x37 : Int) = (x41 : Int))]))))))) (by kernel_rfl) rfl (alA (al1 q31) (alA (al1 q33) (alA (al2 hbo35 (al2 rfl (al1 (by omega)))) (alA (rd_pre (hsv35.get hx37) _ rfl) (alA (al2 hbo39 (al2 rfl (al1 (by omega)))) (alA (rd_pre (hsv39.get hx41) _ rfl) (al1 q43))))))) ?_
      refine calm_nil' ?_
      refine ds_ (rt ([]) (.bool false) ?_)
      exact fun w' hw => ⟨by rw [like_m (a := a.val) (b := b.val) hx37 hx41 (by omega)], hw.below⟩
    ·
     refine cm 21 [(11, .yes), (15, .go (owns 1 4 1)), (17, .go (owns 0 4 1)), (18, .no)] [] [(4, .bool false)] ([((cmpF a.t b.t) : Int) = (0 : Int)] ++ ([¬ ((a.ord : Int) = (b.ord : Int))])) (by kernel_rfl) rfl (alA (al1 q31) (al1 q33)) ?_
     refine calm_nil' ?_
     refine ds_ (rt ([]) (.bool false) ?_)
     exact fun w' hw => ⟨by rw [like_o (a := a.val) (b := b.val) (by show ¬ a.ord = b.ord; omega)], hw.below⟩
   ·
    refine cm 21 [(11, .no)] [] [(4, .bool false)] ([¬ (((cmpF a.t b.t) : Int) = (0 : Int))]) (by kernel_rfl) rfl (al1 q31) ?_
    refine calm_nil' ?_
    refine ds_ (rt ([]) (.bool false) ?_)
    exact fun w' hw => ⟨by rw [like_t' (a := a.val) (b := b.val) q31], hw.below⟩

set_option maxRecDepth 100000 in
theorem one_law (q : Option Addr) (m capq : Nat) (al : List EnA) (w : World)
 (hal : Sv w q al) (hma : m = al.length) (hbm : m ≤ 9223372036854775807) (hnm : ∀ x ∈ al, x.Reads w)
 : Calls Try.prog 5 #[.slice q m capq] w fun e w' => e = .returned (.bool true) ∧ Below w.heap.size w w' := by
 refine enter (Hs.start w) Try.func5 rfl Try.ntmps5 rfl (sq_ (qa0 [] [0] [] (ds_ (sq_ (sq_ (ao_ (cD (.bool true) Try.call9 (fun w hw => wakes_t w) (qo0 1 [] [0] [(15, .bool false)] (on_ (ds_ (f_ (at_skip (ds_ (sq_ (qa0 [] [0] [(3, .slice none 0 0)] (ds_ (sq_ (sq_ (ao_ (qo0 1 [] [3] [(16, .slice q m capq)] (cP (fun v L' => ∃ q_ n_ c_ Y_ Z_ bl_, v = .slice q_ n_ c_ ∧ L' = List.take 0 ([]) ++ (Y_ ++ (Z_ ++ List.drop 0 ([]))) ∧ SlO 47 Y_ q_ n_ c_ bl_ ∧ GotE 3 Z_ bl_ ∧ bl_.map EnA.val = fewE (al.map EnA.val) ∧ (∀ x ∈ bl_, x.U)) Try.call18 (fun w hw => (few_t q m capq al w (hal.kept hw.below) hma (by omega) (fun y hy => (hnm y hy).kept hw.below)).mono fun e w' ⟨q_, n_, c_, Y_, Z_, bl_, he, hO, hG, hB, hE, hb, hY⟩ => ⟨_, _, he, ⟨q_, n_, c_, Y_, Z_, bl_, rfl, rfl, hO, hG, hB, hE⟩, hs_re (hw.join hb hY 0)⟩) ?_)))))))))))))))))))))
 rintro v6 L6 ⟨q6, n6, c6, Y6, Yz6, bl6, rfl, rfl, hO6, hG6, hB6, hE6⟩
 refine qo0 2 [] [3, 17] [(18, .int .i64 (n6 : Nat)), (19, .int .i64 0)] (on_ (ds_ (at_block (at_rebase fun wR8 hS8 => ?_))))
 have hs6 := hO6.sub hS8 (List.sublist_append_left Y6 _)
 have hnn6 := hO6.len
 have hrd6 := GotE.reads hG6 hE6 hS8 (List.Sublist.trans (List.sublist_append_left Yz6 _) (List.sublist_append_right Y6 _))
 have hf6 := few12_facts hB6
 have h9l6 : ∀ x ∈ bl6, x.n ≤ 1000 := fun x hx => by have h1 := hf6.2 x hx; have h2 := (hrd6 x hx).hn; omega
 refine at_loop (α := Nat × List Ob × Option Addr × Nat × Nat × List EnA) [3, 17, 18, 19] (fun ⟨j, Yo, po, nu, co, ol⟩ => [(3, .slice po nu co), (17, .slice q6 n6 c6), (18, .int .i64 (n6 : Nat)), (19, .int .i64 (j : Nat))]) (fun ⟨j, Yo, po, nu, co, ol⟩ => (Yo ++ [])) (fun ⟨j, Yo, po, nu, co, ol⟩ => j ≤ n6 ∧ nu ≤ j ∧ SlO 47 Yo po nu co ol ∧ ∀ x ∈ ol, x.Reads wR8 ∧ rightE x.val = true) (fun ⟨j, Yo, po, nu, co, ol⟩ => n6 - j) (0, [], none, 0, 0, []) (by kernel_rfl) rfl ⟨Nat.zero_le _, Nat.le_refl _, SlO.nil, (fun x hx => by cases hx)⟩ ?_
 rintro ⟨j, Yo, po, nu, co, ol⟩
 rintro ⟨hj, hnu, hO, hI⟩
 have hlo := hO.len
 refine sq_ ?_
 by_cases q10 : ((j : Nat) : Int) < ((n6 : Nat) : Int)
 ·
  refine qa [(0, .yes)] [3, 17, 18, 19] [(20, .bool true)] ([((j : Nat) : Int) < ((n6 : Nat) : Int)]) (al1 q10) (ds_ (sq_ (t_ (at_skip (ds_ (sq_ (at_block (sq_ ?_))))))))
  obtain ⟨b13, o13, rfl⟩ := hs6.pos (i := j) (by omega)
  obtain ⟨x15, hx15⟩ := get_some (l := bl6) (m := j) (by omega)
  have hrx15 := hrd6 x15 (List.mem_of_getElem? hx15)
  have hsx15 : Sv wR8 x15.p x15.l := hrx15.sv
  have hnx15 : x15.n = x15.l.length := hrx15.hn
  have hcx15 : x15.n ≤ x15.cap := hrx15.hc
  have hbx15 : x15.cap ≤ 9223372036854775807 := hrx15.hb
  have h9x15 := h9l6 x15 (List.mem_of_getElem? hx15)
  refine ma [(0, .at b13 o13 j), (1, .go (outs b13 (o13 + j * 6) [.slice x15.p x15.n x15.cap, .int .u64 x15.th, .int .u64 x15.tl, .int .u64 x15.tw, .int .u64 x15.ord, .bool x15.fresh])), (3, .go (owns 0 0 6))] [3, 17, 18, 19] (fun γ16 => [(5, .pointer (some ⟨γ16 0, 0, none⟩))]) (fun γ16 L => bx (γ16 0) (#[.slice x15.p x15.n x15.cap, .int .u64 x15.th, .int .u64 x15.tl, .int .u64 x15.tw, .int .u64 x15.ord, .bool x15.fresh]) 47 :: L) (fun γ16 => [(some ⟨b13, o13, none⟩ : Option Addr) = some ⟨b13, o13, none⟩, (j : Nat) = ((j : Nat) : Int), j < n6] ++ (cellsP wR8 b13 (o13 + j * 6) [.slice x15.p x15.n x15.cap, .int .u64 x15.th, .int .u64 x15.tl, .int .u64 x15.tw, .int .u64 x15.ord, .bool x15.fresh])) (fun γ16 => (alA (al2 rfl (al2 rfl (al1 (by omega)))) (rd_pre (hs6.get hx15) _ rfl))) (fun γ16 => ds_ (sq_ ?_))
  by_cases q18 : ((x15.n : Nat) : Int) > (0 : Int)
  ·
   refine ao_ (qo 7 [(1, .go (owns 0 0 1)), (3, .yes), (6, .go (owns 0 1 3))] [3, 5, 17, 18, 19] [(27, .bool true), (29, .agg #[.int .u64 x15.th, .int .u64 x15.tl, .int .u64 x15.tw])] ([((x15.n : Nat) : Int) > (0 : Int)]) (al1 q18) ?_)
   rcases q20 : x15.t.ok with _ | _
   ·
    refine cD (.int .i64 150) Try.call19 (fun w hw => by have := fcheck_t x15.t w; rw [q20] at this; exact this) (qo0 2 [] [3, 5, 17, 18, 19] [(32, .bool false)] (on_ (ds_ (f_ (at_skip (done_block (ds_ (qa [(0, .fit)] [3, 17, 18] [(19, .int .i64 (j + 1 : Nat))] ([Fit .i64 ((j + 1 : Nat))]) (al1 (fit64 (by omega) (by omega))) (Done.pick [[bx (γ16 0) (#[.slice x15.p x15.n x15.cap, .int .u64 x15.th, .int .u64 x15.tl, .int .u64 x15.tw, .int .u64 x15.ord, .bool x15.fresh]) 47], Yo] [1] [0] ((Yo ++ [])) (by kernel_rfl) rfl rfl ?_)))))))))
    exact dr [3, 17, 18, 19] (j + 1, Yo, po, nu, co, ol) ⟨by omega, by omega, hO, hI⟩
   ·
    refine cD (.int .i64 0) Try.call19 (fun w hw => by have := fcheck_t x15.t w; rw [q20] at this; exact this) (qo0 2 [] [3, 5, 17, 18, 19] [(32, .bool true)] (on_ (ds_ (t_ (ao_ (mo0 3 [(1, .go (owns 0 0 6))] [17, 18, 19] (fun γ24 => [(33, .slice po nu co), (35, .slice (some ⟨γ24 0, 0, none⟩) 1 1)]) (fun γ24 L => bx (γ24 0) (#[.slice x15.p x15.n x15.cap, .int .u64 x15.th, .int .u64 x15.tl, .int .u64 x15.tw, .int .u64 x15.ord, .bool x15.fresh]) 47 :: L) (fun γ24 => ops_append (α := EnA) [bx (γ24 0) (#[.slice x15.p x15.n x15.cap, .int .u64 x15.th, .int .u64 x15.tl, .int .u64 x15.tw, .int .u64 x15.ord, .bool x15.fresh]) 47, bx (γ16 0) (#[.slice x15.p x15.n x15.cap, .int .u64 x15.th, .int .u64 x15.tl, .int .u64 x15.tw, .int .u64 x15.ord, .bool x15.fresh]) 47] Yo ([]) (.refl _) rfl (by kernel_rfl) (by kernel_rfl) (p := po) (n := nu) (cap := co) (m := 1) (yv := .slice (some ⟨γ24 0, 0, none⟩) 1 1) (by kernel_rfl) (by kernel_rfl) (T := 47) (by_ := 64) (by kernel_rfl) ol ([(⟨x15.p, x15.n, x15.cap, x15.l, x15.th, x15.tl, x15.tw, x15.ord, x15.fresh⟩ : EnA)]) hO (fun w hw => src_svn Try.underlying34 (sv_row (hw.row 0 rfl) (by rfl)) (by rfl)) (by rfl) (by have hmx : maxLen = 9223372036854775807 := rfl; omega) (by have hmx : maxLen = 9223372036854775807 := rfl; omega) (fun Y25 p25 cap25 hO25 => qo0 1 [] [17, 18, 19] [(3, .slice p25 (nu + 1) cap25)] (on_ (done_block (ds_ (qa [(0, .fit)] [3, 17, 18] [(19, .int .i64 (j + 1 : Nat))] ([Fit .i64 ((j + 1 : Nat))]) (al1 (fit64 (by omega) (by omega))) (Done.pick [[bx (γ24 0) (#[.slice x15.p x15.n x15.cap, .int .u64 x15.th, .int .u64 x15.tl, .int .u64 x15.tw, .int .u64 x15.ord, .bool x15.fresh]) 47], [bx (γ16 0) (#[.slice x15.p x15.n x15.cap, .int .u64 x15.th, .int .u64 x15.tl, .int .u64 x15.tw, .int .u64 x15.ord, .bool x15.fresh]) 47], Y25] [2] [0, 1] ((Y25 ++ [])) (by kernel_rfl) rfl rfl ?_)))))))))))))
    exact dr [3, 17, 18, 19] (j + 1, Y25, p25, (nu + 1), cap25, (ol ++ [(⟨x15.p, x15.n, x15.cap, x15.l, x15.th, x15.tl, x15.tw, x15.ord, x15.fresh⟩ : EnA)])) ⟨by omega, by omega, hO25, fun y hy => (List.mem_append.1 hy).elim (hI y) (fun h => by rw [List.mem_singleton.1 h]; exact ⟨hrx15, rt_yes (a := x15.val) (by show 0 < x15.l.length; omega) q20⟩)⟩
  ·
   refine qa [(1, .go (owns 0 0 1)), (3, .no)] [3, 5, 17, 18, 19] [(32, .bool false)] ([¬ (((x15.n : Nat) : Int) > (0 : Int))]) (al1 q18) (ds_ (f_ (at_skip (done_block (ds_ (qa [(0, .fit)] [3, 17, 18] [(19, .int .i64 (j + 1 : Nat))] ([Fit .i64 ((j + 1 : Nat))]) (al1 (fit64 (by omega) (by omega))) (Done.pick [[bx (γ16 0) (#[.slice x15.p x15.n x15.cap, .int .u64 x15.th, .int .u64 x15.tl, .int .u64 x15.tw, .int .u64 x15.ord, .bool x15.fresh]) 47], Yo] [1] [0] ((Yo ++ [])) (by kernel_rfl) rfl rfl ?_)))))))
   exact dr [3, 17, 18, 19] (j + 1, Yo, po, nu, co, ol) ⟨by omega, by omega, hO, hI⟩
 ·
  refine qa [(0, .no)] [3, 17, 18, 19] [(20, .bool false)] ([¬ (((j : Nat) : Int) < ((n6 : Nat) : Int))]) (al1 q10) (ds_ (sq_ (f_ (at_leave _ rfl (ds_ (sq_ (sq_ (qa0 [] [3] [(38, .slice po nu co), (39, .int .i64 (nu : Nat)), (40, .int .i64 0)] (ds_ (at_block (at_rebase fun wR32 hS32 => ?_)))))))))))
  have hsol := hO.sub hS32 (List.sublist_append_left Yo _)
  have hI2 : ∀ x ∈ ol, x.Reads wR32 := fun x hx => (hI x hx).1.kept hS32.below
  have hG2 : ∀ x ∈ ol, rightE x.val = true := fun x hx => (hI x hx).2
  refine at_loop (α := Nat) [3, 38, 39, 40] (fun i => [(3, .slice po nu co), (38, .slice po nu co), (39, .int .i64 (nu : Nat)), (40, .int .i64 (i : Nat))]) (fun i => []) (fun i => i ≤ nu) (fun i => nu - i) 0 (by kernel_rfl) rfl (Nat.zero_le _) ?_
  rintro i
  intro hi
  refine sq_ ?_
  by_cases q34 : ((i : Nat) : Int) < ((nu : Nat) : Int)
  ·
   refine qa [(0, .yes)] [3, 38, 39, 40] [(41, .bool true)] ([((i : Nat) : Int) < ((nu : Nat) : Int)]) (al1 q34) (ds_ (sq_ (t_ (at_skip (ds_ (sq_ (at_block (sq_ ?_))))))))
   obtain ⟨b37, o37, rfl⟩ := hsol.pos (i := i) (by omega)
   obtain ⟨x39, hx39⟩ := get_some (l := ol) (m := i) (by omega)
   have hrx39 := hI2 x39 (List.mem_of_getElem? hx39)
   have hsx39 : Sv wR32 x39.p x39.l := hrx39.sv
   have hnx39 : x39.n = x39.l.length := hrx39.hn
   have hcx39 : x39.n ≤ x39.cap := hrx39.hc
   have hbx39 : x39.cap ≤ 9223372036854775807 := hrx39.hb
   have hgx39 := hG2 x39 (List.mem_of_getElem? hx39)
   refine ma [(0, .at b37 o37 i), (1, .go (outs b37 (o37 + i * 6) [.slice x39.p x39.n x39.cap, .int .u64 x39.th, .int .u64 x39.tl, .int .u64 x39.tw, .int .u64 x39.ord, .bool x39.fresh])), (3, .go (owns 0 0 6))] [3, 38, 39, 40] (fun γ40 => [(7, .pointer (some ⟨γ40 0, 0, none⟩))]) (fun γ40 L => bx (γ40 0) (#[.slice x39.p x39.n x39.cap, .int .u64 x39.th, .int .u64 x39.tl, .int .u64 x39.tw, .int .u64 x39.ord, .bool x39.fresh]) 47 :: L) (fun γ40 => [(some ⟨b37, o37, none⟩ : Option Addr) = some ⟨b37, o37, none⟩, (i : Nat) = ((i : Nat) : Int), i < nu] ++ (cellsP wR32 b37 (o37 + i * 6) [.slice x39.p x39.n x39.cap, .int .u64 x39.th, .int .u64 x39.tl, .int .u64 x39.tw, .int .u64 x39.ord, .bool x39.fresh])) (fun γ40 => (alA (al2 rfl (al2 rfl (al1 (by omega)))) (rd_pre (hsol.get hx39) _ rfl))) (fun γ40 => ds_ (sq_ (qa0 [] [3, 7, 38, 39, 40] [(44, .slice (some ⟨b37, o37, none⟩) nu co), (45, .int .i64 (nu : Nat)), (46, .int .i64 0)] (ds_ (at_block (at_loop (α := Nat) [3, 7, 38, 39, 40, 44, 45, 46] (fun k => [(3, .slice (some ⟨b37, o37, none⟩) nu co), (7, .pointer (some ⟨γ40 0, 0, none⟩)), (38, .slice (some ⟨b37, o37, none⟩) nu co), (39, .int .i64 (nu : Nat)), (40, .int .i64 (i : Nat)), (44, .slice (some ⟨b37, o37, none⟩) nu co), (45, .int .i64 (nu : Nat)), (46, .int .i64 (k : Nat))]) (fun k => [bx (γ40 0) (#[.slice x39.p x39.n x39.cap, .int .u64 x39.th, .int .u64 x39.tl, .int .u64 x39.tw, .int .u64 x39.ord, .bool x39.fresh]) 47]) (fun k => k ≤ nu) (fun k => nu - k) 0 (by kernel_rfl) rfl (Nat.zero_le _) ?_))))))
   rintro k
   intro hk
   refine sq_ ?_
   by_cases q43 : ((k : Nat) : Int) < ((nu : Nat) : Int)
   ·
    refine qa [(0, .yes)] [3, 7, 38, 39, 40, 44, 45, 46] [(47, .bool true)] ([((k : Nat) : Int) < ((nu : Nat) : Int)]) (al1 q43) (ds_ (sq_ (t_ (at_skip (ds_ (sq_ (at_block (sq_ ?_))))))))
    obtain ⟨x46, hx46⟩ := get_some (l := ol) (m := k) (by omega)
    have hrx46 := hI2 x46 (List.mem_of_getElem? hx46)
    have hsx46 : Sv wR32 x46.p x46.l := hrx46.sv
    have hnx46 : x46.n = x46.l.length := hrx46.hn
    have hcx46 : x46.n ≤ x46.cap := hrx46.hc
    have hbx46 : x46.cap ≤ 9223372036854775807 := hrx46.hb
    have hgx46 := hG2 x46 (List.mem_of_getElem? hx46)
    refine ma [(0, .at b37 o37 k), (1, .go (outs b37 (o37 + k * 6) [.slice x46.p x46.n x46.cap, .int .u64 x46.th, .int .u64 x46.tl, .int .u64 x46.tw, .int .u64 x46.ord, .bool x46.fresh])), (3, .go (owns 0 0 6))] [3, 7, 38, 39, 40, 44, 45, 46] (fun γ47 => [(9, .pointer (some ⟨γ47 0, 0, none⟩))]) (fun γ47 L => bx (γ47 0) (#[.slice x46.p x46.n x46.cap, .int .u64 x46.th, .int .u64 x46.tl, .int .u64 x46.tw, .int .u64 x46.ord, .bool x46.fresh]) 47 :: L) (fun γ47 => [(some ⟨b37, o37, none⟩ : Option Addr) = some ⟨b37, o37, none⟩, (k : Nat) = ((k : Nat) : Int), k < nu] ++ (cellsP wR32 b37 (o37 + k * 6) [.slice x46.p x46.n x46.cap, .int .u64 x46.th, .int .u64 x46.tl, .int .u64 x46.tw, .int .u64 x46.ord, .bool x46.fresh])) (fun γ47 => (alA (al2 rfl (al2 rfl (al1 (by omega)))) (rd_pre (hsol.get hx46) _ rfl))) (fun γ47 => ds_ (sq_ ?_))
    refine at_calm rfl (by kernel_rfl) (by kernel_rfl) ?_
    refine cm 2 [(0, .go (owns 1 0 6)), (1, .go (owns 0 0 6))] [3, 7, 9, 38, 39, 40, 44, 45, 46] [(50, .agg #[.slice x39.p x39.n x39.cap, .int .u64 x39.th, .int .u64 x39.tl, .int .u64 x39.tw, .int .u64 x39.ord, .bool x39.fresh]), (51, .agg #[.slice x46.p x46.n x46.cap, .int .u64 x46.th, .int .u64 x46.tl, .int .u64 x46.tw, .int .u64 x46.ord, .bool x46.fresh])] ([]) (by kernel_rfl) rfl al0 ?_
    refine cK (.bool (aheadE x39.val x46.val)) Try.call20 (fun w hw => ahead_t x39 x46 w (hrx39.kept hw.below) (hrx46.kept hw.below)) ?_
    refine cm 2 [(3, .go (owns 0 0 6)), (4, .go (owns 1 0 6))] [3, 7, 9, 38, 39, 40, 44, 45, 46, 52] [(53, .agg #[.slice x46.p x46.n x46.cap, .int .u64 x46.th, .int .u64 x46.tl, .int .u64 x46.tw, .int .u64 x46.ord, .bool x46.fresh]), (54, .agg #[.slice x39.p x39.n x39.cap, .int .u64 x39.th, .int .u64 x39.tl, .int .u64 x39.tw, .int .u64 x39.ord, .bool x39.fresh])] ([]) (by kernel_rfl) rfl al0 ?_
    refine cK (.bool (aheadE x46.val x39.val)) Try.call20 (fun w hw => ahead_t x46 x39 w (hrx46.kept hw.below) (hrx39.kept hw.below)) ?_
    refine cm 2 [] [3, 7, 9, 38, 39, 40, 44, 45, 46] [(10, .bool (aheadE x39.val x46.val)), (11, .bool (aheadE x46.val x39.val))] ([]) (by kernel_rfl) rfl al0 ?_
    refine calm_nil' ?_
    refine ds_ (sq_ (sq_ ?_))
    rcases q51 : (likeE x39.val x46.val) with _ | _
    ·
     rcases q52 : (aheadE x39.val x46.val) with _ | _
     ·
      have hk53 : (aheadE x46.val x39.val) = true := unlike_other hgx39 hgx46 q51 q52
      rw [hk53]
      refine ao_ (qo0 2 [(0, .go (owns 1 0 6)), (1, .go (owns 0 0 6))] [3, 7, 9, 10, 11, 38, 39, 40, 44, 45, 46] [(56, .agg #[.slice x39.p x39.n x39.cap, .int .u64 x39.th, .int .u64 x39.tl, .int .u64 x39.tw, .int .u64 x39.ord, .bool x39.fresh]), (57, .agg #[.slice x46.p x46.n x46.cap, .int .u64 x46.th, .int .u64 x46.tl, .int .u64 x46.tw, .int .u64 x46.ord, .bool x46.fresh])] (cD (.bool false) Try.call21 (fun w hw => by have := like_t x39 x46 w (hrx39.kept hw.below) (hrx46.kept hw.below) (rt_first hgx39) (rt_first hgx46); rw [q51] at this; exact this) (qo0 9 [(10, .go (owns 1 0 6)), (11, .go (owns 0 0 6))] [3, 7, 9, 10, 11, 38, 39, 40, 44, 45, 46] [(65, .bool false), (66, .agg #[.slice x39.p x39.n x39.cap, .int .u64 x39.th, .int .u64 x39.tl, .int .u64 x39.tw, .int .u64 x39.ord, .bool x39.fresh]), (67, .agg #[.slice x46.p x46.n x46.cap, .int .u64 x46.th, .int .u64 x46.tl, .int .u64 x46.tw, .int .u64 x46.ord, .bool x46.fresh])] (cD (.bool false) Try.call21 (fun w hw => by have := like_t x39 x46 w (hrx39.kept hw.below) (hrx46.kept hw.below) (rt_first hgx39) (rt_first hgx46); rw [q51] at this; exact this) (qo 7 [(17, .eqs false)] [3, 7, 9, 10, 38, 39, 40, 44, 45, 46] [(75, .bool false)] ([EqRun Try.prog .eql 4 (.tmp 71) (.tmp 72) (.bool false) (.bool true) false]) (al1 (bool_eq false true)) (on_ (ds_ (f_ (at_skip (ds_ (sq_ (qa0 [] [3, 7, 9, 10, 38, 39, 40, 44, 45, 46] [(76, .slice (some ⟨b37, o37, none⟩) nu co), (77, .int .i64 (nu : Nat)), (78, .int .i64 0)] (ds_ (at_block (at_loop (α := Nat) [3, 7, 9, 10, 38, 39, 40, 44, 45, 46, 76, 77, 78] (fun r => [(3, .slice (some ⟨b37, o37, none⟩) nu co), (7, .pointer (some ⟨γ40 0, 0, none⟩)), (9, .pointer (some ⟨γ47 0, 0, none⟩)), (10, .bool false), (38, .slice (some ⟨b37, o37, none⟩) nu co), (39, .int .i64 (nu : Nat)), (40, .int .i64 (i : Nat)), (44, .slice (some ⟨b37, o37, none⟩) nu co), (45, .int .i64 (nu : Nat)), (46, .int .i64 (k : Nat)), (76, .slice (some ⟨b37, o37, none⟩) nu co), (77, .int .i64 (nu : Nat)), (78, .int .i64 (r : Nat))]) (fun r => [bx (γ47 0) (#[.slice x46.p x46.n x46.cap, .int .u64 x46.th, .int .u64 x46.tl, .int .u64 x46.tw, .int .u64 x46.ord, .bool x46.fresh]) 47, bx (γ40 0) (#[.slice x39.p x39.n x39.cap, .int .u64 x39.th, .int .u64 x39.tl, .int .u64 x39.tw, .int .u64 x39.ord, .bool x39.fresh]) 47]) (fun r => r ≤ nu) (fun r => nu - r) 0 (by kernel_rfl) rfl (Nat.zero_le _) ?_)))))))))))))))
      rintro r
      intro hr
      refine sq_ ?_
      by_cases q59 : ((r : Nat) : Int) < ((nu : Nat) : Int)
      ·
       refine qa [(0, .yes)] [3, 7, 9, 10, 38, 39, 40, 44, 45, 46, 76, 77, 78] [(79, .bool true)] ([((r : Nat) : Int) < ((nu : Nat) : Int)]) (al1 q59) (ds_ (sq_ (t_ (at_skip (ds_ (sq_ (at_block (sq_ ?_))))))))
       obtain ⟨x62, hx62⟩ := get_some (l := ol) (m := r) (by omega)
       have hrx62 := hI2 x62 (List.mem_of_getElem? hx62)
       have hsx62 : Sv wR32 x62.p x62.l := hrx62.sv
       have hnx62 : x62.n = x62.l.length := hrx62.hn
       have hcx62 : x62.n ≤ x62.cap := hrx62.hc
       have hbx62 : x62.cap ≤ 9223372036854775807 := hrx62.hb
       have hgx62 := hG2 x62 (List.mem_of_getElem? hx62)
       refine ma [(0, .at b37 o37 r), (1, .go (outs b37 (o37 + r * 6) [.slice x62.p x62.n x62.cap, .int .u64 x62.th, .int .u64 x62.tl, .int .u64 x62.tw, .int .u64 x62.ord, .bool x62.fresh])), (3, .go (owns 0 0 6))] [3, 7, 9, 10, 38, 39, 40, 44, 45, 46, 76, 77, 78] (fun γ63 => [(13, .pointer (some ⟨γ63 0, 0, none⟩))]) (fun γ63 L => bx (γ63 0) (#[.slice x62.p x62.n x62.cap, .int .u64 x62.th, .int .u64 x62.tl, .int .u64 x62.tw, .int .u64 x62.ord, .bool x62.fresh]) 47 :: L) (fun γ63 => [(some ⟨b37, o37, none⟩ : Option Addr) = some ⟨b37, o37, none⟩, (r : Nat) = ((r : Nat) : Int), r < nu] ++ (cellsP wR32 b37 (o37 + r * 6) [.slice x62.p x62.n x62.cap, .int .u64 x62.th, .int .u64 x62.tl, .int .u64 x62.tw, .int .u64 x62.ord, .bool x62.fresh])) (fun γ63 => (alA (al2 rfl (al2 rfl (al1 (by omega)))) (rd_pre (hsol.get hx62) _ rfl))) (fun γ63 => ds_ (sq_ (qa0 [] [3, 7, 9, 10, 38, 39, 40, 44, 45, 46, 76, 77, 78] [(93, .bool false)] (ds_ (f_ (at_skip (done_block (ds_ (qa [(0, .fit)] [3, 7, 9, 10, 38, 39, 40, 44, 45, 46, 76, 77] [(78, .int .i64 (r + 1 : Nat))] ([Fit .i64 ((r + 1 : Nat))]) (al1 (fit64 (by omega) (by omega))) (Done.drop (L' := [bx (γ47 0) (#[.slice x46.p x46.n x46.cap, .int .u64 x46.th, .int .u64 x46.tl, .int .u64 x46.tw, .int .u64 x46.ord, .bool x46.fresh]) 47, bx (γ40 0) (#[.slice x39.p x39.n x39.cap, .int .u64 x39.th, .int .u64 x39.tl, .int .u64 x39.tw, .int .u64 x39.ord, .bool x39.fresh]) 47]) ?_ (List.Sublist.cons _ (List.Sublist.cons_cons _ (List.Sublist.cons_cons _ (List.Sublist.refl _))))))))))))))
       exact done_round [3, 7, 9, 10, 38, 39, 40, 44, 45, 46, 76, 77, 78] (r + 1) (by kernel_rfl) rfl (by show r + 1 ≤ nu; omega) (by first | omega | (simp only; omega))
      ·
       refine qa [(0, .no)] [3, 7, 9, 10, 38, 39, 40, 44, 45, 46, 76, 77, 78] [(79, .bool false)] ([¬ (((r : Nat) : Int) < ((nu : Nat) : Int))]) (al1 q59) (ds_ (sq_ (f_ (at_leave _ rfl (done_block (ds_ (qa [(0, .fit)] [3, 7, 38, 39, 40, 44, 45] [(46, .int .i64 (k + 1 : Nat))] ([Fit .i64 ((k + 1 : Nat))]) (al1 (fit64 (by omega) (by omega))) (Done.drop (L' := [bx (γ40 0) (#[.slice x39.p x39.n x39.cap, .int .u64 x39.th, .int .u64 x39.tl, .int .u64 x39.tw, .int .u64 x39.ord, .bool x39.fresh]) 47]) ?_ (List.Sublist.cons _ (List.Sublist.cons_cons _ (List.Sublist.refl _)))))))))))
       exact done_round [3, 7, 38, 39, 40, 44, 45, 46] (k + 1) (by kernel_rfl) rfl (by show k + 1 ≤ nu; omega) (by first | omega | (simp only; omega))
     ·
      have hk68 : (aheadE x46.val x39.val) = false := ahead_asym hgx39 hgx46 q52
      rw [hk68]
      refine ao_ (qo0 2 [(0, .go (owns 1 0 6)), (1, .go (owns 0 0 6))] [3, 7, 9, 10, 11, 38, 39, 40, 44, 45, 46] [(56, .agg #[.slice x39.p x39.n x39.cap, .int .u64 x39.th, .int .u64 x39.tl, .int .u64 x39.tw, .int .u64 x39.ord, .bool x39.fresh]), (57, .agg #[.slice x46.p x46.n x46.cap, .int .u64 x46.th, .int .u64 x46.tl, .int .u64 x46.tw, .int .u64 x46.ord, .bool x46.fresh])] (cD (.bool false) Try.call21 (fun w hw => by have := like_t x39 x46 w (hrx39.kept hw.below) (hrx46.kept hw.below) (rt_first hgx39) (rt_first hgx46); rw [q51] at this; exact this) (qo0 9 [(10, .go (owns 1 0 6)), (11, .go (owns 0 0 6))] [3, 7, 9, 10, 11, 38, 39, 40, 44, 45, 46] [(65, .bool false), (66, .agg #[.slice x39.p x39.n x39.cap, .int .u64 x39.th, .int .u64 x39.tl, .int .u64 x39.tw, .int .u64 x39.ord, .bool x39.fresh]), (67, .agg #[.slice x46.p x46.n x46.cap, .int .u64 x46.th, .int .u64 x46.tl, .int .u64 x46.tw, .int .u64 x46.ord, .bool x46.fresh])] (cD (.bool false) Try.call21 (fun w hw => by have := like_t x39 x46 w (hrx39.kept hw.below) (hrx46.kept hw.below) (rt_first hgx39) (rt_first hgx46); rw [q51] at this; exact this) (qo 7 [(17, .eqs false)] [3, 7, 9, 10, 38, 39, 40, 44, 45, 46] [(75, .bool false)] ([EqRun Try.prog .eql 4 (.tmp 71) (.tmp 72) (.bool true) (.bool false) false]) (al1 (bool_eq true false)) (on_ (ds_ (f_ (at_skip (ds_ (sq_ (qa0 [] [3, 7, 9, 10, 38, 39, 40, 44, 45, 46] [(76, .slice (some ⟨b37, o37, none⟩) nu co), (77, .int .i64 (nu : Nat)), (78, .int .i64 0)] (ds_ (at_block (at_loop (α := Nat) [3, 7, 9, 10, 38, 39, 40, 44, 45, 46, 76, 77, 78] (fun r => [(3, .slice (some ⟨b37, o37, none⟩) nu co), (7, .pointer (some ⟨γ40 0, 0, none⟩)), (9, .pointer (some ⟨γ47 0, 0, none⟩)), (10, .bool true), (38, .slice (some ⟨b37, o37, none⟩) nu co), (39, .int .i64 (nu : Nat)), (40, .int .i64 (i : Nat)), (44, .slice (some ⟨b37, o37, none⟩) nu co), (45, .int .i64 (nu : Nat)), (46, .int .i64 (k : Nat)), (76, .slice (some ⟨b37, o37, none⟩) nu co), (77, .int .i64 (nu : Nat)), (78, .int .i64 (r : Nat))]) (fun r => [bx (γ47 0) (#[.slice x46.p x46.n x46.cap, .int .u64 x46.th, .int .u64 x46.tl, .int .u64 x46.tw, .int .u64 x46.ord, .bool x46.fresh]) 47, bx (γ40 0) (#[.slice x39.p x39.n x39.cap, .int .u64 x39.th, .int .u64 x39.tl, .int .u64 x39.tw, .int .u64 x39.ord, .bool x39.fresh]) 47]) (fun r => r ≤ nu) (fun r => nu - r) 0 (by kernel_rfl) rfl (Nat.zero_le _) ?_)))))))))))))))
      rintro r
      intro hr
      refine sq_ ?_
      by_cases q74 : ((r : Nat) : Int) < ((nu : Nat) : Int)
      ·
       refine qa [(0, .yes)] [3, 7, 9, 10, 38, 39, 40, 44, 45, 46, 76, 77, 78] [(79, .bool true)] ([((r : Nat) : Int) < ((nu : Nat) : Int)]) (al1 q74) (ds_ (sq_ (t_ (at_skip (ds_ (sq_ (at_block (sq_ ?_))))))))
       obtain ⟨x77, hx77⟩ := get_some (l := ol) (m := r) (by omega)
       have hrx77 := hI2 x77 (List.mem_of_getElem? hx77)
       have hsx77 : Sv wR32 x77.p x77.l := hrx77.sv
       have hnx77 : x77.n = x77.l.length := hrx77.hn
       have hcx77 : x77.n ≤ x77.cap := hrx77.hc
       have hbx77 : x77.cap ≤ 9223372036854775807 := hrx77.hb
       have hgx77 := hG2 x77 (List.mem_of_getElem? hx77)
       refine ma [(0, .at b37 o37 r), (1, .go (outs b37 (o37 + r * 6) [.slice x77.p x77.n x77.cap, .int .u64 x77.th, .int .u64 x77.tl, .int .u64 x77.tw, .int .u64 x77.ord, .bool x77.fresh])), (3, .go (owns 0 0 6))] [3, 7, 9, 10, 38, 39, 40, 44, 45, 46, 76, 77, 78] (fun γ78 => [(13, .pointer (some ⟨γ78 0, 0, none⟩))]) (fun γ78 L => bx (γ78 0) (#[.slice x77.p x77.n x77.cap, .int .u64 x77.th, .int .u64 x77.tl, .int .u64 x77.tw, .int .u64 x77.ord, .bool x77.fresh]) 47 :: L) (fun γ78 => [(some ⟨b37, o37, none⟩ : Option Addr) = some ⟨b37, o37, none⟩, (r : Nat) = ((r : Nat) : Int), r < nu] ++ (cellsP wR32 b37 (o37 + r * 6) [.slice x77.p x77.n x77.cap, .int .u64 x77.th, .int .u64 x77.tl, .int .u64 x77.tw, .int .u64 x77.ord, .bool x77.fresh])) (fun γ78 => (alA (al2 rfl (al2 rfl (al1 (by omega)))) (rd_pre (hsol.get hx77) _ rfl))) (fun γ78 => ds_ (sq_ (ao_ (qo0 4 [(2, .go (owns 1 0 6)), (3, .go (owns 0 0 6))] [3, 7, 9, 10, 13, 38, 39, 40, 44, 45, 46, 76, 77, 78] [(83, .bool true), (84, .agg #[.slice x46.p x46.n x46.cap, .int .u64 x46.th, .int .u64 x46.tl, .int .u64 x46.tw, .int .u64 x46.ord, .bool x46.fresh]), (85, .agg #[.slice x77.p x77.n x77.cap, .int .u64 x77.th, .int .u64 x77.tl, .int .u64 x77.tw, .int .u64 x77.ord, .bool x77.fresh])] (cD (.bool (aheadE x46.val x77.val)) Try.call20 (fun w hw => ahead_t x46 x77 w (hrx46.kept hw.below) (hrx77.kept hw.below)) ?_)))))
       rcases q81 : (aheadE x46.val x77.val) with _ | _
       ·
        refine qo0 7 [] [3, 7, 9, 10, 38, 39, 40, 44, 45, 46, 76, 77, 78] [(93, .bool false)] (on_ (ds_ (f_ (at_skip (done_block (ds_ (qa [(0, .fit)] [3, 7, 9, 10, 38, 39, 40, 44, 45, 46, 76, 77] [(78, .int .i64 (r + 1 : Nat))] ([Fit .i64 ((r + 1 : Nat))]) (al1 (fit64 (by omega) (by omega))) (Done.drop (L' := [bx (γ47 0) (#[.slice x46.p x46.n x46.cap, .int .u64 x46.th, .int .u64 x46.tl, .int .u64 x46.tw, .int .u64 x46.ord, .bool x46.fresh]) 47, bx (γ40 0) (#[.slice x39.p x39.n x39.cap, .int .u64 x39.th, .int .u64 x39.tl, .int .u64 x39.tw, .int .u64 x39.ord, .bool x39.fresh]) 47]) ?_ (List.Sublist.cons _ (List.Sublist.cons_cons _ (List.Sublist.cons_cons _ (List.Sublist.refl _))))))))))))
        exact done_round [3, 7, 9, 10, 38, 39, 40, 44, 45, 46, 76, 77, 78] (r + 1) (by kernel_rfl) rfl (by show r + 1 ≤ nu; omega) (by first | omega | (simp only; omega))
       ·
        refine qo0 4 [(7, .go (owns 2 0 6)), (8, .go (owns 0 0 6))] [3, 7, 9, 10, 38, 39, 40, 44, 45, 46, 76, 77, 78] [(88, .bool true), (89, .agg #[.slice x39.p x39.n x39.cap, .int .u64 x39.th, .int .u64 x39.tl, .int .u64 x39.tw, .int .u64 x39.ord, .bool x39.fresh]), (90, .agg #[.slice x77.p x77.n x77.cap, .int .u64 x77.th, .int .u64 x77.tl, .int .u64 x77.tw, .int .u64 x77.ord, .bool x77.fresh])] (cD (.bool true) Try.call20 (fun w hw => by have := ahead_t x39 x77 w (hrx39.kept hw.below) (hrx77.kept hw.below); rw [ahead_trans hgx39 hgx46 hgx77 q52 q81] at this; exact this) (qo0 2 [] [3, 7, 9, 10, 38, 39, 40, 44, 45, 46, 76, 77, 78] [(93, .bool false)] (on_ (ds_ (f_ (at_skip (done_block (ds_ (qa [(0, .fit)] [3, 7, 9, 10, 38, 39, 40, 44, 45, 46, 76, 77] [(78, .int .i64 (r + 1 : Nat))] ([Fit .i64 ((r + 1 : Nat))]) (al1 (fit64 (by omega) (by omega))) (Done.drop (L' := [bx (γ47 0) (#[.slice x46.p x46.n x46.cap, .int .u64 x46.th, .int .u64 x46.tl, .int .u64 x46.tw, .int .u64 x46.ord, .bool x46.fresh]) 47, bx (γ40 0) (#[.slice x39.p x39.n x39.cap, .int .u64 x39.th, .int .u64 x39.tl, .int .u64 x39.tw, .int .u64 x39.ord, .bool x39.fresh]) 47]) ?_ (List.Sublist.cons _ (List.Sublist.cons_cons _ (List.Sublist.cons_cons _ (List.Sublist.refl _))))))))))))))
        exact done_round [3, 7, 9, 10, 38, 39, 40, 44, 45, 46, 76, 77, 78] (r + 1) (by kernel_rfl) rfl (by show r + 1 ≤ nu; omega) (by first | omega | (simp only; omega))
      ·
       refine qa [(0, .no)] [3, 7, 9, 10, 38, 39, 40, 44, 45, 46, 76, 77, 78] [(79, .bool false)] ([¬ (((r : Nat) : Int) < ((nu : Nat) : Int))]) (al1 q74) (ds_ (sq_ (f_ (at_leave _ rfl (done_block (ds_ (qa [(0, .fit)] [3, 7, 38, 39, 40, 44, 45] [(46, .int .i64 (k + 1 : Nat))] ([Fit .i64 ((k + 1 : Nat))]) (al1 (fit64 (by omega) (by omega))) (Done.drop (L' := [bx (γ40 0) (#[.slice x39.p x39.n x39.cap, .int .u64 x39.th, .int .u64 x39.tl, .int .u64 x39.tw, .int .u64 x39.ord, .bool x39.fresh]) 47]) ?_ (List.Sublist.cons _ (List.Sublist.cons_cons _ (List.Sublist.refl _)))))))))))
       exact done_round [3, 7, 38, 39, 40, 44, 45, 46] (k + 1) (by kernel_rfl) rfl (by show k + 1 ≤ nu; omega) (by first | omega | (simp only; omega))
    ·
     have hk89 : (aheadE x39.val x46.val) = false := like_no1 hgx39 hgx46 q51
     rw [hk89]
     have hk90 : (aheadE x46.val x39.val) = false := like_no2 hgx39 hgx46 q51
     rw [hk90]
     refine ao_ (qo0 2 [(0, .go (owns 1 0 6)), (1, .go (owns 0 0 6))] [3, 7, 9, 10, 11, 38, 39, 40, 44, 45, 46] [(56, .agg #[.slice x39.p x39.n x39.cap, .int .u64 x39.th, .int .u64 x39.tl, .int .u64 x39.tw, .int .u64 x39.ord, .bool x39.fresh]), (57, .agg #[.slice x46.p x46.n x46.cap, .int .u64 x46.th, .int .u64 x46.tl, .int .u64 x46.tw, .int .u64 x46.ord, .bool x46.fresh])] (cD (.bool true) Try.call21 (fun w hw => by have := like_t x39 x46 w (hrx39.kept hw.below) (hrx46.kept hw.below) (rt_first hgx39) (rt_first hgx46); rw [q51] at this; exact this) (qo0 9 [(10, .go (owns 1 0 6)), (11, .go (owns 0 0 6))] [3, 7, 9, 10, 11, 38, 39, 40, 44, 45, 46] [(65, .bool false), (66, .agg #[.slice x39.p x39.n x39.cap, .int .u64 x39.th, .int .u64 x39.tl, .int .u64 x39.tw, .int .u64 x39.ord, .bool x39.fresh]), (67, .agg #[.slice x46.p x46.n x46.cap, .int .u64 x46.th, .int .u64 x46.tl, .int .u64 x46.tw, .int .u64 x46.ord, .bool x46.fresh])] (cD (.bool true) Try.call21 (fun w hw => by have := like_t x39 x46 w (hrx39.kept hw.below) (hrx46.kept hw.below) (rt_first hgx39) (rt_first hgx46); rw [q51] at this; exact this) (qo0 7 [] [3, 7, 9, 10, 38, 39, 40, 44, 45, 46] [(75, .bool false)] (on_ (ds_ (f_ (at_skip (ds_ (sq_ (qa0 [] [3, 7, 9, 10, 38, 39, 40, 44, 45, 46] [(76, .slice (some ⟨b37, o37, none⟩) nu co), (77, .int .i64 (nu : Nat)), (78, .int .i64 0)] (ds_ (at_block (at_loop (α := Nat) [3, 7, 9, 10, 38, 39, 40, 44, 45, 46, 76, 77, 78] (fun r => [(3, .slice (some ⟨b37, o37, none⟩) nu co), (7, .pointer (some ⟨γ40 0, 0, none⟩)), (9, .pointer (some ⟨γ47 0, 0, none⟩)), (10, .bool false), (38, .slice (some ⟨b37, o37, none⟩) nu co), (39, .int .i64 (nu : Nat)), (40, .int .i64 (i : Nat)), (44, .slice (some ⟨b37, o37, none⟩) nu co), (45, .int .i64 (nu : Nat)), (46, .int .i64 (k : Nat)), (76, .slice (some ⟨b37, o37, none⟩) nu co), (77, .int .i64 (nu : Nat)), (78, .int .i64 (r : Nat))]) (fun r => [bx (γ47 0) (#[.slice x46.p x46.n x46.cap, .int .u64 x46.th, .int .u64 x46.tl, .int .u64 x46.tw, .int .u64 x46.ord, .bool x46.fresh]) 47, bx (γ40 0) (#[.slice x39.p x39.n x39.cap, .int .u64 x39.th, .int .u64 x39.tl, .int .u64 x39.tw, .int .u64 x39.ord, .bool x39.fresh]) 47]) (fun r => r ≤ nu) (fun r => nu - r) 0 (by kernel_rfl) rfl (Nat.zero_le _) ?_)))))))))))))))
     rintro r
     intro hr
     refine sq_ ?_
     by_cases q96 : ((r : Nat) : Int) < ((nu : Nat) : Int)
     ·
      refine qa [(0, .yes)] [3, 7, 9, 10, 38, 39, 40, 44, 45, 46, 76, 77, 78] [(79, .bool true)] ([((r : Nat) : Int) < ((nu : Nat) : Int)]) (al1 q96) (ds_ (sq_ (t_ (at_skip (ds_ (sq_ (at_block (sq_ ?_))))))))
      obtain ⟨x99, hx99⟩ := get_some (l := ol) (m := r) (by omega)
      have hrx99 := hI2 x99 (List.mem_of_getElem? hx99)
      have hsx99 : Sv wR32 x99.p x99.l := hrx99.sv
      have hnx99 : x99.n = x99.l.length := hrx99.hn
      have hcx99 : x99.n ≤ x99.cap := hrx99.hc
      have hbx99 : x99.cap ≤ 9223372036854775807 := hrx99.hb
      have hgx99 := hG2 x99 (List.mem_of_getElem? hx99)
      refine ma [(0, .at b37 o37 r), (1, .go (outs b37 (o37 + r * 6) [.slice x99.p x99.n x99.cap, .int .u64 x99.th, .int .u64 x99.tl, .int .u64 x99.tw, .int .u64 x99.ord, .bool x99.fresh])), (3, .go (owns 0 0 6))] [3, 7, 9, 10, 38, 39, 40, 44, 45, 46, 76, 77, 78] (fun γ100 => [(13, .pointer (some ⟨γ100 0, 0, none⟩))]) (fun γ100 L => bx (γ100 0) (#[.slice x99.p x99.n x99.cap, .int .u64 x99.th, .int .u64 x99.tl, .int .u64 x99.tw, .int .u64 x99.ord, .bool x99.fresh]) 47 :: L) (fun γ100 => [(some ⟨b37, o37, none⟩ : Option Addr) = some ⟨b37, o37, none⟩, (r : Nat) = ((r : Nat) : Int), r < nu] ++ (cellsP wR32 b37 (o37 + r * 6) [.slice x99.p x99.n x99.cap, .int .u64 x99.th, .int .u64 x99.tl, .int .u64 x99.tw, .int .u64 x99.ord, .bool x99.fresh])) (fun γ100 => (alA (al2 rfl (al2 rfl (al1 (by omega)))) (rd_pre (hsol.get hx99) _ rfl))) (fun γ100 => ds_ (sq_ (qa0 [] [3, 7, 9, 10, 38, 39, 40, 44, 45, 46, 76, 77, 78] [(93, .bool false)] (ds_ (f_ (at_skip (done_block (ds_ (qa [(0, .fit)] [3, 7, 9, 10, 38, 39, 40, 44, 45, 46, 76, 77] [(78, .int .i64 (r + 1 : Nat))] ([Fit .i64 ((r + 1 : Nat))]) (al1 (fit64 (by omega) (by omega))) (Done.drop (L' := [bx (γ47 0) (#[.slice x46.p x46.n x46.cap, .int .u64 x46.th, .int .u64 x46.tl, .int .u64 x46.tw, .int .u64 x46.ord, .bool x46.fresh]) 47, bx (γ40 0) (#[.slice x39.p x39.n x39.cap, .int .u64 x39.th, .int .u64 x39.tl, .int .u64 x39.tw, .int .u64 x39.ord, .bool x39.fresh]) 47]) ?_ (List.Sublist.cons _ (List.Sublist.cons_cons _ (List.Sublist.cons_cons _ (List.Sublist.refl _))))))))))))))
      exact done_round [3, 7, 9, 10, 38, 39, 40, 44, 45, 46, 76, 77, 78] (r + 1) (by kernel_rfl) rfl (by show r + 1 ≤ nu; omega) (by first | omega | (simp only; omega))
     ·
      refine qa [(0, .no)] [3, 7, 9, 10, 38, 39, 40, 44, 45, 46, 76, 77, 78] [(79, .bool false)] ([¬ (((r : Nat) : Int) < ((nu : Nat) : Int))]) (al1 q96) (ds_ (sq_ (f_ (at_leave _ rfl (done_block (ds_ (qa [(0, .fit)] [3, 7, 38, 39, 40, 44, 45] [(46, .int .i64 (k + 1 : Nat))] ([Fit .i64 ((k + 1 : Nat))]) (al1 (fit64 (by omega) (by omega))) (Done.drop (L' := [bx (γ40 0) (#[.slice x39.p x39.n x39.cap, .int .u64 x39.th, .int .u64 x39.tl, .int .u64 x39.tw, .int .u64 x39.ord, .bool x39.fresh]) 47]) ?_ (List.Sublist.cons _ (List.Sublist.cons_cons _ (List.Sublist.refl _)))))))))))
      exact done_round [3, 7, 38, 39, 40, 44, 45, 46] (k + 1) (by kernel_rfl) rfl (by show k + 1 ≤ nu; omega) (by first | omega | (simp only; omega))
   ·
    refine qa [(0, .no)] [3, 7, 38, 39, 40, 44, 45, 46] [(47, .bool false)] ([¬ (((k : Nat) : Int) < ((nu : Nat) : Int))]) (al1 q43) (ds_ (sq_ (f_ (at_leave _ rfl (done_block (ds_ (qa [(0, .fit)] [3, 38, 39] [(40, .int .i64 (i + 1 : Nat))] ([Fit .i64 ((i + 1 : Nat))]) (al1 (fit64 (by omega) (by omega))) (Done.drop (L' := []) ?_ (List.Sublist.cons _ (List.Sublist.refl _))))))))))
    exact done_round [3, 38, 39, 40] (i + 1) (by kernel_rfl) rfl (by show i + 1 ≤ nu; omega) (by first | omega | (simp only; omega))
  ·
   refine qa [(0, .no)] [3, 38, 39, 40] [(41, .bool false)] ([¬ (((i : Nat) : Int) < ((nu : Nat) : Int))]) (al1 q34) (ds_ (sq_ (f_ (at_leave _ rfl (ds_ (sq_ (qa0 [] [] [(2, .bool true)] (ds_ (rt ([]) (.bool true) ?_)))))))))
   exact fun w' hw => ⟨rfl, ((hS8.over hS32).over hw).below⟩
end Go.Proofs.Ytoljahfofkmdaaa

/-! The walker: what a row's inputs are: slices and structs, opened into lists. -/
namespace Go.Proofs.Ytoljahfofkmdaaa
open Go Go.RowKit

section
variable {H : Type} {enc : TypeId × Value → H} {P : Program} {w : World} {base : Nat} {spare : Nat → Bool} {held : Bool}
theorem spot_none {a : Addr} (h : a.spot = none) : a = ⟨a.block, a.off, none⟩ := by
  cases a
  simp at h
  simp [h]
theorem trod_sv {α : Type} [Enc α] {t e : TypeId} {fuel : Nat} {cs : List Value} {x : DataW H × List MemPlace} {Good : α → Prop} (ht : P.underlying t = some (.slice e)) (hc : P.cellsOf e = Enc.k α)
    (hopen : ∀ (fuel : Nat) (cs : List Value) (x : DataW H × List MemPlace), DataW.trod enc P w base spare held fuel e cs = some x → ∃ a : α, cs = Enc.enc a ∧ Good a) (h : DataW.trod enc P w base spare held fuel t cs = some x) :
    ∃ (p : Option Addr) (n cap : Nat) (l : List α), cs = [.slice p n cap] ∧ Sv w p l ∧ n = l.length ∧ n ≤ cap ∧ cap ≤ maxLen ∧ ∀ y ∈ l, Good y := by
  rcases Deep.open_slice ht h with ⟨hcs, _⟩ | ⟨a, len, cap, m, n', D, Pl, hcs, _, hle, hmx, hm, _, hi⟩
  · exact ⟨none, 0, 0, [], hcs, Sv.nil, rfl, Nat.le_refl _, Nat.zero_le _, fun y hy => by cases hy⟩
  · have key : ∀ i, i < len → ∃ y : α, w.cells? base (a.add (i * Enc.k α)) (Enc.k α) = some (Enc.enc y) ∧ Good y := fun i hin => by
      have him : i < m := by rw [hm]; split <;> omega
      obtain ⟨cs', h1, h2⟩ := hi i him
      obtain ⟨y, rfl, hy⟩ := hopen _ _ _ h2
      rw [hc] at h1
      exact ⟨y, h1, hy⟩
    rcases Nat.eq_zero_or_pos len with h0 | h0
    · subst h0
      exact ⟨some a, 0, cap, [], hcs, Sv.nil, rfl, hle, hmx, fun y hy => by cases hy⟩
    · obtain ⟨y0, hy0, _⟩ := key 0 h0
      haveI : Inhabited α := ⟨y0⟩
      obtain ⟨f, hf⟩ := Deep.choose_lt key
      obtain ⟨_, _, hcell⟩ := World.cells?_some hy0
      have h00 := hcell 0 Enc.pos
      have hlen0 : 0 < (Enc.enc y0).length := by rw [Enc.len]; exact Enc.pos
      rw [List.getElem?_eq_getElem hlen0, Nat.zero_mul, show (a.add 0).add 0 = a by simp [Addr.add]] at h00
      have hsp := spot_none (World.cell?_spot h00)
      refine ⟨some a, len, cap, (List.range len).map f, hcs, ⟨fun _ => ⟨a.block, a.off, by rw [← hsp]⟩, fun b o hbo i hil => ?_⟩, by simp, hle, hmx, fun y hy => ?_⟩
      · have hil' : i < len := by simpa using hil
        obtain ⟨_, _, hc2⟩ := World.cells?_some (hf i hil').1
        have ha : a = ⟨b, o, none⟩ := by simpa using hbo
        subst ha
        intro j v hj
        have hjk : j < Enc.k α := by rw [← Enc.len (f i)]; have := (List.getElem?_eq_some_iff.1 hj).1; simpa using this
        have h3 := hc2 j hjk
        rw [Deep.add_add] at h3
        have h4 : (Enc.enc (f i))[j]? = some v := by simpa using hj
        rw [h4] at h3
        have h5 : (⟨b, o, none⟩ : Addr).add (i * Enc.k α + j) = ⟨b, o + i * Enc.k α + j, none⟩ := by
          unfold Addr.add; split <;> simp_all <;> omega
        rw [h5] at h3
        exact h3
      · obtain ⟨i, hir, rfl⟩ := List.mem_map.1 hy
        exact (hf i (List.mem_range.1 hir)).2
theorem list2' {α : Type} {cs : List α} (h : cs.length = 2) : ∃ c0 c1, cs = [c0, c1] := by
  match cs, h with
  | [a, b], _ => exact ⟨a, b, rfl⟩
theorem trod_int1 {t : TypeId} {fuel : Nat} {cs : List Value} {x : DataW H × List MemPlace} (ht : P.underlying t = some (.int .i64)) (h : DataW.trod enc P w base spare held fuel t cs = some x) : ∃ a : Int, cs = Enc.enc a ∧ True := by
  obtain ⟨a, rfl, _, _⟩ := DataW.trod_int ht h
  exact ⟨a, rfl, trivial⟩
end
end Go.Proofs.Ytoljahfofkmdaaa

/-! Chapter 10: what the rows' inputs are. -/
namespace Go.Proofs.Ytoljahfofkmdaaa
open Go Go.RowKit Go.ChangeShapes Go.WideShapes

section
variable {H : Type} {enc : TypeId × Value → H} {w : World} {base : Nat} {spare : Nat → Bool} {held : Bool}
theorem cInt0 : Try.prog.cellsOf 3 = 1 := by kernel_rfl
theorem cU64 : Try.prog.cellsOf 41 = 1 := by kernel_rfl
theorem cWid : Try.prog.cellsOf 43 = 2 := by kernel_rfl
theorem cFra : Try.prog.cellsOf 45 = 3 := by kernel_rfl
theorem list3u {α : Type} {cs : List α} (h : cs.length = 3) : ∃ a b c, cs = [a, b, c] := by
  match cs, h with
  | [a, b, c], _ => exact ⟨a, b, c, rfl⟩
theorem u64_wf {n : Int} (h : (Lit.int .u64 n).wf = true) : 0 ≤ n ∧ n < 18446744073709551616 := by
  simp only [Lit.wf, Bool.and_eq_true, decide_eq_true_eq] at h
  have h1 : (0 : Int) ≤ n := h.1
  have h2 : n ≤ 18446744073709551615 := h.2
  omega
set_option maxRecDepth 100000 in
theorem wide_open {fuel : Nat} {cs : List Value} {x : DataW H × List MemPlace} (h : DataW.trod enc Try.prog w base spare held fuel 43 cs = some x) : ∃ a b : Int, cs = [.int .u64 a, .int .u64 b] ∧ (0 ≤ a ∧ a < 18446744073709551616) ∧ (0 ≤ b ∧ b < 18446744073709551616) := by
  obtain ⟨xs, n, _, rfl, hl, hlen, hf⟩ := DataW.trod_struct Try.underlying43 h
  rw [cWid] at hl
  obtain ⟨c0, c1, rfl⟩ := list2' hl
  obtain ⟨y0, y1, rfl⟩ := list2' hlen
  have h0 : DataW.trod enc Try.prog w base spare held n 41 (([c0, c1].drop 0).take (Try.prog.cellsOf 41)) = some y0 := hf 0 _ rfl
  have h1 : DataW.trod enc Try.prog w base spare held n 41 (([c0, c1].drop 1).take (Try.prog.cellsOf 41)) = some y1 := hf 1 _ rfl
  clear hf hl hlen h
  rw [cU64] at h0 h1
  simp only [List.drop_zero, List.take_succ_cons, List.take_zero, List.drop_succ_cons] at h0 h1
  obtain ⟨a, e0, _, f0⟩ := DataW.trod_int Try.underlying41 h0
  obtain ⟨b, e1, _, f1⟩ := DataW.trod_int Try.underlying41 h1
  simp only [List.cons.injEq, and_true] at e0 e1
  subst e0; subst e1
  exact ⟨a, b, rfl, u64_wf f0, u64_wf f1⟩
set_option maxRecDepth 100000 in
theorem fq_open {fuel : Nat} {cs : List Value} {x : DataW H × List MemPlace} (h : DataW.trod enc Try.prog w base spare held fuel 45 cs = some x) : ∃ a : Fq, cs = Enc.enc a ∧ a.U := by
  obtain ⟨xs, n, _, rfl, hl, hlen, hf⟩ := DataW.trod_struct Try.underlying45 h
  rw [cFra] at hl
  obtain ⟨c0, c1, c2, rfl⟩ := list3u hl
  obtain ⟨y0, y1, rfl⟩ := list2' hlen
  have h0 : DataW.trod enc Try.prog w base spare held n 43 (([c0, c1, c2].drop 0).take (Try.prog.cellsOf 43)) = some y0 := hf 0 _ rfl
  have h1 : DataW.trod enc Try.prog w base spare held n 41 (([c0, c1, c2].drop 2).take (Try.prog.cellsOf 41)) = some y1 := hf 1 _ rfl
  clear hf hl hlen h
  rw [cWid] at h0
  rw [cU64] at h1
  simp only [List.drop_zero, List.take_succ_cons, List.take_zero, List.drop_succ_cons] at h0 h1
  obtain ⟨a, b, e0, fa, fb⟩ := wide_open h0
  obtain ⟨c, e1, _, f1⟩ := DataW.trod_int Try.underlying41 h1
  simp only [List.cons.injEq, and_true] at e0 e1
  obtain ⟨rfl, rfl⟩ := e0
  subst e1
  have fc := u64_wf f1
  exact ⟨⟨a, b, c⟩, rfl, ⟨fa.1, fa.2, fb.1, fb.2, fc.1, fc.2⟩⟩
end
end Go.Proofs.Ytoljahfofkmdaaa

/-! What is put in order, as an element; plain. -/
namespace Go.Proofs.Ytoljahfofkmdaaa
open Go Go.RowKit

structure RowO where
  p : Option Addr
  n : Nat
  cap : Nat
  ts : List Rn
  pw : Option Addr
  nw : Nat
  capw : Nat
  ws : List Wt
  q : Option Addr
  m : Nat
  capq : Nat
  al : List IntsA
def RowO.enc (x : RowO) : List Value := [.slice x.p x.n x.cap, .slice x.pw x.nw x.capw, .slice x.q x.m x.capq]
instance : Enc RowO := ⟨RowO.enc, 3, fun _ => rfl, fun x v h => by simp [RowO.enc] at h; rcases h with rfl | rfl | rfl <;> rfl, by decide⟩
structure RowO.Reads (x : RowO) (w : World) : Prop where
  hts : Sv w x.p x.ts
  hn : x.n = x.ts.length
  hcp : x.n ≤ x.cap
  hbg : x.cap ≤ 9223372036854775807
  hU : ∀ r ∈ x.ts, r.U
  hws : Sv w x.pw x.ws
  hnw : x.nw = x.ws.length
  hcw : x.nw ≤ x.capw
  hbw : x.capw ≤ 9223372036854775807
  hWU : ∀ r ∈ x.ws, r.U
  hal : Sv w x.q x.al
  hma : x.m = x.al.length
  hcq : x.m ≤ x.capq
  hbq : x.capq ≤ 9223372036854775807
  hnm : ∀ y ∈ x.al, y.Reads w
theorem RowO.Reads.kept {x : RowO} {w w' : World} (h : x.Reads w) (hb : Below w.heap.size w w') : x.Reads w' :=
  ⟨h.hts.kept hb, h.hn, h.hcp, h.hbg, h.hU, h.hws.kept hb, h.hnw, h.hcw, h.hbw, h.hWU, h.hal.kept hb, h.hma, h.hcq, h.hbq, fun y hy => (h.hnm y hy).kept hb⟩
end Go.Proofs.Ytoljahfofkmdaaa

/-! Chapter 12: what the rows' inputs are. -/
namespace Go.Proofs.Ytoljahfofkmdaaa
open Go Go.RowKit Go.ChangeShapes Go.WideShapes
theorem list4o {α : Type} {cs : List α} (h : cs.length = 4) : ∃ a b c d, cs = [a, b, c, d] := by
  match cs, h with
  | [a, b, c, d], _ => exact ⟨a, b, c, d, rfl⟩
theorem list6o {α : Type} {cs : List α} (h : cs.length = 6) : ∃ a b c d e f, cs = [a, b, c, d, e, f] := by
  match cs, h with
  | [a, b, c, d, e, f], _ => exact ⟨a, b, c, d, e, f, rfl⟩

section
variable {H : Type} {enc : TypeId × Value → H} {w : World} {base : Nat} {spare : Nat → Bool} {held : Bool}
theorem cIntsO : Try.prog.cellsOf 40 = 1 := by kernel_rfl
theorem cEntO : Try.prog.cellsOf 47 = 6 := by kernel_rfl
theorem cBoolO : Try.prog.cellsOf 4 = 1 := by kernel_rfl
set_option maxRecDepth 100000 in
theorem intsA_open {fuel : Nat} {cs : List Value} {x : DataW H × List MemPlace} (h : DataW.trod enc Try.prog w base spare held fuel 40 cs = some x) : ∃ a : IntsA, cs = Enc.enc a ∧ a.Reads w := by
  obtain ⟨p, m, cap, l, he, hs, hn, hle, hmx, _⟩ := trod_sv (α := Int) (Good := fun _ => True) Try.underlying40 cInt0 (fun _ _ _ h => trod_int1 Try.underlying3 h) h
  exact ⟨⟨p, m, cap, l⟩, he, ⟨hs, hn, hle, hmx⟩⟩
set_option maxRecDepth 100000 in
theorem ent_open {fuel : Nat} {cs : List Value} {x : DataW H × List MemPlace} (h : DataW.trod enc Try.prog w base spare held fuel 47 cs = some x) : ∃ a : EnA, cs = Enc.enc a ∧ a.Reads w := by
  obtain ⟨xs, n, _, rfl, hl, hlen, hf⟩ := DataW.trod_struct Try.underlying47 h
  rw [cEntO] at hl
  obtain ⟨c0, c1, c2, c3, c4, c5, rfl⟩ := list6o hl
  obtain ⟨y0, y1, y2, y3, rfl⟩ := list4o hlen
  have h0 : DataW.trod enc Try.prog w base spare held n 40 (([c0, c1, c2, c3, c4, c5].drop 0).take (Try.prog.cellsOf 40)) = some y0 := hf 0 _ rfl
  have h1 : DataW.trod enc Try.prog w base spare held n 45 (([c0, c1, c2, c3, c4, c5].drop 1).take (Try.prog.cellsOf 45)) = some y1 := hf 1 _ rfl
  have h2 : DataW.trod enc Try.prog w base spare held n 41 (([c0, c1, c2, c3, c4, c5].drop 4).take (Try.prog.cellsOf 41)) = some y2 := hf 2 _ rfl
  have h3 : DataW.trod enc Try.prog w base spare held n 4 (([c0, c1, c2, c3, c4, c5].drop 5).take (Try.prog.cellsOf 4)) = some y3 := hf 3 _ rfl
  clear hf hl hlen h
  rw [cIntsO] at h0
  rw [cFra] at h1
  rw [cU64] at h2
  rw [cBoolO] at h3
  simp only [List.drop_zero, List.take_succ_cons, List.take_zero, List.drop_succ_cons] at h0 h1 h2 h3
  obtain ⟨a, ea, ha⟩ := intsA_open h0
  obtain ⟨t, e1, ht⟩ := fq_open h1
  obtain ⟨b, e2, _, f2⟩ := DataW.trod_int Try.underlying41 h2
  obtain ⟨d, e3, _⟩ := DataW.trod_bool Try.underlying4 h3
  have ea' : [c0] = [Value.slice a.p a.n a.cap] := ea
  have e1' : [c1, c2, c3] = [Value.int .u64 t.hi, .int .u64 t.lo, .int .u64 t.w] := e1
  simp only [List.cons.injEq, and_true] at ea' e1' e2 e3
  subst ea'; obtain ⟨rfl, rfl, rfl⟩ := e1'
  subst e2; subst e3
  have g := u64_wf f2
  exact ⟨⟨a.p, a.n, a.cap, a.l, t.hi, t.lo, t.w, b, d⟩, rfl, ⟨ha.sv, ha.hn, ha.hc, ha.hb, ht, g.1, g.2⟩⟩
set_option maxRecDepth 100000 in
theorem ents_open {v : Value} {d : DataW H} {pl : List MemPlace} (hv : Value.okWide Try.prog w .any base 34 v) (h : DataW.Trod enc Try.prog w 0 spare held 34 v d pl) :
    ∃ (q : Option Addr) (m cap : Nat) (l : List EnA), v = .slice q m cap ∧ Sv w q l ∧ m = l.length ∧ m ≤ cap ∧ cap ≤ 9223372036854775807 ∧ ∀ x ∈ l, x.Reads w := by
  obtain ⟨a, n, c, rfl⟩ := okWide_slice Try.underlying34 hv
  obtain ⟨fuel, hf⟩ := h
  obtain ⟨p, m, cap, l, he, hs, hn, hle, hmx, hg⟩ := trod_sv (α := EnA) Try.underlying34 cEntO (fun _ _ _ h => ent_open h) hf
  have : a = p ∧ n = m ∧ c = cap := by simpa [Value.cells] using he
  obtain ⟨rfl, rfl, rfl⟩ := this
  exact ⟨a, n, c, l, rfl, hs, hn, hle, hmx, hg⟩
end
end Go.Proofs.Ytoljahfofkmdaaa
