/- Texts of this proof, one behind the other. -/
import Derived.Test.YtoljahfofkmdaaaZc
import Derived.Test.YtoljahfofkmdaaaZd
import Derived.Test.YtoljahfofkmdaaaZa
import Derived.ProofKit
import Derived.Carry
import Derived.Deep.Slices
import Derived.Lib.SmallJoins
import Derived.Test.YtoljahfofkmdaaaProg
import Derived.Test.YtoljahfofkmdaaaZb
/-! The statement OrderAhead, walked. -/
namespace Go.Proofs.Ytoljahfofkmdaaa
open Go Go.RowKit

set_option maxRecDepth 100000 in
theorem ahead_law (q : Option Addr) (m capq : Nat) (al : List EnA) (pm : Option Addr) (nm capm : Nat) (ml : List Int) (w : World)
 (hal : Sv w q al) (hma : m = al.length) (hbm : m ≤ 9223372036854775807) (hnm : ∀ x ∈ al, x.Reads w)
 (hml : Sv w pm ml) (hmm : nm = ml.length) (hbb : nm ≤ 9223372036854775807)
 : Calls Try.prog 7 #[.slice q m capq, .slice pm nm capm] w fun e w' => e = .returned (.bool true) ∧ Below w.heap.size w w' := by
 refine enter (Hs.start w) Try.func7 rfl Try.ntmps7 rfl (sq_ (qa0 [] [0, 1] [] (ds_ (sq_ (sq_ (ao_ (cD (.bool true) Try.call9 (fun w hw => wakes_t w) (qo0 1 [] [0, 1] [(22, .bool false)] (on_ (ds_ (f_ (at_skip (ds_ (sq_ (ao_ (qo0 1 [] [0, 1] [(23, .slice q m capq)] (cP (fun v L' => ∃ q_ n_ c_ Y_ Z_ bl_, v = .slice q_ n_ c_ ∧ L' = List.take 0 ([]) ++ (Y_ ++ (Z_ ++ List.drop 0 ([]))) ∧ SlO 47 Y_ q_ n_ c_ bl_ ∧ GotE 3 Z_ bl_ ∧ bl_.map EnA.val = fewE (al.map EnA.val) ∧ (∀ x ∈ bl_, x.U)) Try.call18 (fun w hw => (few_t q m capq al w (hal.kept hw.below) hma (by omega) (fun y hy => (hnm y hy).kept hw.below)).mono fun e w' ⟨q_, n_, c_, Y_, Z_, bl_, he, hO, hG, hB, hE, hb, hY⟩ => ⟨_, _, he, ⟨q_, n_, c_, Y_, Z_, bl_, rfl, rfl, hO, hG, hB, hE⟩, hs_re (hw.join hb hY 0)⟩) ?_)))))))))))))))))
 rintro v5 L5 ⟨q5, n5, c5, Y5, Yz5, bl5, rfl, rfl, hO5, hG5, hB5, hE5⟩
 refine qo0 1 [] [1, 24] [(25, .slice q m capq)] (cP (fun v L' => ∃ q_ n_ c_ Y_ Z_ bl_, v = .slice q_ n_ c_ ∧ L' = List.take 0 ((Y5 ++ (Yz5 ++ []))) ++ (Y_ ++ (Z_ ++ List.drop 0 ((Y5 ++ (Yz5 ++ []))))) ∧ SlO 47 Y_ q_ n_ c_ bl_ ∧ GotE 3 Z_ bl_ ∧ bl_.map EnA.val = fewE (al.map EnA.val) ∧ (∀ x ∈ bl_, x.U)) Try.call18 (fun w hw => (few_t q m capq al w (hal.kept hw.below) hma (by omega) (fun y hy => (hnm y hy).kept hw.below)).mono fun e w' ⟨q_, n_, c_, Y_, Z_, bl_, he, hO, hG, hB, hE, hb, hY⟩ => ⟨_, _, he, ⟨q_, n_, c_, Y_, Z_, bl_, rfl, rfl, hO, hG, hB, hE⟩, hs_re (hw.join hb hY 0)⟩) ?_)
 rintro v7 L7 ⟨q7, n7, c7, Y7, Yz7, bl7, rfl, rfl, hO7, hG7, hB7, hE7⟩
 refine qo0 2 [] [1] [(5, .slice q5 n5 c5), (6, .slice q7 n7 c7)] (on_ (ds_ (sq_ (sq_ (at_rebase fun wR9 hS9 => ?_)))))
 have hs5 := hO5.sub hS9 (List.Sublist.trans (List.Sublist.trans (List.sublist_append_left Y5 _) (List.sublist_append_right Yz7 _)) (List.sublist_append_right Y7 _))
 have hnn5 := hO5.len
 have hrd5 := GotE.reads hG5 hE5 hS9 (List.Sublist.trans (List.Sublist.trans (List.Sublist.trans (List.sublist_append_left Yz5 _) (List.sublist_append_right Y5 _)) (List.sublist_append_right Yz7 _)) (List.sublist_append_right Y7 _))
 have hf5 := few12_facts hB5
 have h9l5 : ∀ x ∈ bl5, x.n ≤ 1000 := fun x hx => by have h1 := hf5.2 x hx; have h2 := (hrd5 x hx).hn; omega
 have hs7 := hO7.sub hS9 (List.sublist_append_left Y7 _)
 have hnn7 := hO7.len
 have hrd7 := GotE.reads hG7 hE7 hS9 (List.Sublist.trans (List.sublist_append_left Yz7 _) (List.sublist_append_right Y7 _))
 have hf7 := few12_facts hB7
 have h9l7 : ∀ x ∈ bl7, x.n ≤ 1000 := fun x hx => by have h1 := hf7.2 x hx; have h2 := (hrd7 x hx).hn; omega
 have hml := hml.kept hS9.below
 refine qa0 [] [1, 5, 6] [(27, .slice q5 n5 c5), (28, .int .i64 (n5 : Nat)), (29, .int .i64 0)] (ds_ (at_block (at_loop (α := Nat) [1, 5, 6, 27, 28, 29] (fun i => [(1, .slice pm nm capm), (5, .slice q5 n5 c5), (6, .slice q7 n7 c7), (27, .slice q5 n5 c5), (28, .int .i64 (n5 : Nat)), (29, .int .i64 (i : Nat))]) (fun i => []) (fun i => i ≤ n5) (fun i => n5 - i) 0 (by kernel_rfl) rfl (Nat.zero_le _) ?_)))
 rintro i
 intro hi
 refine sq_ ?_
 by_cases q12 : ((i : Nat) : Int) < ((n5 : Nat) : Int)
 ·
  refine qa [(0, .yes)] [1, 5, 6, 27, 28, 29] [(30, .bool true)] ([((i : Nat) : Int) < ((n5 : Nat) : Int)]) (al1 q12) (ds_ (sq_ (t_ (at_skip (ds_ (sq_ (at_block (sq_ ?_))))))))
  obtain ⟨b15, o15, rfl⟩ := hs5.pos (i := i) (by omega)
  obtain ⟨x17, hx17⟩ := get_some (l := bl5) (m := i) (by omega)
  have hrx17 := hrd5 x17 (List.mem_of_getElem? hx17)
  have hsx17 : Sv wR9 x17.p x17.l := hrx17.sv
  have hnx17 : x17.n = x17.l.length := hrx17.hn
  have hcx17 : x17.n ≤ x17.cap := hrx17.hc
  have hbx17 : x17.cap ≤ 9223372036854775807 := hrx17.hb
  have h9x17 := h9l5 x17 (List.mem_of_getElem? hx17)
  refine ma [(0, .at b15 o15 i), (1, .go (outs b15 (o15 + i * 6) [.slice x17.p x17.n x17.cap, .int .u64 x17.th, .int .u64 x17.tl, .int .u64 x17.tw, .int .u64 x17.ord, .bool x17.fresh])), (3, .go (owns 0 0 6))] [1, 5, 6, 27, 28, 29] (fun γ18 => [(8, .pointer (some ⟨γ18 0, 0, none⟩))]) (fun γ18 L => bx (γ18 0) (#[.slice x17.p x17.n x17.cap, .int .u64 x17.th, .int .u64 x17.tl, .int .u64 x17.tw, .int .u64 x17.ord, .bool x17.fresh]) 47 :: L) (fun γ18 => [(some ⟨b15, o15, none⟩ : Option Addr) = some ⟨b15, o15, none⟩, (i : Nat) = ((i : Nat) : Int), i < n5] ++ (cellsP wR9 b15 (o15 + i * 6) [.slice x17.p x17.n x17.cap, .int .u64 x17.th, .int .u64 x17.tl, .int .u64 x17.tw, .int .u64 x17.ord, .bool x17.fresh])) (fun γ18 => (alA (al2 rfl (al2 rfl (al1 (by omega)))) (rd_pre (hs5.get hx17) _ rfl))) (fun γ18 => ds_ (sq_ (qa0 [] [1, 5, 6, 8, 27, 28, 29] [(33, .slice (some ⟨b15, o15, none⟩) n5 c5), (34, .int .i64 (n5 : Nat)), (35, .int .i64 0)] (ds_ (at_block (at_loop (α := Nat) [1, 5, 6, 8, 27, 28, 29, 33, 34, 35] (fun j => [(1, .slice pm nm capm), (5, .slice (some ⟨b15, o15, none⟩) n5 c5), (6, .slice q7 n7 c7), (8, .pointer (some ⟨γ18 0, 0, none⟩)), (27, .slice (some ⟨b15, o15, none⟩) n5 c5), (28, .int .i64 (n5 : Nat)), (29, .int .i64 (i : Nat)), (33, .slice (some ⟨b15, o15, none⟩) n5 c5), (34, .int .i64 (n5 : Nat)), (35, .int .i64 (j : Nat))]) (fun j => [bx (γ18 0) (#[.slice x17.p x17.n x17.cap, .int .u64 x17.th, .int .u64 x17.tl, .int .u64 x17.tw, .int .u64 x17.ord, .bool x17.fresh]) 47]) (fun j => j ≤ n5) (fun j => n5 - j) 0 (by kernel_rfl) rfl (Nat.zero_le _) ?_))))))
  rintro j
  intro hj
  refine sq_ ?_
  by_cases q21 : ((j : Nat) : Int) < ((n5 : Nat) : Int)
  ·
   refine qa [(0, .yes)] [1, 5, 6, 8, 27, 28, 29, 33, 34, 35] [(36, .bool true)] ([((j : Nat) : Int) < ((n5 : Nat) : Int)]) (al1 q21) (ds_ (sq_ (t_ (at_skip (ds_ (sq_ (at_block (sq_ ?_))))))))
   obtain ⟨x24, hx24⟩ := get_some (l := bl5) (m := j) (by omega)
   have hrx24 := hrd5 x24 (List.mem_of_getElem? hx24)
   have hsx24 : Sv wR9 x24.p x24.l := hrx24.sv
   have hnx24 : x24.n = x24.l.length := hrx24.hn
   have hcx24 : x24.n ≤ x24.cap := hrx24.hc
   have hbx24 : x24.cap ≤ 9223372036854775807 := hrx24.hb
   have h9x24 := h9l5 x24 (List.mem_of_getElem? hx24)
   refine ma [(0, .at b15 o15 j), (1, .go (outs b15 (o15 + j * 6) [.slice x24.p x24.n x24.cap, .int .u64 x24.th, .int .u64 x24.tl, .int .u64 x24.tw, .int .u64 x24.ord, .bool x24.fresh])), (3, .go (owns 0 0 6))] [1, 5, 6, 8, 27, 28, 29, 33, 34, 35] (fun γ25 => [(10, .pointer (some ⟨γ25 0, 0, none⟩))]) (fun γ25 L => bx (γ25 0) (#[.slice x24.p x24.n x24.cap, .int .u64 x24.th, .int .u64 x24.tl, .int .u64 x24.tw, .int .u64 x24.ord, .bool x24.fresh]) 47 :: L) (fun γ25 => [(some ⟨b15, o15, none⟩ : Option Addr) = some ⟨b15, o15, none⟩, (j : Nat) = ((j : Nat) : Int), j < n5] ++ (cellsP wR9 b15 (o15 + j * 6) [.slice x24.p x24.n x24.cap, .int .u64 x24.th, .int .u64 x24.tl, .int .u64 x24.tw, .int .u64 x24.ord, .bool x24.fresh])) (fun γ25 => (alA (al2 rfl (al2 rfl (al1 (by omega)))) (rd_pre (hs5.get hx24) _ rfl))) (fun γ25 => ds_ (sq_ ?_))
   refine at_calm rfl (by kernel_rfl) (by kernel_rfl) ?_
   refine cm 2 [(0, .go (owns 1 0 6)), (1, .go (owns 0 0 6))] [1, 5, 6, 8, 10, 27, 28, 29, 33, 34, 35] [(39, .agg #[.slice x17.p x17.n x17.cap, .int .u64 x17.th, .int .u64 x17.tl, .int .u64 x17.tw, .int .u64 x17.ord, .bool x17.fresh]), (40, .agg #[.slice x24.p x24.n x24.cap, .int .u64 x24.th, .int .u64 x24.tl, .int .u64 x24.tw, .int .u64 x24.ord, .bool x24.fresh])] ([]) (by kernel_rfl) rfl al0 ?_
   refine cK (.bool (aheadE x17.val x24.val)) Try.call20 (fun w hw => ahead_t x17 x24 w (hrx17.kept hw.below) (hrx24.kept hw.below)) ?_
   refine cm 2 [(3, .go (owns 1 0 6)), (4, .go (owns 0 0 6))] [1, 5, 6, 8, 27, 28, 29, 33, 34, 35, 41] [(42, .agg #[.slice x17.p x17.n x17.cap, .int .u64 x17.th, .int .u64 x17.tl, .int .u64 x17.tw, .int .u64 x17.ord, .bool x17.fresh]), (43, .agg #[.slice x24.p x24.n x24.cap, .int .u64 x24.th, .int .u64 x24.tl, .int .u64 x24.tw, .int .u64 x24.ord, .bool x24.fresh])] ([]) (by kernel_rfl) rfl al0 ?_
   refine cK (.bool (aheadE x17.val x24.val)) Try.call24 (fun w hw => rahead_t x17 x24 w (hrx17.kept hw.below) (hrx24.kept hw.below)) ?_
   refine cm 1 [(6, .eqs false)] [1, 5, 6, 8, 27, 28, 29, 33, 34, 35] [(45, .bool false)] ([EqRun Try.prog .neq 4 (.tmp 41) (.tmp 44) (.bool (aheadE x17.val x24.val)) (.bool (aheadE x17.val x24.val)) false]) (by kernel_rfl) rfl (al1 (bool_same _)) ?_
   refine calm_nil' ?_
   refine ds_ (f_ (at_skip (done_block (ds_ (qa [(0, .fit)] [1, 5, 6, 8, 27, 28, 29, 33, 34] [(35, .int .i64 (j + 1 : Nat))] ([Fit .i64 ((j + 1 : Nat))]) (al1 (fit64 (by omega) (by omega))) (Done.drop (L' := [bx (γ18 0) (#[.slice x17.p x17.n x17.cap, .int .u64 x17.th, .int .u64 x17.tl, .int .u64 x17.tw, .int .u64 x17.ord, .bool x17.fresh]) 47]) ?_ (List.Sublist.cons _ (List.Sublist.cons_cons _ (List.Sublist.refl _)))))))))
   exact done_round [1, 5, 6, 8, 27, 28, 29, 33, 34, 35] (j + 1) (by kernel_rfl) rfl (by show j + 1 ≤ n5; omega) (by first | omega | (simp only; omega))
  ·
   refine qa [(0, .no)] [1, 5, 6, 8, 27, 28, 29, 33, 34, 35] [(36, .bool false)] ([¬ (((j : Nat) : Int) < ((n5 : Nat) : Int))]) (al1 q21) (ds_ (sq_ (f_ (at_leave _ rfl (done_block (ds_ (qa [(0, .fit)] [1, 5, 6, 27, 28] [(29, .int .i64 (i + 1 : Nat))] ([Fit .i64 ((i + 1 : Nat))]) (al1 (fit64 (by omega) (by omega))) (Done.drop (L' := []) ?_ (List.Sublist.cons _ (List.Sublist.refl _))))))))))
   exact done_round [1, 5, 6, 27, 28, 29] (i + 1) (by kernel_rfl) rfl (by show i + 1 ≤ n5; omega) (by first | omega | (simp only; omega))
 ·
  refine qa [(0, .no)] [1, 5, 6, 27, 28, 29] [(30, .bool false)] ([¬ (((i : Nat) : Int) < ((n5 : Nat) : Int))]) (al1 q12) (ds_ (sq_ (f_ (at_leave _ rfl (ds_ (sq_ (ao_ (qo0 1 [] [1, 5, 6] [(49, .slice q5 n5 c5)] (cD (.tuple #[.agg #[.slice (((firstA bl5).getD zE).p) (((firstA bl5).getD zE).n) (((firstA bl5).getD zE).cap), .int .u64 (((firstA bl5).getD zE).th), .int .u64 (((firstA bl5).getD zE).tl), .int .u64 (((firstA bl5).getD zE).tw), .int .u64 (((firstA bl5).getD zE).ord), .bool (((firstA bl5).getD zE).fresh)], .bool ((firstA bl5).isSome)]) Try.call25 (fun w hw => first_t q5 n5 c5 bl5 w (hs5.kept hw.below) hnn5 (by omega) (fun y hy => (hrd5 y hy).kept hw.below)) (mo0 6 [(6, .go (owns 0 0 6))] [1, 5, 6] (fun γ34 => [(11, .pointer (some ⟨γ34 0, 0, none⟩)), (12, .bool ((firstA bl5).isSome))]) (fun γ34 L => bx (γ34 0) (#[.slice (((firstA bl5).getD zE).p) (((firstA bl5).getD zE).n) (((firstA bl5).getD zE).cap), .int .u64 (((firstA bl5).getD zE).th), .int .u64 (((firstA bl5).getD zE).tl), .int .u64 (((firstA bl5).getD zE).tw), .int .u64 (((firstA bl5).getD zE).ord), .bool (((firstA bl5).getD zE).fresh)]) 47 :: L) (fun γ34 => on_ (ds_ (sq_ (ao_ (qo0 1 [] [1, 5, 6, 11, 12] [(54, .slice q7 n7 c7)] (cD (.tuple #[.agg #[.slice (((firstA bl7).getD zE).p) (((firstA bl7).getD zE).n) (((firstA bl7).getD zE).cap), .int .u64 (((firstA bl7).getD zE).th), .int .u64 (((firstA bl7).getD zE).tl), .int .u64 (((firstA bl7).getD zE).tw), .int .u64 (((firstA bl7).getD zE).ord), .bool (((firstA bl7).getD zE).fresh)], .bool ((firstA bl5).isSome)]) Try.call26 (fun w hw => by have := rfirst_t q7 n7 c7 bl7 w (hs7.kept hw.below) hnn7 (by omega) (fun y hy => (hrd7 y hy).kept hw.below); rw [← (first_getD (hB5.trans hB7.symm)).2] at this; exact this) (mo0 6 [(6, .go (owns 0 0 6))] [1, 5, 6, 11, 12] (fun γ36 => [(13, .pointer (some ⟨γ36 0, 0, none⟩)), (14, .bool ((firstA bl5).isSome))]) (fun γ36 L => bx (γ36 0) (#[.slice (((firstA bl7).getD zE).p) (((firstA bl7).getD zE).n) (((firstA bl7).getD zE).cap), .int .u64 (((firstA bl7).getD zE).th), .int .u64 (((firstA bl7).getD zE).tl), .int .u64 (((firstA bl7).getD zE).tw), .int .u64 (((firstA bl7).getD zE).ord), .bool (((firstA bl7).getD zE).fresh)]) 47 :: L) (fun γ36 => on_ (ds_ (sq_ (sq_ (ao_ (qo 6 [(2, .eqs false), (4, .go (owns 1 0 6)), (5, .go (owns 0 0 6))] [1, 5, 6] [(61, .bool false), (62, .agg #[.slice (((firstA bl5).getD zE).p) (((firstA bl5).getD zE).n) (((firstA bl5).getD zE).cap), .int .u64 (((firstA bl5).getD zE).th), .int .u64 (((firstA bl5).getD zE).tl), .int .u64 (((firstA bl5).getD zE).tw), .int .u64 (((firstA bl5).getD zE).ord), .bool (((firstA bl5).getD zE).fresh)]), (63, .agg #[.slice (((firstA bl7).getD zE).p) (((firstA bl7).getD zE).n) (((firstA bl7).getD zE).cap), .int .u64 (((firstA bl7).getD zE).th), .int .u64 (((firstA bl7).getD zE).tl), .int .u64 (((firstA bl7).getD zE).tw), .int .u64 (((firstA bl7).getD zE).ord), .bool (((firstA bl7).getD zE).fresh)])] ([EqRun Try.prog .neq 4 (.tmp 58) (.tmp 59) (.bool ((firstA bl5).isSome)) (.bool ((firstA bl5).isSome)) false]) (al1 (bool_same _)) ?_)))))))))))))))))))))))
  refine cD (.bool true) Try.call27 (fun w hw => by have := sameone_t ((firstA bl5).getD zE) ((firstA bl7).getD zE) w ((first_reads hrd5).sv.kept hw.below) (first_reads hrd5).hn (first_small h9l5) ((first_reads hrd7).sv.kept hw.below) (first_reads hrd7).hn (first_small h9l7); rw [decide_eq_true (first_getD (hB5.trans hB7.symm)).1] at this; exact this) (qo0 2 [] [1, 5, 6] [(66, .bool false)] (on_ (ds_ (f_ (at_skip (ds_ (sq_ (sq_ (qa0 [] [5, 6] [(67, .slice pm nm capm), (68, .int .i64 (nm : Nat)), (69, .int .i64 0)] (ds_ (at_block (at_loop (α := Nat) [5, 6, 67, 68, 69] (fun k => [(5, .slice q5 n5 c5), (6, .slice q7 n7 c7), (67, .slice pm nm capm), (68, .int .i64 (nm : Nat)), (69, .int .i64 (k : Nat))]) (fun k => [bx (γ36 0) (#[.slice (((firstA bl7).getD zE).p) (((firstA bl7).getD zE).n) (((firstA bl7).getD zE).cap), .int .u64 (((firstA bl7).getD zE).th), .int .u64 (((firstA bl7).getD zE).tl), .int .u64 (((firstA bl7).getD zE).tw), .int .u64 (((firstA bl7).getD zE).ord), .bool (((firstA bl7).getD zE).fresh)]) 47, bx (γ34 0) (#[.slice (((firstA bl5).getD zE).p) (((firstA bl5).getD zE).n) (((firstA bl5).getD zE).cap), .int .u64 (((firstA bl5).getD zE).th), .int .u64 (((firstA bl5).getD zE).tl), .int .u64 (((firstA bl5).getD zE).tw), .int .u64 (((firstA bl5).getD zE).ord), .bool (((firstA bl5).getD zE).fresh)]) 47]) (fun k => k ≤ nm) (fun k => nm - k) 0 (by kernel_rfl) rfl (Nat.zero_le _) ?_))))))))))))
  rintro k
  intro hk
  refine sq_ ?_
  by_cases q41 : ((k : Nat) : Int) < ((nm : Nat) : Int)
  ·
   refine qa [(0, .yes)] [5, 6, 67, 68, 69] [(70, .bool true)] ([((k : Nat) : Int) < ((nm : Nat) : Int)]) (al1 q41) (ds_ (sq_ (t_ (at_skip (ds_ (sq_ (at_block (sq_ ?_))))))))
   obtain ⟨b44, o44, rfl⟩ := hml.pos (i := k) (by omega)
   obtain ⟨x46, hx46⟩ := get_some (l := ml) (m := k) (by omega)
   refine qa [(1, .at b44 o44 k), (2, .go (outs b44 (o44 + k * 1) [.int .i64 x46]))] [5, 6, 67, 68, 69] [(15, .int .i64 (k : Nat)), (16, .int .i64 x46)] ([(some ⟨b44, o44, none⟩ : Option Addr) = some ⟨b44, o44, none⟩, (k : Nat) = ((k : Nat) : Int), k < nm] ++ (cellsP wR9 b44 (o44 + k * 1) [.int .i64 x46])) (alA (al2 rfl (al2 rfl (al1 (by omega)))) (rd_pre (hml.get hx46) _ rfl)) (ds_ (sq_ (sq_ ?_)))
   by_cases q49 : ((k : Nat) : Int) = (12 : Int)
   ·
    refine qa [(1, .yes)] [5, 6, 16, 67, 68, 69] [(75, .bool true)] ([((k : Nat) : Int) = (12 : Int)]) (al1 q49) (ds_ (t_ (at_leave _ rfl (ds_ (sq_ (ao_ (qo0 2 [] [] [(97, .slice q5 n5 c5), (98, .slice q7 n7 c7)] (cD (.bool true) Try.call15 (fun w hw => by have := esame_t q5 n5 c5 bl5 q7 n7 c7 bl7 w (hs5.kept hw.below) hnn5 (by omega) (fun y hy => (hrd5 y hy).kept hw.below) h9l5 (hs7.kept hw.below) hnn7 (by omega) (fun y hy => (hrd7 y hy).kept hw.below) h9l7; rw [decide_eq_true (hB5.trans hB7.symm)] at this; exact this) (qo0 1 [] [] [(4, .bool true)] (on_ (ds_ (rt ([]) (.bool true) ?_))))))))))))
    exact fun w' hw => ⟨rfl, (hS9.over hw).below⟩
   ·
    refine qa [(1, .no)] [5, 6, 16, 67, 68, 69] [(75, .bool false)] ([¬ (((k : Nat) : Int) = (12 : Int))]) (al1 q49) (ds_ (f_ (at_skip (ds_ (sq_ (ao_ (qo0 2 [] [5, 6, 16, 67, 68, 69] [(77, .slice q5 n5 c5), (78, .int .i64 x46)] (cD (.tuple #[.int .i64 (plc x46 (fewE (al.map EnA.val))), .bool (decide (0 ≤ idxE x46 (fewE (al.map EnA.val))))]) Try.call28 (fun w hw => by have := place_t q5 n5 c5 bl5 x46 w (hs5.kept hw.below) hnn5 (by omega) (fun y hy => (hrd5 y hy).kept hw.below) h9l5; rw [hB5] at this; exact this) (qo0 5 [] [5, 6, 16, 67, 68, 69] [(17, .int .i64 (plc x46 (fewE (al.map EnA.val)))), (18, .bool (decide (0 ≤ idxE x46 (fewE (al.map EnA.val)))))] (on_ (ds_ (sq_ (ao_ (qo0 2 [] [5, 6, 17, 18, 67, 68, 69] [(83, .slice q7 n7 c7), (84, .int .i64 x46)] (cD (.tuple #[.int .i64 (plc x46 (fewE (al.map EnA.val))), .bool (decide (0 ≤ idxE x46 (fewE (al.map EnA.val))))]) Try.call29 (fun w hw => by have := rplace_t q7 n7 c7 bl7 x46 w (hs7.kept hw.below) hnn7 (by omega) (fun y hy => (hrd7 y hy).kept hw.below) h9l7; rw [hB7] at this; exact this) (qo0 5 [] [5, 6, 17, 18, 67, 68, 69] [(19, .int .i64 (plc x46 (fewE (al.map EnA.val)))), (20, .bool (decide (0 ≤ idxE x46 (fewE (al.map EnA.val)))))] (on_ (ds_ (sq_ (qa [(2, .no), (6, .eqs false)] [5, 6, 67, 68, 69] [(95, .bool false)] ([¬ (((plc x46 (fewE (al.map EnA.val))) : Int) ≠ ((plc x46 (fewE (al.map EnA.val))) : Int))] ++ ([EqRun Try.prog .neq 4 (.tmp 92) (.tmp 93) (.bool (decide (0 ≤ idxE x46 (fewE (al.map EnA.val))))) (.bool (decide (0 ≤ idxE x46 (fewE (al.map EnA.val))))) false])) (alA (al1 (fun h => h rfl)) (al1 (bool_same _))) (ds_ (f_ (at_skip (done_block (ds_ (qa [(0, .fit)] [5, 6, 67, 68] [(69, .int .i64 (k + 1 : Nat))] ([Fit .i64 ((k + 1 : Nat))]) (al1 (fit64 (by omega) (by omega))) ?_))))))))))))))))))))))))))
    exact done_round [5, 6, 67, 68, 69] (k + 1) (by kernel_rfl) rfl (by show k + 1 ≤ nm; omega) (by first | omega | (simp only; omega))
  ·
   refine qa [(0, .no)] [5, 6, 67, 68, 69] [(70, .bool false)] ([¬ (((k : Nat) : Int) < ((nm : Nat) : Int))]) (al1 q41) (ds_ (sq_ (f_ (at_leave _ rfl (ds_ (sq_ (ao_ (qo0 2 [] [] [(97, .slice q5 n5 c5), (98, .slice q7 n7 c7)] (cD (.bool true) Try.call15 (fun w hw => by have := esame_t q5 n5 c5 bl5 q7 n7 c7 bl7 w (hs5.kept hw.below) hnn5 (by omega) (fun y hy => (hrd5 y hy).kept hw.below) h9l5 (hs7.kept hw.below) hnn7 (by omega) (fun y hy => (hrd7 y hy).kept hw.below) h9l7; rw [decide_eq_true (hB5.trans hB7.symm)] at this; exact this) (qo0 1 [] [] [(4, .bool true)] (on_ (ds_ (rt ([]) (.bool true) ?_)))))))))))))
   exact fun w' hw => ⟨rfl, (hS9.over hw).below⟩
end Go.Proofs.Ytoljahfofkmdaaa

/-! The walker: what a row's inputs are: slices and structs, opened into lists. -/
namespace Go.Proofs.Ytoljahfofkmdaaa
open Go Go.RowKit

section
variable {H : Type} {enc : TypeId × Value → H} {P : Program} {w : World} {base : Nat} {spare : Nat → Bool} {held : Bool}
theorem spot_none {a : Addr} (h : a.spot = none) : a = ⟨a.block, a.off, none⟩ := by
  cases a
  simp at h
  simp [h]
theorem trod_sv {α : Type} [Enc α] {t e : TypeId} {fuel : Nat} {cs : List Value} {x : DataW H × List MemPlace} {Good : α → Prop} (ht : P.underlying t = some (.slice e)) (hc : P.cellsOf e = Enc.k α)
    (hopen : ∀ (fuel : Nat) (cs : List Value) (x : DataW H × List MemPlace), DataW.trod enc P w base spare held fuel e cs = some x → ∃ a : α, cs = Enc.enc a ∧ Good a) (h : DataW.trod enc P w base spare held fuel t cs = some x) :
    ∃ (p : Option Addr) (n cap : Nat) (l : List α), cs = [.slice p n cap] ∧ Sv w p l ∧ n = l.length ∧ n ≤ cap ∧ cap ≤ maxLen ∧ ∀ y ∈ l, Good y := by
  rcases Deep.open_slice ht h with ⟨hcs, _⟩ | ⟨a, len, cap, m, n', D, Pl, hcs, _, hle, hmx, hm, _, hi⟩
  · exact ⟨none, 0, 0, [], hcs, Sv.nil, rfl, Nat.le_refl _, Nat.zero_le _, fun y hy => by cases hy⟩
  · have key : ∀ i, i < len → ∃ y : α, w.cells? base (a.add (i * Enc.k α)) (Enc.k α) = some (Enc.enc y) ∧ Good y := fun i hin => by
      have him : i < m := by rw [hm]; split <;> omega
      obtain ⟨cs', h1, h2⟩ := hi i him
      obtain ⟨y, rfl, hy⟩ := hopen _ _ _ h2
      rw [hc] at h1
      exact ⟨y, h1, hy⟩
    rcases Nat.eq_zero_or_pos len with h0 | h0
    · subst h0
      exact ⟨some a, 0, cap, [], hcs, Sv.nil, rfl, hle, hmx, fun y hy => by cases hy⟩
    · obtain ⟨y0, hy0, _⟩ := key 0 h0
      haveI : Inhabited α := ⟨y0⟩
      obtain ⟨f, hf⟩ := Deep.choose_lt key
      obtain ⟨_, _, hcell⟩ := World.cells?_some hy0
      have h00 := hcell 0 Enc.pos
      have hlen0 : 0 < (Enc.enc y0).length := by rw [Enc.len]; exact Enc.pos
      rw [List.getElem?_eq_getElem hlen0, Nat.zero_mul, show (a.add 0).add 0 = a by simp [Addr.add]] at h00
      have hsp := spot_none (World.cell?_spot h00)
      refine ⟨some a, len, cap, (List.range len).map f, hcs, ⟨fun _ => ⟨a.block, a.off, by rw [← hsp]⟩, fun b o hbo i hil => ?_⟩, by simp, hle, hmx, fun y hy => ?_⟩
      · have hil' : i < len := by simpa using hil
        obtain ⟨_, _, hc2⟩ := World.cells?_some (hf i hil').1
        have ha : a = ⟨b, o, none⟩ := by simpa using hbo
        subst ha
        intro j v hj
        have hjk : j < Enc.k α := by rw [← Enc.len (f i)]; have := (List.getElem?_eq_some_iff.1 hj).1; simpa using this
        have h3 := hc2 j hjk
        rw [Deep.add_add] at h3
        have h4 : (Enc.enc (f i))[j]? = some v := by simpa using hj
        rw [h4] at h3
        have h5 : (⟨b, o, none⟩ : Addr).add (i * Enc.k α + j) = ⟨b, o + i * Enc.k α + j, none⟩ := by
          unfold Addr.add; split <;> simp_all <;> omega
        rw [h5] at h3
        exact h3
      · obtain ⟨i, hir, rfl⟩ := List.mem_map.1 hy
        exact (hf i (List.mem_range.1 hir)).2
theorem list2' {α : Type} {cs : List α} (h : cs.length = 2) : ∃ c0 c1, cs = [c0, c1] := by
  match cs, h with
  | [a, b], _ => exact ⟨a, b, rfl⟩
theorem trod_int1 {t : TypeId} {fuel : Nat} {cs : List Value} {x : DataW H × List MemPlace} (ht : P.underlying t = some (.int .i64)) (h : DataW.trod enc P w base spare held fuel t cs = some x) : ∃ a : Int, cs = Enc.enc a ∧ True := by
  obtain ⟨a, rfl, _, _⟩ := DataW.trod_int ht h
  exact ⟨a, rfl, trivial⟩
end
end Go.Proofs.Ytoljahfofkmdaaa

/-! Chapter 10: what the rows' inputs are. -/
namespace Go.Proofs.Ytoljahfofkmdaaa
open Go Go.RowKit Go.ChangeShapes Go.WideShapes

section
variable {H : Type} {enc : TypeId × Value → H} {w : World} {base : Nat} {spare : Nat → Bool} {held : Bool}
theorem cInt0 : Try.prog.cellsOf 3 = 1 := by kernel_rfl
theorem cU64 : Try.prog.cellsOf 41 = 1 := by kernel_rfl
theorem cWid : Try.prog.cellsOf 43 = 2 := by kernel_rfl
theorem cFra : Try.prog.cellsOf 45 = 3 := by kernel_rfl
theorem list3u {α : Type} {cs : List α} (h : cs.length = 3) : ∃ a b c, cs = [a, b, c] := by
  match cs, h with
  | [a, b, c], _ => exact ⟨a, b, c, rfl⟩
theorem u64_wf {n : Int} (h : (Lit.int .u64 n).wf = true) : 0 ≤ n ∧ n < 18446744073709551616 := by
  simp only [Lit.wf, Bool.and_eq_true, decide_eq_true_eq] at h
  have h1 : (0 : Int) ≤ n := h.1
  have h2 : n ≤ 18446744073709551615 := h.2
  omega
set_option maxRecDepth 100000 in
theorem wide_open {fuel : Nat} {cs : List Value} {x : DataW H × List MemPlace} (h : DataW.trod enc Try.prog w base spare held fuel 43 cs = some x) : ∃ a b : Int, cs = [.int .u64 a, .int .u64 b] ∧ (0 ≤ a ∧ a < 18446744073709551616) ∧ (0 ≤ b ∧ b < 18446744073709551616) := by
  obtain ⟨xs, n, _, rfl, hl, hlen, hf⟩ := DataW.trod_struct Try.underlying43 h
  rw [cWid] at hl
  obtain ⟨c0, c1, rfl⟩ := list2' hl
  obtain ⟨y0, y1, rfl⟩ := list2' hlen
  have h0 : DataW.trod enc Try.prog w base spare held n 41 (([c0, c1].drop 0).take (Try.prog.cellsOf 41)) = some y0 := hf 0 _ rfl
  have h1 : DataW.trod enc Try.prog w base spare held n 41 (([c0, c1].drop 1).take (Try.prog.cellsOf 41)) = some y1 := hf 1 _ rfl
  clear hf hl hlen h
  rw [cU64] at h0 h1
  simp only [List.drop_zero, List.take_succ_cons, List.take_zero, List.drop_succ_cons] at h0 h1
  obtain ⟨a, e0, _, f0⟩ := DataW.trod_int Try.underlying41 h0
  obtain ⟨b, e1, _, f1⟩ := DataW.trod_int Try.underlying41 h1
  simp only [List.cons.injEq, and_true] at e0 e1
  subst e0; subst e1
  exact ⟨a, b, rfl, u64_wf f0, u64_wf f1⟩
set_option maxRecDepth 100000 in
theorem fq_open {fuel : Nat} {cs : List Value} {x : DataW H × List MemPlace} (h : DataW.trod enc Try.prog w base spare held fuel 45 cs = some x) : ∃ a : Fq, cs = Enc.enc a ∧ a.U := by
  obtain ⟨xs, n, _, rfl, hl, hlen, hf⟩ := DataW.trod_struct Try.underlying45 h
  rw [cFra] at hl
  obtain ⟨c0, c1, c2, rfl⟩ := list3u hl
  obtain ⟨y0, y1, rfl⟩ := list2' hlen
  have h0 : DataW.trod enc Try.prog w base spare held n 43 (([c0, c1, c2].drop 0).take (Try.prog.cellsOf 43)) = some y0 := hf 0 _ rfl
  have h1 : DataW.trod enc Try.prog w base spare held n 41 (([c0, c1, c2].drop 2).take (Try.prog.cellsOf 41)) = some y1 := hf 1 _ rfl
  clear hf hl hlen h
  rw [cWid] at h0
  rw [cU64] at h1
  simp only [List.drop_zero, List.take_succ_cons, List.take_zero, List.drop_succ_cons] at h0 h1
  obtain ⟨a, b, e0, fa, fb⟩ := wide_open h0
  obtain ⟨c, e1, _, f1⟩ := DataW.trod_int Try.underlying41 h1
  simp only [List.cons.injEq, and_true] at e0 e1
  obtain ⟨rfl, rfl⟩ := e0
  subst e1
  have fc := u64_wf f1
  exact ⟨⟨a, b, c⟩, rfl, ⟨fa.1, fa.2, fb.1, fb.2, fc.1, fc.2⟩⟩
end
end Go.Proofs.Ytoljahfofkmdaaa

/-! What is put in order, as an element; plain. -/
namespace Go.Proofs.Ytoljahfofkmdaaa
open Go Go.RowKit

structure RowO where
  p : Option Addr
  n : Nat
  cap : Nat
  ts : List Rn
  pw : Option Addr
  nw : Nat
  capw : Nat
  ws : List Wt
  q : Option Addr
  m : Nat
  capq : Nat
  al : List IntsA
def RowO.enc (x : RowO) : List Value := [.slice x.p x.n x.cap, .slice x.pw x.nw x.capw, .slice x.q x.m x.capq]
instance : Enc RowO := ⟨RowO.enc, 3, fun _ => rfl, fun x v h => by simp [RowO.enc] at h; rcases h with rfl | rfl | rfl <;> rfl, by decide⟩
structure RowO.Reads (x : RowO) (w : World) : Prop where
  hts : Sv w x.p x.ts
  hn : x.n = x.ts.length
  hcp : x.n ≤ x.cap
  hbg : x.cap ≤ 9223372036854775807
  hU : ∀ r ∈ x.ts, r.U
  hws : Sv w x.pw x.ws
  hnw : x.nw = x.ws.length
  hcw : x.nw ≤ x.capw
  hbw : x.capw ≤ 9223372036854775807
  hWU : ∀ r ∈ x.ws, r.U
  hal : Sv w x.q x.al
  hma : x.m = x.al.length
  hcq : x.m ≤ x.capq
  hbq : x.capq ≤ 9223372036854775807
  hnm : ∀ y ∈ x.al, y.Reads w
theorem RowO.Reads.kept {x : RowO} {w w' : World} (h : x.Reads w) (hb : Below w.heap.size w w') : x.Reads w' :=
  ⟨h.hts.kept hb, h.hn, h.hcp, h.hbg, h.hU, h.hws.kept hb, h.hnw, h.hcw, h.hbw, h.hWU, h.hal.kept hb, h.hma, h.hcq, h.hbq, fun y hy => (h.hnm y hy).kept hb⟩
end Go.Proofs.Ytoljahfofkmdaaa

/-! Chapter 12: what the rows' inputs are. -/
namespace Go.Proofs.Ytoljahfofkmdaaa
open Go Go.RowKit Go.ChangeShapes Go.WideShapes
theorem list4o {α : Type} {cs : List α} (h : cs.length = 4) : ∃ a b c d, cs = [a, b, c, d] := by
  match cs, h with
  | [a, b, c, d], _ => exact ⟨a, b, c, d, rfl⟩
theorem list6o {α : Type} {cs : List α} (h : cs.length = 6) : ∃ a b c d e f, cs = [a, b, c, d, e, f] := by
  match cs, h with
  | [a, b, c, d, e, f], _ => exact ⟨a, b, c, d, e, f, rfl⟩

section
variable {H : Type} {enc : TypeId × Value → H} {w : World} {base : Nat} {spare : Nat → Bool} {held : Bool}
theorem cIntsO : Try.prog.cellsOf 40 = 1 := by kernel_rfl
theorem cEntO : Try.prog.cellsOf 47 = 6 := by kernel_rfl
theorem cBoolO : Try.prog.cellsOf 4 = 1 := by kernel_rfl
set_option maxRecDepth 100000 in
theorem intsA_open {fuel : Nat} {cs : List Value} {x : DataW H × List MemPlace} (h : DataW.trod enc Try.prog w base spare held fuel 40 cs = some x) : ∃ a : IntsA, cs = Enc.enc a ∧ a.Reads w := by
  obtain ⟨p, m, cap, l, he, hs, hn, hle, hmx, _⟩ := trod_sv (α := Int) (Good := fun _ => True) Try.underlying40 cInt0 (fun _ _ _ h => trod_int1 Try.underlying3 h) h
  exact ⟨⟨p, m, cap, l⟩, he, ⟨hs, hn, hle, hmx⟩⟩
set_option maxRecDepth 100000 in
theorem ent_open {fuel : Nat} {cs : List Value} {x : DataW H × List MemPlace} (h : DataW.trod enc Try.prog w base spare held fuel 47 cs = some x) : ∃ a : EnA, cs = Enc.enc a ∧ a.Reads w := by
  obtain ⟨xs, n, _, rfl, hl, hlen, hf⟩ := DataW.trod_struct Try.underlying47 h
  rw [cEntO] at hl
  obtain ⟨c0, c1, c2, c3, c4, c5, rfl⟩ := list6o hl
  obtain ⟨y0, y1, y2, y3, rfl⟩ := list4o hlen
  have h0 : DataW.trod enc Try.prog w base spare held n 40 (([c0, c1, c2, c3, c4, c5].drop 0).take (Try.prog.cellsOf 40)) = some y0 := hf 0 _ rfl
  have h1 : DataW.trod enc Try.prog w base spare held n 45 (([c0, c1, c2, c3, c4, c5].drop 1).take (Try.prog.cellsOf 45)) = some y1 := hf 1 _ rfl
  have h2 : DataW.trod enc Try.prog w base spare held n 41 (([c0, c1, c2, c3, c4, c5].drop 4).take (Try.prog.cellsOf 41)) = some y2 := hf 2 _ rfl
  have h3 : DataW.trod enc Try.prog w base spare held n 4 (([c0, c1, c2, c3, c4, c5].drop 5).take (Try.prog.cellsOf 4)) = some y3 := hf 3 _ rfl
  clear hf hl hlen h
  rw [cIntsO] at h0
  rw [cFra] at h1
  rw [cU64] at h2
  rw [cBoolO] at h3
  simp only [List.drop_zero, List.take_succ_cons, List.take_zero, List.drop_succ_cons] at h0 h1 h2 h3
  obtain ⟨a, ea, ha⟩ := intsA_open h0
  obtain ⟨t, e1, ht⟩ := fq_open h1
  obtain ⟨b, e2, _, f2⟩ := DataW.trod_int Try.underlying41 h2
  obtain ⟨d, e3, _⟩ := DataW.trod_bool Try.underlying4 h3
  have ea' : [c0] = [Value.slice a.p a.n a.cap] := ea
  have e1' : [c1, c2, c3] = [Value.int .u64 t.hi, .int .u64 t.lo, .int .u64 t.w] := e1
  simp only [List.cons.injEq, and_true] at ea' e1' e2 e3
  subst ea'; obtain ⟨rfl, rfl, rfl⟩ := e1'
  subst e2; subst e3
  have g := u64_wf f2
  exact ⟨⟨a.p, a.n, a.cap, a.l, t.hi, t.lo, t.w, b, d⟩, rfl, ⟨ha.sv, ha.hn, ha.hc, ha.hb, ht, g.1, g.2⟩⟩
set_option maxRecDepth 100000 in
theorem ents_open {v : Value} {d : DataW H} {pl : List MemPlace} (hv : Value.okWide Try.prog w .any base 34 v) (h : DataW.Trod enc Try.prog w 0 spare held 34 v d pl) :
    ∃ (q : Option Addr) (m cap : Nat) (l : List EnA), v = .slice q m cap ∧ Sv w q l ∧ m = l.length ∧ m ≤ cap ∧ cap ≤ 9223372036854775807 ∧ ∀ x ∈ l, x.Reads w := by
  obtain ⟨a, n, c, rfl⟩ := okWide_slice Try.underlying34 hv
  obtain ⟨fuel, hf⟩ := h
  obtain ⟨p, m, cap, l, he, hs, hn, hle, hmx, hg⟩ := trod_sv (α := EnA) Try.underlying34 cEntO (fun _ _ _ h => ent_open h) hf
  have : a = p ∧ n = m ∧ c = cap := by simpa [Value.cells] using he
  obtain ⟨rfl, rfl, rfl⟩ := this
  exact ⟨a, n, c, l, rfl, hs, hn, hle, hmx, hg⟩
set_option maxRecDepth 100000 in
theorem intsR_open {v : Value} {d : DataW H} {pl : List MemPlace} (hv : Value.okWide Try.prog w .any base 40 v) (h : DataW.Trod enc Try.prog w 0 spare held 40 v d pl) :
    ∃ (q : Option Addr) (m cap : Nat) (l : List Int), v = .slice q m cap ∧ Sv w q l ∧ m = l.length ∧ m ≤ cap ∧ cap ≤ 9223372036854775807 := by
  obtain ⟨a, n, c, rfl⟩ := okWide_slice Try.underlying40 hv
  obtain ⟨fuel, hf⟩ := h
  obtain ⟨b, e, hb⟩ := intsA_open hf
  have e' : [Value.slice a n c] = [Value.slice b.p b.n b.cap] := e
  simp only [List.cons.injEq, and_true, Value.slice.injEq] at e'
  obtain ⟨rfl, rfl, rfl⟩ := e'
  exact ⟨_, _, _, b.l, rfl, hb.sv, hb.hn, hb.hc, hb.hb⟩
end
end Go.Proofs.Ytoljahfofkmdaaa
