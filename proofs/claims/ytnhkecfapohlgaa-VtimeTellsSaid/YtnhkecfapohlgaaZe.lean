/- Texts of this proof, one behind the other. -/
import Derived.Test.YtnhkecfapohlgaaZc
import Derived.Test.YtnhkecfapohlgaaZd
import Derived.Test.YtnhkecfapohlgaaZb
import Derived.Test.YtnhkecfapohlgaaZa
import Derived.ProofKit
import Derived.Carry
import Derived.Deep.Slices
import Derived.Lib.SmallJoins
import Derived.Test.YtnhkecfapohlgaaProg
/-! The statement VtimeTells, walked. -/
namespace Go.Proofs.Ytnhkecfapohlgaa
open Go Go.RowKit
theorem bool_eqRun (op : BinOp) (hop : op = .eql ∨ op = .neq) (x y : Operand) (a b r : Bool) (hr : r = (if op = .eql then a == b else !(a == b))) : EqRun Try.prog op 4 x y (.bool a) (.bool b) r := by
 intro w
 subst hr
 have hg : Try.prog.eqGuardType Try.prog.depth 4 = false := by kernel_rfl
 have key : (Op.equal 4 (.bool a) (.bool b)).run Try.prog w = .ok (a == b) w := by
  unfold Op.equal
  rw [show Op.maxDepth = 9999 + 1 from rfl]
  exact run_equalIn_bool' w 9999 4 a b Try.underlying4
 have guard : (eqGuard op 4 x y (.bool a) (.bool b)).run Try.prog w = .ok () w := by
  unfold eqGuard
  rcases hop with rfl | rfl <;> simp [hg]
 rw [Sem.run_bind, guard]
 simp only [Result.andThen_ok]
 rcases hop with rfl | rfl <;> simp [binOp, Sem.run_bind, key]
theorem bool_same {x y : Operand} (a : Bool) : EqRun Try.prog .neq 4 x y (.bool a) (.bool a) false := bool_eqRun _ (.inr rfl) x y a a _ (by simp)
theorem bool_ne {x y : Operand} (a b : Bool) : EqRun Try.prog .neq 4 x y (.bool a) (.bool b) (!(a == b)) := bool_eqRun _ (.inr rfl) x y a b _ (by simp)
set_option maxRecDepth 100000 in
theorem tells_law (q : Option Addr) (m capq : Nat) (al : List QueA) (pr : Option Addr) (mr capr : Nat) (rl : List Rn) (w : World)
 (hal : Sv w q al) (hma : m = al.length) (hbm : m ≤ 9223372036854775807) (hnm : ∀ x ∈ al, x.Reads w)
 (hrl : Sv w pr rl) (hmr : mr = rl.length) (hbr : mr ≤ 9223372036854775807)
 : Calls Try.prog 5 #[.slice q m capq, .slice pr mr capr] w fun e w' => e = .returned (.bool true) ∧ Below w.heap.size w w' := by
 refine enter (Hs.start w) Try.func5 rfl Try.ntmps5 rfl (sq_ (qa0 [] [0, 1] [] (ds_ (sq_ (sq_ (ao_ (cD (.bool true) Try.call9 (fun w hw => wakes_t w) (qo0 1 [] [0, 1] [(24, .bool false)] (on_ (ds_ (f_ (at_skip (ds_ (sq_ (sq_ (qa0 [] [0, 1] [(25, .slice q m capq), (26, .int .i64 (m : Nat)), (27, .int .i64 0)] (ds_ (at_block (at_loop (α := Nat) [0, 1, 25, 26, 27] (fun j => [(0, .slice q m capq), (1, .slice pr mr capr), (25, .slice q m capq), (26, .int .i64 (m : Nat)), (27, .int .i64 (j : Nat))]) (fun j => []) (fun j => j ≤ m) (fun j => m - j) 0 (by kernel_rfl) rfl (Nat.zero_le _) ?_)))))))))))))))))))
 rintro j
 intro hj
 refine sq_ ?_
 by_cases q6 : ((j : Nat) : Int) < ((m : Nat) : Int)
 ·
  refine qa [(0, .yes)] [0, 1, 25, 26, 27] [(28, .bool true)] ([((j : Nat) : Int) < ((m : Nat) : Int)]) (al1 q6) (ds_ (sq_ (t_ (at_skip (ds_ (sq_ (at_block (sq_ ?_))))))))
  obtain ⟨b9, o9, rfl⟩ := hal.pos (i := j) (by omega)
  obtain ⟨x11, hx11⟩ := get_some (l := al) (m := j) (by omega)
  have hrx11 := hnm x11 (List.mem_of_getElem? hx11)
  have hsx11 : Sv w x11.p x11.l := hrx11.sv
  have hnx11 : x11.n = x11.l.length := hrx11.hn
  have hcx11 : x11.n ≤ x11.cap := hrx11.hc
  have hbx11 : x11.cap ≤ 9223372036854775807 := hrx11.hb
  have hux11 := hrx11.hU
  refine ma [(1, .at b9 o9 j), (2, .go (outs b9 (o9 + j * 1) [.slice x11.p x11.n x11.cap])), (5, .go (owns 0 0 1))] [0, 1, 25, 26, 27] (fun γ12 => [(5, .int .i64 (j : Nat)), (6, .pointer (some ⟨γ12 0, 0, none⟩))]) (fun γ12 L => bx (γ12 0) (#[.slice x11.p x11.n x11.cap]) 24 :: L) (fun γ12 => [(some ⟨b9, o9, none⟩ : Option Addr) = some ⟨b9, o9, none⟩, (j : Nat) = ((j : Nat) : Int), j < m] ++ (cellsP w b9 (o9 + j * 1) [.slice x11.p x11.n x11.cap])) (fun γ12 => (alA (al2 rfl (al2 rfl (al1 (by omega)))) (rd_pre (hal.get hx11) _ rfl))) (fun γ12 => ds_ (sq_ (sq_ ?_)))
  by_cases q14 : ((j : Nat) : Int) = (8 : Int)
  ·
   refine qa [(1, .yes)] [0, 1, 6, 25, 26, 27] [(33, .bool true)] ([((j : Nat) : Int) = (8 : Int)]) (al1 q14) (ds_ (t_ (at_leave _ rfl (ds_ (sq_ (sq_ (qa0 [] [] [(145, .slice pr mr capr), (146, .int .i64 (mr : Nat)), (147, .int .i64 0)] (ds_ (at_block (at_loop (α := Nat) [145, 146, 147] (fun j => [(145, .slice pr mr capr), (146, .int .i64 (mr : Nat)), (147, .int .i64 (j : Nat))]) (fun j => [bx (γ12 0) (#[.slice x11.p x11.n x11.cap]) 24]) (fun j => j ≤ mr) (fun j => mr - j) 0 (by kernel_rfl) rfl (Nat.zero_le _) ?_))))))))))
   rintro j
   intro hj
   refine sq_ ?_
   by_cases q18 : ((j : Nat) : Int) < ((mr : Nat) : Int)
   ·
    refine qa [(0, .yes)] [145, 146, 147] [(148, .bool true)] ([((j : Nat) : Int) < ((mr : Nat) : Int)]) (al1 q18) (ds_ (sq_ (t_ (at_skip (ds_ (sq_ (at_block (sq_ ?_))))))))
    obtain ⟨b21, o21, rfl⟩ := hrl.pos (i := j) (by omega)
    obtain ⟨x23, hx23⟩ := get_some (l := rl) (m := j) (by omega)
    refine ma [(1, .at b21 o21 j), (2, .go (outs b21 (o21 + j * 5) [.int .i64 x23.id, .int .i64 x23.each, .int .u64 x23.th, .int .u64 x23.tl, .int .u64 x23.tw])), (5, .go (owns 0 0 5))] [145, 146, 147] (fun γ24 => [(20, .int .i64 (j : Nat)), (21, .pointer (some ⟨γ24 0, 0, none⟩))]) (fun γ24 L => bx (γ24 0) (#[.int .i64 x23.id, .int .i64 x23.each, .int .u64 x23.th, .int .u64 x23.tl, .int .u64 x23.tw]) 35 :: L) (fun γ24 => [(some ⟨b21, o21, none⟩ : Option Addr) = some ⟨b21, o21, none⟩, (j : Nat) = ((j : Nat) : Int), j < mr] ++ (cellsP w b21 (o21 + j * 5) [.int .i64 x23.id, .int .i64 x23.each, .int .u64 x23.th, .int .u64 x23.tl, .int .u64 x23.tw])) (fun γ24 => (alA (al2 rfl (al2 rfl (al1 (by omega)))) (rd_pre (hrl.get hx23) _ rfl))) (fun γ24 => ds_ (sq_ (sq_ ?_)))
    by_cases q26 : ((j : Nat) : Int) = (12 : Int)
    ·
     refine qa [(1, .yes)] [21, 145, 146, 147] [(153, .bool true)] ([((j : Nat) : Int) = (12 : Int)]) (al1 q26) (ds_ (t_ (at_leave _ rfl (ds_ (sq_ (qa0 [] [] [(4, .bool true)] (ds_ (rt ([]) (.bool true) ?_))))))))
     exact fun w' hw => ⟨rfl, hw.below⟩
    ·
     refine qa [(1, .no)] [21, 145, 146, 147] [(153, .bool false)] ([¬ (((j : Nat) : Int) = (12 : Int))]) (al1 q26) (ds_ (f_ (at_skip (ds_ (sq_ (ao_ (qo0 1 [(0, .go (owns 0 0 5))] [21, 145, 146, 147] [(154, .agg #[.int .i64 x23.id, .int .i64 x23.each, .int .u64 x23.th, .int .u64 x23.tl, .int .u64 x23.tw])] ?_)))))))
     rcases q31 : rnB x23 with _ | _
     ·
      refine cD (.int .i64 2) Try.call25 (fun w hw => by have := crun_t x23 w; rw [q31] at this; exact this) (qo0 1 [] [21, 145, 146, 147] [(22, .int .i64 2)] (on_ (ds_ (sq_ (ao_ (qo0 3 [(2, .go (owns 0 0 5))] [22, 145, 146, 147] [(157, .bool false), (158, .agg #[.int .i64 x23.id, .int .i64 x23.each, .int .u64 x23.th, .int .u64 x23.tl, .int .u64 x23.tw])] (cD (.bool false) Try.call26 (fun w hw => by have := rrun_t x23 w; rw [q31] at this; exact this) (qo 9 [(4, .eqs false)] [145, 146, 147] [(168, .bool false)] ([EqRun Try.prog .neq 4 (.tmp 157) (.tmp 159) (.bool false) (.bool false) false]) (al1 (bool_ne false false)) (on_ (ds_ (f_ (at_skip (done_block (ds_ (qa [(0, .fit)] [145, 146] [(147, .int .i64 (j + 1 : Nat))] ([Fit .i64 ((j + 1 : Nat))]) (al1 (fit64 (by omega) (by omega))) (Done.drop (L' := [bx (γ12 0) (#[.slice x11.p x11.n x11.cap]) 24]) ?_ (List.Sublist.cons _ (List.Sublist.cons_cons _ (List.Sublist.refl _)))))))))))))))))))
      exact done_round [145, 146, 147] (j + 1) (by kernel_rfl) rfl (by show j + 1 ≤ mr; omega) (by first | omega | (simp only; omega))
     ·
      refine cD (.int .i64 0) Try.call25 (fun w hw => by have := crun_t x23 w; rw [q31] at this; exact this) (qo0 1 [] [21, 145, 146, 147] [(22, .int .i64 0)] (on_ (ds_ (sq_ (ao_ (qo0 3 [(2, .go (owns 0 0 5))] [22, 145, 146, 147] [(157, .bool true), (158, .agg #[.int .i64 x23.id, .int .i64 x23.each, .int .u64 x23.th, .int .u64 x23.tl, .int .u64 x23.tw])] (cD (.bool true) Try.call26 (fun w hw => by have := rrun_t x23 w; rw [q31] at this; exact this) (qo 9 [(4, .eqs false)] [145, 146, 147] [(168, .bool false)] ([EqRun Try.prog .neq 4 (.tmp 157) (.tmp 159) (.bool true) (.bool true) false]) (al1 (bool_ne true true)) (on_ (ds_ (f_ (at_skip (done_block (ds_ (qa [(0, .fit)] [145, 146] [(147, .int .i64 (j + 1 : Nat))] ([Fit .i64 ((j + 1 : Nat))]) (al1 (fit64 (by omega) (by omega))) (Done.drop (L' := [bx (γ12 0) (#[.slice x11.p x11.n x11.cap]) 24]) ?_ (List.Sublist.cons _ (List.Sublist.cons_cons _ (List.Sublist.refl _)))))))))))))))))))
      exact done_round [145, 146, 147] (j + 1) (by kernel_rfl) rfl (by show j + 1 ≤ mr; omega) (by first | omega | (simp only; omega))
   ·
    refine qa [(0, .no)] [145, 146, 147] [(148, .bool false)] ([¬ (((j : Nat) : Int) < ((mr : Nat) : Int))]) (al1 q18) (ds_ (sq_ (f_ (at_leave _ rfl (ds_ (sq_ (qa0 [] [] [(4, .bool true)] (ds_ (rt ([]) (.bool true) ?_)))))))))
    exact fun w' hw => ⟨rfl, hw.below⟩
  ·
   refine qa [(1, .no)] [0, 1, 6, 25, 26, 27] [(33, .bool false)] ([¬ (((j : Nat) : Int) = (8 : Int))]) (al1 q14) (ds_ (f_ (at_skip (ds_ (sq_ ?_)))))
   obtain ⟨x43, hx43⟩ := get_some (l := al) (m := 0) (by omega)
   have hrx43 := hnm x43 (List.mem_of_getElem? hx43)
   have hsx43 : Sv w x43.p x43.l := hrx43.sv
   have hnx43 : x43.n = x43.l.length := hrx43.hn
   have hcx43 : x43.n ≤ x43.cap := hrx43.hc
   have hbx43 : x43.cap ≤ 9223372036854775807 := hrx43.hb
   have hux43 := hrx43.hU
   refine at_any (by kernel_rfl) ?_
   refine tk (m := 8) [2, 3] [(3, .at b9 o9 0)] [0, 1, 6, 25, 26, 27] [(37, .pointer (some ⟨b9, o9 + 0 * 1, none⟩))] ([(some ⟨b9, o9, none⟩ : Option Addr) = some ⟨b9, o9, none⟩, 0 = ((0 : Nat) : Int), 0 < m]) #[false, false, true, true, false, false, false, false, false, false] (al2 rfl (al2 rfl (al1 (by omega)))) ?_
   refine any_cutX (V := (List Ob) × (List Ob) × (Nat) × (Nat) × (Nat) × (Nat) × (Option Addr) × (Option Addr) × (Nat → Nat) × (Nat → Nat)) (fun ⟨Y147, Y67, c147, c67, n147, n67, q147, q67, γ167, γ187⟩ => SlO 35 Y147 q147 n147 c147 (x43.l.take 17) ∧ SlO 35 Y67 q67 n67 c67 (x11.l.take 17) ∧ n147 ≤ 17 ∧ n67 ≤ 17 ∧ n147 = ((x43.l.take 17)).length ∧ n67 = ((x11.l.take 17)).length) 0 #[true, true, true, true, true, true, true, true, true, true] (fun ⟨Y147, Y67, c147, c67, n147, n67, q147, q67, γ167, γ187⟩ => [(0, .slice (some ⟨b9, o9, none⟩) m capq), (1, .slice pr mr capr), (6, .pointer (some ⟨γ12 0, 0, none⟩)), (7, .pointer (some ⟨γ167 0, 0, none⟩)), (8, .pointer (some ⟨γ187 0, 0, none⟩)), (25, .slice (some ⟨b9, o9, none⟩) m capq), (26, .int .i64 (m : Nat)), (27, .int .i64 (j : Nat))]) (fun ⟨Y147, Y67, c147, c67, n147, n67, q147, q67, γ167, γ187⟩ => bx (γ187 0) (#[.slice q147 n147 c147]) 24 :: bx (γ167 0) (#[.slice q67 n67 c67]) 24 :: bx (γ12 0) (#[.slice x11.p x11.n x11.cap]) 24 :: (Y147 ++ (Y67 ++ []))) ?_ (fun hmx29 => ?_)
   rotate_left
   ·
    refine any_cutX (V := (List Ob) × (List Ob) × (Nat) × (Nat) × (Nat) × (Nat) × (Option Addr) × (Option Addr) × (Nat → Nat) × (Nat → Nat)) (fun ⟨Y147, Y67, c147, c67, n147, n67, q147, q67, γ167, γ187⟩ => SlO 35 Y147 q147 n147 c147 (x43.l.take 17) ∧ SlO 35 Y67 q67 n67 c67 (x11.l.take 17) ∧ n147 ≤ 17 ∧ n67 ≤ 17 ∧ n147 = ((x43.l.take 17)).length ∧ n67 = ((x11.l.take 17)).length) 1 #[true, true, true, true, true, true, true, true, true, false] (fun ⟨Y147, Y67, c147, c67, n147, n67, q147, q67, γ167, γ187⟩ => [(0, .slice (some ⟨b9, o9, none⟩) m capq), (1, .slice pr mr capr), (6, .pointer (some ⟨γ12 0, 0, none⟩)), (7, .pointer (some ⟨γ167 0, 0, none⟩)), (8, .pointer (some ⟨γ187 0, 0, none⟩)), (25, .slice (some ⟨b9, o9, none⟩) m capq), (26, .int .i64 (m : Nat)), (27, .int .i64 (j : Nat)), (39, .agg #[.slice q147 n147 c147])]) (fun ⟨Y147, Y67, c147, c67, n147, n67, q147, q67, γ167, γ187⟩ => bx (γ187 0) (#[.slice none 0 0]) 24 :: bx (γ167 0) (#[.slice q67 n67 c67]) 24 :: bx (γ12 0) (#[.slice x11.p x11.n x11.cap]) 24 :: (Y147 ++ (Y67 ++ []))) ?_ (fun hmx28 => ?_)
    ·
     rintro ⟨Y147, Y67, c147, c67, n147, n67, q147, q67, γ167, γ187⟩ ⟨hO147, hO67, hbd147, hbd67, hl147, hl67⟩
     refine a1 9 rfl ?_
     refine mo0 1 [(9, .go (owns 0 0 1))] [0, 1, 6, 7, 8, 25, 26, 27] (fun _ => []) (fun _ L => (L.set 0 (bx (γ187 0) (#[.slice q147 n147 c147]) 24))) (fun _ => ?_)
     refine od_ ?_
     exact wk (hmx29 (Y147, Y67, c147, c67, n147, n67, q147, q67, γ167, γ187) ⟨hO147, hO67, hbd147, hbd67, hl147, hl67⟩) [0, 1, 6, 7, 8, 25, 26, 27] [[_], [_], [_], _, _] [0, 1, 2, 3, 4] rfl rfl
    refine any_cutX (V := (List Ob) × (List Ob) × (Nat) × (Nat) × (Nat) × (Nat) × (Option Addr) × (Option Addr) × (Nat → Nat) × (Nat → Nat)) (fun ⟨Y147, Y67, c147, c67, n147, n67, q147, q67, γ167, γ187⟩ => SlO 35 Y147 q147 n147 c147 (x43.l.take 17) ∧ SlO 35 Y67 q67 n67 c67 (x11.l.take 17) ∧ n147 ≤ 17 ∧ n67 ≤ 17 ∧ n147 = ((x43.l.take 17)).length ∧ n67 = ((x11.l.take 17)).length) 2 #[true, true, true, true, true, true, true, true, false, false] (fun ⟨Y147, Y67, c147, c67, n147, n67, q147, q67, γ167, γ187⟩ => [(0, .slice (some ⟨b9, o9, none⟩) m capq), (1, .slice pr mr capr), (6, .pointer (some ⟨γ12 0, 0, none⟩)), (7, .pointer (some ⟨γ167 0, 0, none⟩)), (8, .pointer (some ⟨γ187 0, 0, none⟩)), (25, .slice (some ⟨b9, o9, none⟩) m capq), (26, .int .i64 (m : Nat)), (27, .int .i64 (j : Nat)), (35, .agg #[.slice q67 n67 c67]), (39, .agg #[.slice q147 n147 c147])]) (fun ⟨Y147, Y67, c147, c67, n147, n67, q147, q67, γ167, γ187⟩ => bx (γ187 0) (#[.slice none 0 0]) 24 :: bx (γ167 0) (#[.slice none 0 0]) 24 :: bx (γ12 0) (#[.slice x11.p x11.n x11.cap]) 24 :: (Y147 ++ (Y67 ++ []))) ?_ (fun hmx27 => ?_)
    ·
     rintro ⟨Y147, Y67, c147, c67, n147, n67, q147, q67, γ167, γ187⟩ ⟨hO147, hO67, hbd147, hbd67, hl147, hl67⟩
     refine a1 8 rfl ?_
     refine mo0 1 [(8, .go (owns 1 0 1))] [0, 1, 6, 7, 8, 25, 26, 27, 39] (fun _ => []) (fun _ L => (L.set 1 (bx (γ167 0) (#[.slice q67 n67 c67]) 24))) (fun _ => ?_)
     refine od_ ?_
     exact wk (hmx28 (Y147, Y67, c147, c67, n147, n67, q147, q67, γ167, γ187) ⟨hO147, hO67, hbd147, hbd67, hl147, hl67⟩) [0, 1, 6, 7, 8, 25, 26, 27, 39] [[_], [_], [_], _, _] [0, 1, 2, 3, 4] rfl rfl
    refine any_cutX (V := (List Ob) × (Nat) × (Nat) × (Option Addr) × (Nat → Nat) × (Nat → Nat)) (fun ⟨Y67, c67, n67, q67, γ167, γ187⟩ => SlO 35 Y67 q67 n67 c67 (x11.l.take 17) ∧ n67 ≤ 17 ∧ n67 = ((x11.l.take 17)).length) 3 #[true, true, true, true, true, false, true, true, false, false] (fun ⟨Y67, c67, n67, q67, γ167, γ187⟩ => [(0, .slice (some ⟨b9, o9, none⟩) m capq), (1, .slice pr mr capr), (6, .pointer (some ⟨γ12 0, 0, none⟩)), (7, .pointer (some ⟨γ167 0, 0, none⟩)), (8, .pointer (some ⟨γ187 0, 0, none⟩)), (25, .slice (some ⟨b9, o9, none⟩) m capq), (26, .int .i64 (m : Nat)), (27, .int .i64 (j : Nat)), (35, .agg #[.slice q67 n67 c67]), (38, .agg #[.slice x43.p x43.n x43.cap])]) (fun ⟨Y67, c67, n67, q67, γ167, γ187⟩ => bx (γ187 0) (#[.slice none 0 0]) 24 :: bx (γ167 0) (#[.slice none 0 0]) 24 :: bx (γ12 0) (#[.slice x11.p x11.n x11.cap]) 24 :: (Y67 ++ [])) ?_ (fun hmx26 => ?_)
    ·
     rintro ⟨Y67, c67, n67, q67, γ167, γ187⟩ ⟨hO67, hbd67, hl67⟩
     refine a1 5 rfl ?_
     refine cP (fun v L' => ∃ q_ n_ c_ Y_, v = .agg #[.slice q_ n_ c_] ∧ L' = List.take 3 (bx (γ187 0) (#[.slice none 0 0]) 24 :: bx (γ167 0) (#[.slice none 0 0]) 24 :: bx (γ12 0) (#[.slice x11.p x11.n x11.cap]) 24 :: (Y67 ++ [])) ++ (Y_ ++ List.drop 3 (bx (γ187 0) (#[.slice none 0 0]) 24 :: bx (γ167 0) (#[.slice none 0 0]) 24 :: bx (γ12 0) (#[.slice x11.p x11.n x11.cap]) 24 :: (Y67 ++ []))) ∧ SlO 35 Y_ q_ n_ c_ (x43.l.take 17)) Try.call10 (fun w hw => (short_t x43.p x43.n x43.cap x43.l w (hsx43.kept hw.below) hnx43 hcx43 (by omega)).mono fun e w' ⟨q_, n_, c_, Y_, he, hO, hb, hY⟩ => ⟨_, _, he, ⟨q_, n_, c_, Y_, rfl, rfl, hO⟩, hw.join hb hY 3⟩) ?_
     rintro v147 L147 ⟨q147, n147, c147, Y147, rfl, rfl, hO147⟩
     have hl147 := hO147.len
     have hbd147 : n147 ≤ 17 := by rw [hl147, List.length_take]; omega
     refine od_ ?_
     exact wk (hmx27 (Y147, Y67, c147, c67, n147, n67, q147, q67, γ167, γ187) ⟨hO147, hO67, hbd147, hbd67, hl147, hl67⟩) [0, 1, 6, 7, 8, 25, 26, 27, 35, 39] [[_], [_], [_], _, _] [0, 1, 2, 3, 4] rfl rfl
    refine any_cutX (V := (List Ob) × (List Ob) × (Nat) × (Nat) × (Nat) × (Nat) × (Option Addr) × (Option Addr) × (Nat → Nat)) (fun ⟨Y147, Y67, c147, c67, n147, n67, q147, q67, γ187⟩ => SlO 35 Y147 q147 n147 c147 (x43.l.take 17) ∧ SlO 35 Y67 q67 n67 c67 (x11.l.take 17) ∧ n147 ≤ 17 ∧ n67 ≤ 17 ∧ n147 = ((x43.l.take 17)).length ∧ n67 = ((x11.l.take 17)).length) 3 #[true, true, true, true, true, true, false, true, false, false] (fun ⟨Y147, Y67, c147, c67, n147, n67, q147, q67, γ187⟩ => [(0, .slice (some ⟨b9, o9, none⟩) m capq), (1, .slice pr mr capr), (6, .pointer (some ⟨γ12 0, 0, none⟩)), (8, .pointer (some ⟨γ187 0, 0, none⟩)), (25, .slice (some ⟨b9, o9, none⟩) m capq), (26, .int .i64 (m : Nat)), (27, .int .i64 (j : Nat)), (35, .agg #[.slice q67 n67 c67]), (39, .agg #[.slice q147 n147 c147])]) (fun ⟨Y147, Y67, c147, c67, n147, n67, q147, q67, γ187⟩ => bx (γ187 0) (#[.slice none 0 0]) 24 :: bx (γ12 0) (#[.slice x11.p x11.n x11.cap]) 24 :: (Y147 ++ (Y67 ++ []))) ?_ (fun hmx25 => ?_)
    ·
     rintro ⟨Y147, Y67, c147, c67, n147, n67, q147, q67, γ187⟩ ⟨hO147, hO67, hbd147, hbd67, hl147, hl67⟩
     refine a1 6 rfl ?_
     refine mo0 1 [] [0, 1, 6, 8, 25, 26, 27, 35, 39] (fun γ167 => [(7, .pointer (some ⟨γ167 0, 0, none⟩))]) (fun γ167 L => bx (γ167 0) (#[.slice none 0 0]) 24 :: L) (fun γ167 => ?_)
     refine od_ ?_
     exact wk (hmx27 (Y147, Y67, c147, c67, n147, n67, q147, q67, γ167, γ187) ⟨hO147, hO67, hbd147, hbd67, hl147, hl67⟩) [0, 1, 6, 7, 8, 25, 26, 27, 35, 39] [[_], [_], [_], _, _] [1, 0, 2, 3, 4] rfl rfl
    refine any_cutX (V := (List Ob) × (List Ob) × (Nat) × (Nat) × (Nat) × (Nat) × (Option Addr) × (Option Addr) × (Nat → Nat)) (fun ⟨Y147, Y67, c147, c67, n147, n67, q147, q67, γ167⟩ => SlO 35 Y147 q147 n147 c147 (x43.l.take 17) ∧ SlO 35 Y67 q67 n67 c67 (x11.l.take 17) ∧ n147 ≤ 17 ∧ n67 ≤ 17 ∧ n147 = ((x43.l.take 17)).length ∧ n67 = ((x11.l.take 17)).length) 3 #[true, true, true, true, true, true, true, false, false, false] (fun ⟨Y147, Y67, c147, c67, n147, n67, q147, q67, γ167⟩ => [(0, .slice (some ⟨b9, o9, none⟩) m capq), (1, .slice pr mr capr), (6, .pointer (some ⟨γ12 0, 0, none⟩)), (7, .pointer (some ⟨γ167 0, 0, none⟩)), (25, .slice (some ⟨b9, o9, none⟩) m capq), (26, .int .i64 (m : Nat)), (27, .int .i64 (j : Nat)), (35, .agg #[.slice q67 n67 c67]), (39, .agg #[.slice q147 n147 c147])]) (fun ⟨Y147, Y67, c147, c67, n147, n67, q147, q67, γ167⟩ => bx (γ167 0) (#[.slice none 0 0]) 24 :: bx (γ12 0) (#[.slice x11.p x11.n x11.cap]) 24 :: (Y147 ++ (Y67 ++ []))) ?_ (fun hmx24 => ?_)
    ·
     rintro ⟨Y147, Y67, c147, c67, n147, n67, q147, q67, γ167⟩ ⟨hO147, hO67, hbd147, hbd67, hl147, hl67⟩
     refine a1 7 rfl ?_
     refine mo0 1 [] [0, 1, 6, 7, 25, 26, 27, 35, 39] (fun γ187 => [(8, .pointer (some ⟨γ187 0, 0, none⟩))]) (fun γ187 L => bx (γ187 0) (#[.slice none 0 0]) 24 :: L) (fun γ187 => ?_)
     refine od_ ?_
     exact wk (hmx27 (Y147, Y67, c147, c67, n147, n67, q147, q67, γ167, γ187) ⟨hO147, hO67, hbd147, hbd67, hl147, hl67⟩) [0, 1, 6, 7, 8, 25, 26, 27, 35, 39] [[_], [_], [_], _, _] [0, 1, 2, 3, 4] rfl rfl
    refine any_cutX (V := (Nat → Nat) × (Nat → Nat)) (fun ⟨γ167, γ187⟩ => True) 4 #[true, false, true, true, true, false, true, true, false, false] (fun ⟨γ167, γ187⟩ => [(0, .slice (some ⟨b9, o9, none⟩) m capq), (1, .slice pr mr capr), (6, .pointer (some ⟨γ12 0, 0, none⟩)), (7, .pointer (some ⟨γ167 0, 0, none⟩)), (8, .pointer (some ⟨γ187 0, 0, none⟩)), (25, .slice (some ⟨b9, o9, none⟩) m capq), (26, .int .i64 (m : Nat)), (27, .int .i64 (j : Nat)), (34, .agg #[.slice x11.p x11.n x11.cap]), (38, .agg #[.slice x43.p x43.n x43.cap])]) (fun ⟨γ167, γ187⟩ => [bx (γ187 0) (#[.slice none 0 0]) 24, bx (γ167 0) (#[.slice none 0 0]) 24, bx (γ12 0) (#[.slice x11.p x11.n x11.cap]) 24]) ?_ (fun hmx23 => ?_)
    ·
     rintro ⟨γ167, γ187⟩ _
     refine a1 1 rfl ?_
     refine cP (fun v L' => ∃ q_ n_ c_ Y_, v = .agg #[.slice q_ n_ c_] ∧ L' = List.take 3 ([bx (γ187 0) (#[.slice none 0 0]) 24, bx (γ167 0) (#[.slice none 0 0]) 24, bx (γ12 0) (#[.slice x11.p x11.n x11.cap]) 24]) ++ (Y_ ++ List.drop 3 ([bx (γ187 0) (#[.slice none 0 0]) 24, bx (γ167 0) (#[.slice none 0 0]) 24, bx (γ12 0) (#[.slice x11.p x11.n x11.cap]) 24])) ∧ SlO 35 Y_ q_ n_ c_ (x11.l.take 17)) Try.call10 (fun w hw => (short_t x11.p x11.n x11.cap x11.l w (hsx11.kept hw.below) hnx11 hcx11 (by omega)).mono fun e w' ⟨q_, n_, c_, Y_, he, hO, hb, hY⟩ => ⟨_, _, he, ⟨q_, n_, c_, Y_, rfl, rfl, hO⟩, hw.join hb hY 3⟩) ?_
     rintro v67 L67 ⟨q67, n67, c67, Y67, rfl, rfl, hO67⟩
     have hl67 := hO67.len
     have hbd67 : n67 ≤ 17 := by rw [hl67, List.length_take]; omega
     refine od_ ?_
     exact wk (hmx26 (Y67, c67, n67, q67, γ167, γ187) ⟨hO67, hbd67, hl67⟩) [0, 1, 6, 7, 8, 25, 26, 27, 35, 38] [[_], [_], [_], _] [0, 1, 2, 3] rfl rfl
    refine any_cutX (V := (List Ob) × (Nat) × (Nat) × (Option Addr) × (Nat → Nat) × (Nat → Nat)) (fun ⟨Y67, c67, n67, q67, γ167, γ187⟩ => SlO 35 Y67 q67 n67 c67 (x11.l.take 17) ∧ n67 ≤ 17 ∧ n67 = ((x11.l.take 17)).length) 4 #[true, true, true, true, false, false, true, true, false, false] (fun ⟨Y67, c67, n67, q67, γ167, γ187⟩ => [(0, .slice (some ⟨b9, o9, none⟩) m capq), (1, .slice pr mr capr), (6, .pointer (some ⟨γ12 0, 0, none⟩)), (7, .pointer (some ⟨γ167 0, 0, none⟩)), (8, .pointer (some ⟨γ187 0, 0, none⟩)), (25, .slice (some ⟨b9, o9, none⟩) m capq), (26, .int .i64 (m : Nat)), (27, .int .i64 (j : Nat)), (35, .agg #[.slice q67 n67 c67]), (37, .pointer (some ⟨b9, o9 + 0 * 1, none⟩))]) (fun ⟨Y67, c67, n67, q67, γ167, γ187⟩ => bx (γ187 0) (#[.slice none 0 0]) 24 :: bx (γ167 0) (#[.slice none 0 0]) 24 :: bx (γ12 0) (#[.slice x11.p x11.n x11.cap]) 24 :: (Y67 ++ [])) ?_ (fun hmx22 => ?_)
    ·
     rintro ⟨Y67, c67, n67, q67, γ167, γ187⟩ ⟨hO67, hbd67, hl67⟩
     refine a1 4 rfl ?_
     refine qo 1 [(4, .go (outs b9 (o9 + 0 * 1) [.slice x43.p x43.n x43.cap]))] [0, 1, 6, 7, 8, 25, 26, 27, 35] [(38, .agg #[.slice x43.p x43.n x43.cap])] (cellsP w b9 (o9 + 0 * 1) [.slice x43.p x43.n x43.cap]) (rd_pre (hal.get hx43) _ rfl) ?_
     refine od_ ?_
     exact wk (hmx26 (Y67, c67, n67, q67, γ167, γ187) ⟨hO67, hbd67, hl67⟩) [0, 1, 6, 7, 8, 25, 26, 27, 35, 38] [[_], [_], [_], _] [0, 1, 2, 3] rfl rfl
    refine any_cutX (V := (List Ob) × (Nat) × (Nat) × (Option Addr) × (Nat → Nat)) (fun ⟨Y67, c67, n67, q67, γ187⟩ => SlO 35 Y67 q67 n67 c67 (x11.l.take 17) ∧ n67 ≤ 17 ∧ n67 = ((x11.l.take 17)).length) 4 #[true, true, true, true, true, false, false, true, false, false] (fun ⟨Y67, c67, n67, q67, γ187⟩ => [(0, .slice (some ⟨b9, o9, none⟩) m capq), (1, .slice pr mr capr), (6, .pointer (some ⟨γ12 0, 0, none⟩)), (8, .pointer (some ⟨γ187 0, 0, none⟩)), (25, .slice (some ⟨b9, o9, none⟩) m capq), (26, .int .i64 (m : Nat)), (27, .int .i64 (j : Nat)), (35, .agg #[.slice q67 n67 c67]), (38, .agg #[.slice x43.p x43.n x43.cap])]) (fun ⟨Y67, c67, n67, q67, γ187⟩ => bx (γ187 0) (#[.slice none 0 0]) 24 :: bx (γ12 0) (#[.slice x11.p x11.n x11.cap]) 24 :: (Y67 ++ [])) ?_ (fun hmx21 => ?_)
    ·
     rintro ⟨Y67, c67, n67, q67, γ187⟩ ⟨hO67, hbd67, hl67⟩
     refine any_fork [5, 6] (by kernel_rfl) (by simp) (each_cons _ rfl ?_ (each_cons _ rfl ?_ (each_nil)))
     ·
      refine cP (fun v L' => ∃ q_ n_ c_ Y_, v = .agg #[.slice q_ n_ c_] ∧ L' = List.take 2 (bx (γ187 0) (#[.slice none 0 0]) 24 :: bx (γ12 0) (#[.slice x11.p x11.n x11.cap]) 24 :: (Y67 ++ [])) ++ (Y_ ++ List.drop 2 (bx (γ187 0) (#[.slice none 0 0]) 24 :: bx (γ12 0) (#[.slice x11.p x11.n x11.cap]) 24 :: (Y67 ++ []))) ∧ SlO 35 Y_ q_ n_ c_ (x43.l.take 17)) Try.call10 (fun w hw => (short_t x43.p x43.n x43.cap x43.l w (hsx43.kept hw.below) hnx43 hcx43 (by omega)).mono fun e w' ⟨q_, n_, c_, Y_, he, hO, hb, hY⟩ => ⟨_, _, he, ⟨q_, n_, c_, Y_, rfl, rfl, hO⟩, hw.join hb hY 2⟩) ?_
      rintro v147 L147 ⟨q147, n147, c147, Y147, rfl, rfl, hO147⟩
      have hl147 := hO147.len
      have hbd147 : n147 ≤ 17 := by rw [hl147, List.length_take]; omega
      refine od_ ?_
      exact wk (hmx25 (Y147, Y67, c147, c67, n147, n67, q147, q67, γ187) ⟨hO147, hO67, hbd147, hbd67, hl147, hl67⟩) [0, 1, 6, 8, 25, 26, 27, 35, 39] [[_], [_], _, _] [0, 1, 2, 3] rfl rfl
     ·
      refine mo0 1 [] [0, 1, 6, 8, 25, 26, 27, 35, 38] (fun γ167 => [(7, .pointer (some ⟨γ167 0, 0, none⟩))]) (fun γ167 L => bx (γ167 0) (#[.slice none 0 0]) 24 :: L) (fun γ167 => ?_)
      refine od_ ?_
      exact wk (hmx26 (Y67, c67, n67, q67, γ167, γ187) ⟨hO67, hbd67, hl67⟩) [0, 1, 6, 7, 8, 25, 26, 27, 35, 38] [[_], [_], [_], _] [1, 0, 2, 3] rfl rfl
    refine any_cutX (V := (List Ob) × (Nat) × (Nat) × (Option Addr) × (Nat → Nat)) (fun ⟨Y67, c67, n67, q67, γ167⟩ => SlO 35 Y67 q67 n67 c67 (x11.l.take 17) ∧ n67 ≤ 17 ∧ n67 = ((x11.l.take 17)).length) 4 #[true, true, true, true, true, false, true, false, false, false] (fun ⟨Y67, c67, n67, q67, γ167⟩ => [(0, .slice (some ⟨b9, o9, none⟩) m capq), (1, .slice pr mr capr), (6, .pointer (some ⟨γ12 0, 0, none⟩)), (7, .pointer (some ⟨γ167 0, 0, none⟩)), (25, .slice (some ⟨b9, o9, none⟩) m capq), (26, .int .i64 (m : Nat)), (27, .int .i64 (j : Nat)), (35, .agg #[.slice q67 n67 c67]), (38, .agg #[.slice x43.p x43.n x43.cap])]) (fun ⟨Y67, c67, n67, q67, γ167⟩ => bx (γ167 0) (#[.slice none 0 0]) 24 :: bx (γ12 0) (#[.slice x11.p x11.n x11.cap]) 24 :: (Y67 ++ [])) ?_ (fun hmx20 => ?_)
    ·
     rintro ⟨Y67, c67, n67, q67, γ167⟩ ⟨hO67, hbd67, hl67⟩
     refine any_fork [5, 7] (by kernel_rfl) (by simp) (each_cons _ rfl ?_ (each_cons _ rfl ?_ (each_nil)))
     ·
      refine cP (fun v L' => ∃ q_ n_ c_ Y_, v = .agg #[.slice q_ n_ c_] ∧ L' = List.take 2 (bx (γ167 0) (#[.slice none 0 0]) 24 :: bx (γ12 0) (#[.slice x11.p x11.n x11.cap]) 24 :: (Y67 ++ [])) ++ (Y_ ++ List.drop 2 (bx (γ167 0) (#[.slice none 0 0]) 24 :: bx (γ12 0) (#[.slice x11.p x11.n x11.cap]) 24 :: (Y67 ++ []))) ∧ SlO 35 Y_ q_ n_ c_ (x43.l.take 17)) Try.call10 (fun w hw => (short_t x43.p x43.n x43.cap x43.l w (hsx43.kept hw.below) hnx43 hcx43 (by omega)).mono fun e w' ⟨q_, n_, c_, Y_, he, hO, hb, hY⟩ => ⟨_, _, he, ⟨q_, n_, c_, Y_, rfl, rfl, hO⟩, hw.join hb hY 2⟩) ?_
      rintro v147 L147 ⟨q147, n147, c147, Y147, rfl, rfl, hO147⟩
      have hl147 := hO147.len
      have hbd147 : n147 ≤ 17 := by rw [hl147, List.length_take]; omega
      refine od_ ?_
      exact wk (hmx24 (Y147, Y67, c147, c67, n147, n67, q147, q67, γ167) ⟨hO147, hO67, hbd147, hbd67, hl147, hl67⟩) [0, 1, 6, 7, 25, 26, 27, 35, 39] [[_], [_], _, _] [0, 1, 2, 3] rfl rfl
     ·
      refine mo0 1 [] [0, 1, 6, 7, 25, 26, 27, 35, 38] (fun γ187 => [(8, .pointer (some ⟨γ187 0, 0, none⟩))]) (fun γ187 L => bx (γ187 0) (#[.slice none 0 0]) 24 :: L) (fun γ187 => ?_)
      refine od_ ?_
      exact wk (hmx26 (Y67, c67, n67, q67, γ167, γ187) ⟨hO67, hbd67, hl67⟩) [0, 1, 6, 7, 8, 25, 26, 27, 35, 38] [[_], [_], [_], _] [0, 1, 2, 3] rfl rfl
    refine any_cutX (V := (List Ob) × (List Ob) × (Nat) × (Nat) × (Nat) × (Nat) × (Option Addr) × (Option Addr)) (fun ⟨Y147, Y67, c147, c67, n147, n67, q147, q67⟩ => SlO 35 Y147 q147 n147 c147 (x43.l.take 17) ∧ SlO 35 Y67 q67 n67 c67 (x11.l.take 17) ∧ n147 ≤ 17 ∧ n67 ≤ 17 ∧ n147 = ((x43.l.take 17)).length ∧ n67 = ((x11.l.take 17)).length) 4 #[true, true, true, true, true, true, false, false, false, false] (fun ⟨Y147, Y67, c147, c67, n147, n67, q147, q67⟩ => [(0, .slice (some ⟨b9, o9, none⟩) m capq), (1, .slice pr mr capr), (6, .pointer (some ⟨γ12 0, 0, none⟩)), (25, .slice (some ⟨b9, o9, none⟩) m capq), (26, .int .i64 (m : Nat)), (27, .int .i64 (j : Nat)), (35, .agg #[.slice q67 n67 c67]), (39, .agg #[.slice q147 n147 c147])]) (fun ⟨Y147, Y67, c147, c67, n147, n67, q147, q67⟩ => bx (γ12 0) (#[.slice x11.p x11.n x11.cap]) 24 :: (Y147 ++ (Y67 ++ []))) ?_ (fun hmx19 => ?_)
    ·
     rintro ⟨Y147, Y67, c147, c67, n147, n67, q147, q67⟩ ⟨hO147, hO67, hbd147, hbd67, hl147, hl67⟩
     refine any_fork [6, 7] (by kernel_rfl) (by simp) (each_cons _ rfl ?_ (each_cons _ rfl ?_ (each_nil)))
     ·
      refine mo0 1 [] [0, 1, 6, 25, 26, 27, 35, 39] (fun γ167 => [(7, .pointer (some ⟨γ167 0, 0, none⟩))]) (fun γ167 L => bx (γ167 0) (#[.slice none 0 0]) 24 :: L) (fun γ167 => ?_)
      refine od_ ?_
      exact wk (hmx24 (Y147, Y67, c147, c67, n147, n67, q147, q67, γ167) ⟨hO147, hO67, hbd147, hbd67, hl147, hl67⟩) [0, 1, 6, 7, 25, 26, 27, 35, 39] [[_], [_], _, _] [0, 1, 2, 3] rfl rfl
     ·
      refine mo0 1 [] [0, 1, 6, 25, 26, 27, 35, 39] (fun γ187 => [(8, .pointer (some ⟨γ187 0, 0, none⟩))]) (fun γ187 L => bx (γ187 0) (#[.slice none 0 0]) 24 :: L) (fun γ187 => ?_)
      refine od_ ?_
      exact wk (hmx25 (Y147, Y67, c147, c67, n147, n67, q147, q67, γ187) ⟨hO147, hO67, hbd147, hbd67, hl147, hl67⟩) [0, 1, 6, 8, 25, 26, 27, 35, 39] [[_], [_], _, _] [0, 1, 2, 3] rfl rfl
    refine any_cutX (V := (Nat → Nat) × (Nat → Nat)) (fun ⟨γ167, γ187⟩ => True) 5 #[false, false, true, true, true, false, true, true, false, false] (fun ⟨γ167, γ187⟩ => [(0, .slice (some ⟨b9, o9, none⟩) m capq), (1, .slice pr mr capr), (6, .pointer (some ⟨γ12 0, 0, none⟩)), (7, .pointer (some ⟨γ167 0, 0, none⟩)), (8, .pointer (some ⟨γ187 0, 0, none⟩)), (25, .slice (some ⟨b9, o9, none⟩) m capq), (26, .int .i64 (m : Nat)), (27, .int .i64 (j : Nat)), (38, .agg #[.slice x43.p x43.n x43.cap])]) (fun ⟨γ167, γ187⟩ => [bx (γ187 0) (#[.slice none 0 0]) 24, bx (γ167 0) (#[.slice none 0 0]) 24, bx (γ12 0) (#[.slice x11.p x11.n x11.cap]) 24]) ?_ (fun hmx18 => ?_)
    ·
     rintro ⟨γ167, γ187⟩ _
     refine a1 0 rfl ?_
     refine qo0 1 [(0, .go (owns 2 0 1))] [0, 1, 6, 7, 8, 25, 26, 27, 38] [(34, .agg #[.slice x11.p x11.n x11.cap])] ?_
     refine od_ ?_
     exact wk (hmx23 (γ167, γ187) trivial) [0, 1, 6, 7, 8, 25, 26, 27, 34, 38] [[_], [_], [_]] [0, 1, 2] rfl rfl
    refine any_cutX (V := (Nat → Nat) × (Nat → Nat)) (fun ⟨γ167, γ187⟩ => True) 5 #[true, false, true, true, false, false, true, true, false, false] (fun ⟨γ167, γ187⟩ => [(0, .slice (some ⟨b9, o9, none⟩) m capq), (1, .slice pr mr capr), (6, .pointer (some ⟨γ12 0, 0, none⟩)), (7, .pointer (some ⟨γ167 0, 0, none⟩)), (8, .pointer (some ⟨γ187 0, 0, none⟩)), (25, .slice (some ⟨b9, o9, none⟩) m capq), (26, .int .i64 (m : Nat)), (27, .int .i64 (j : Nat)), (34, .agg #[.slice x11.p x11.n x11.cap]), (37, .pointer (some ⟨b9, o9 + 0 * 1, none⟩))]) (fun ⟨γ167, γ187⟩ => [bx (γ187 0) (#[.slice none 0 0]) 24, bx (γ167 0) (#[.slice none 0 0]) 24, bx (γ12 0) (#[.slice x11.p x11.n x11.cap]) 24]) ?_ (fun hmx17 => ?_)
    ·
     rintro ⟨γ167, γ187⟩ _
     refine any_fork [1, 4] (by kernel_rfl) (by simp) (each_cons _ rfl ?_ (each_cons _ rfl ?_ (each_nil)))
     ·
      refine cP (fun v L' => ∃ q_ n_ c_ Y_, v = .agg #[.slice q_ n_ c_] ∧ L' = List.take 3 ([bx (γ187 0) (#[.slice none 0 0]) 24, bx (γ167 0) (#[.slice none 0 0]) 24, bx (γ12 0) (#[.slice x11.p x11.n x11.cap]) 24]) ++ (Y_ ++ List.drop 3 ([bx (γ187 0) (#[.slice none 0 0]) 24, bx (γ167 0) (#[.slice none 0 0]) 24, bx (γ12 0) (#[.slice x11.p x11.n x11.cap]) 24])) ∧ SlO 35 Y_ q_ n_ c_ (x11.l.take 17)) Try.call10 (fun w hw => (short_t x11.p x11.n x11.cap x11.l w (hsx11.kept hw.below) hnx11 hcx11 (by omega)).mono fun e w' ⟨q_, n_, c_, Y_, he, hO, hb, hY⟩ => ⟨_, _, he, ⟨q_, n_, c_, Y_, rfl, rfl, hO⟩, hw.join hb hY 3⟩) ?_
      rintro v67 L67 ⟨q67, n67, c67, Y67, rfl, rfl, hO67⟩
      have hl67 := hO67.len
      have hbd67 : n67 ≤ 17 := by rw [hl67, List.length_take]; omega
      refine od_ ?_
      exact wk (hmx22 (Y67, c67, n67, q67, γ167, γ187) ⟨hO67, hbd67, hl67⟩) [0, 1, 6, 7, 8, 25, 26, 27, 35, 37] [[_], [_], [_], _] [0, 1, 2, 3] rfl rfl
     ·
      refine qo 1 [(4, .go (outs b9 (o9 + 0 * 1) [.slice x43.p x43.n x43.cap]))] [0, 1, 6, 7, 8, 25, 26, 27, 34] [(38, .agg #[.slice x43.p x43.n x43.cap])] (cellsP w b9 (o9 + 0 * 1) [.slice x43.p x43.n x43.cap]) (rd_pre (hal.get hx43) _ rfl) ?_
      refine od_ ?_
      exact wk (hmx23 (γ167, γ187) trivial) [0, 1, 6, 7, 8, 25, 26, 27, 34, 38] [[_], [_], [_]] [0, 1, 2] rfl rfl
    refine any_cutX (V := (Nat → Nat)) (fun γ187 => True) 5 #[true, false, true, true, true, false, false, true, false, false] (fun γ187 => [(0, .slice (some ⟨b9, o9, none⟩) m capq), (1, .slice pr mr capr), (6, .pointer (some ⟨γ12 0, 0, none⟩)), (8, .pointer (some ⟨γ187 0, 0, none⟩)), (25, .slice (some ⟨b9, o9, none⟩) m capq), (26, .int .i64 (m : Nat)), (27, .int .i64 (j : Nat)), (34, .agg #[.slice x11.p x11.n x11.cap]), (38, .agg #[.slice x43.p x43.n x43.cap])]) (fun γ187 => [bx (γ187 0) (#[.slice none 0 0]) 24, bx (γ12 0) (#[.slice x11.p x11.n x11.cap]) 24]) ?_ (fun hmx16 => ?_)
    ·
     rintro γ187 _
     refine any_fork [1, 6] (by kernel_rfl) (by simp) (each_cons _ rfl ?_ (each_cons _ rfl ?_ (each_nil)))
     ·
      refine cP (fun v L' => ∃ q_ n_ c_ Y_, v = .agg #[.slice q_ n_ c_] ∧ L' = List.take 2 ([bx (γ187 0) (#[.slice none 0 0]) 24, bx (γ12 0) (#[.slice x11.p x11.n x11.cap]) 24]) ++ (Y_ ++ List.drop 2 ([bx (γ187 0) (#[.slice none 0 0]) 24, bx (γ12 0) (#[.slice x11.p x11.n x11.cap]) 24])) ∧ SlO 35 Y_ q_ n_ c_ (x11.l.take 17)) Try.call10 (fun w hw => (short_t x11.p x11.n x11.cap x11.l w (hsx11.kept hw.below) hnx11 hcx11 (by omega)).mono fun e w' ⟨q_, n_, c_, Y_, he, hO, hb, hY⟩ => ⟨_, _, he, ⟨q_, n_, c_, Y_, rfl, rfl, hO⟩, hw.join hb hY 2⟩) ?_
      rintro v67 L67 ⟨q67, n67, c67, Y67, rfl, rfl, hO67⟩
      have hl67 := hO67.len
      have hbd67 : n67 ≤ 17 := by rw [hl67, List.length_take]; omega
      refine od_ ?_
      exact wk (hmx21 (Y67, c67, n67, q67, γ187) ⟨hO67, hbd67, hl67⟩) [0, 1, 6, 8, 25, 26, 27, 35, 38] [[_], [_], _] [0, 1, 2] rfl rfl
     ·
      refine mo0 1 [] [0, 1, 6, 8, 25, 26, 27, 34, 38] (fun γ167 => [(7, .pointer (some ⟨γ167 0, 0, none⟩))]) (fun γ167 L => bx (γ167 0) (#[.slice none 0 0]) 24 :: L) (fun γ167 => ?_)
      refine od_ ?_
      exact wk (hmx23 (γ167, γ187) trivial) [0, 1, 6, 7, 8, 25, 26, 27, 34, 38] [[_], [_], [_]] [1, 0, 2] rfl rfl
    refine any_cutX (V := (Nat → Nat)) (fun γ167 => True) 5 #[true, false, true, true, true, false, true, false, false, false] (fun γ167 => [(0, .slice (some ⟨b9, o9, none⟩) m capq), (1, .slice pr mr capr), (6, .pointer (some ⟨γ12 0, 0, none⟩)), (7, .pointer (some ⟨γ167 0, 0, none⟩)), (25, .slice (some ⟨b9, o9, none⟩) m capq), (26, .int .i64 (m : Nat)), (27, .int .i64 (j : Nat)), (34, .agg #[.slice x11.p x11.n x11.cap]), (38, .agg #[.slice x43.p x43.n x43.cap])]) (fun γ167 => [bx (γ167 0) (#[.slice none 0 0]) 24, bx (γ12 0) (#[.slice x11.p x11.n x11.cap]) 24]) ?_ (fun hmx15 => ?_)
    ·
     rintro γ167 _
     refine any_fork [1, 7] (by kernel_rfl) (by simp) (each_cons _ rfl ?_ (each_cons _ rfl ?_ (each_nil)))
     ·
      refine cP (fun v L' => ∃ q_ n_ c_ Y_, v = .agg #[.slice q_ n_ c_] ∧ L' = List.take 2 ([bx (γ167 0) (#[.slice none 0 0]) 24, bx (γ12 0) (#[.slice x11.p x11.n x11.cap]) 24]) ++ (Y_ ++ List.drop 2 ([bx (γ167 0) (#[.slice none 0 0]) 24, bx (γ12 0) (#[.slice x11.p x11.n x11.cap]) 24])) ∧ SlO 35 Y_ q_ n_ c_ (x11.l.take 17)) Try.call10 (fun w hw => (short_t x11.p x11.n x11.cap x11.l w (hsx11.kept hw.below) hnx11 hcx11 (by omega)).mono fun e w' ⟨q_, n_, c_, Y_, he, hO, hb, hY⟩ => ⟨_, _, he, ⟨q_, n_, c_, Y_, rfl, rfl, hO⟩, hw.join hb hY 2⟩) ?_
      rintro v67 L67 ⟨q67, n67, c67, Y67, rfl, rfl, hO67⟩
      have hl67 := hO67.len
      have hbd67 : n67 ≤ 17 := by rw [hl67, List.length_take]; omega
      refine od_ ?_
      exact wk (hmx20 (Y67, c67, n67, q67, γ167) ⟨hO67, hbd67, hl67⟩) [0, 1, 6, 7, 25, 26, 27, 35, 38] [[_], [_], _] [0, 1, 2] rfl rfl
     ·
      refine mo0 1 [] [0, 1, 6, 7, 25, 26, 27, 34, 38] (fun γ187 => [(8, .pointer (some ⟨γ187 0, 0, none⟩))]) (fun γ187 L => bx (γ187 0) (#[.slice none 0 0]) 24 :: L) (fun γ187 => ?_)
      refine od_ ?_
      exact wk (hmx23 (γ167, γ187) trivial) [0, 1, 6, 7, 8, 25, 26, 27, 34, 38] [[_], [_], [_]] [0, 1, 2] rfl rfl
    refine any_cutX (V := (List Ob) × (Nat) × (Nat) × (Option Addr) × (Nat → Nat)) (fun ⟨Y67, c67, n67, q67, γ187⟩ => SlO 35 Y67 q67 n67 c67 (x11.l.take 17) ∧ n67 ≤ 17 ∧ n67 = ((x11.l.take 17)).length) 5 #[true, true, true, true, false, false, false, true, false, false] (fun ⟨Y67, c67, n67, q67, γ187⟩ => [(0, .slice (some ⟨b9, o9, none⟩) m capq), (1, .slice pr mr capr), (6, .pointer (some ⟨γ12 0, 0, none⟩)), (8, .pointer (some ⟨γ187 0, 0, none⟩)), (25, .slice (some ⟨b9, o9, none⟩) m capq), (26, .int .i64 (m : Nat)), (27, .int .i64 (j : Nat)), (35, .agg #[.slice q67 n67 c67]), (37, .pointer (some ⟨b9, o9 + 0 * 1, none⟩))]) (fun ⟨Y67, c67, n67, q67, γ187⟩ => bx (γ187 0) (#[.slice none 0 0]) 24 :: bx (γ12 0) (#[.slice x11.p x11.n x11.cap]) 24 :: (Y67 ++ [])) ?_ (fun hmx14 => ?_)
    ·
     rintro ⟨Y67, c67, n67, q67, γ187⟩ ⟨hO67, hbd67, hl67⟩
     refine any_fork [4, 6] (by kernel_rfl) (by simp) (each_cons _ rfl ?_ (each_cons _ rfl ?_ (each_nil)))
     ·
      refine qo 1 [(4, .go (outs b9 (o9 + 0 * 1) [.slice x43.p x43.n x43.cap]))] [0, 1, 6, 8, 25, 26, 27, 35] [(38, .agg #[.slice x43.p x43.n x43.cap])] (cellsP w b9 (o9 + 0 * 1) [.slice x43.p x43.n x43.cap]) (rd_pre (hal.get hx43) _ rfl) ?_
      refine od_ ?_
      exact wk (hmx21 (Y67, c67, n67, q67, γ187) ⟨hO67, hbd67, hl67⟩) [0, 1, 6, 8, 25, 26, 27, 35, 38] [[_], [_], _] [0, 1, 2] rfl rfl
     ·
      refine mo0 1 [] [0, 1, 6, 8, 25, 26, 27, 35, 37] (fun γ167 => [(7, .pointer (some ⟨γ167 0, 0, none⟩))]) (fun γ167 L => bx (γ167 0) (#[.slice none 0 0]) 24 :: L) (fun γ167 => ?_)
      refine od_ ?_
      exact wk (hmx22 (Y67, c67, n67, q67, γ167, γ187) ⟨hO67, hbd67, hl67⟩) [0, 1, 6, 7, 8, 25, 26, 27, 35, 37] [[_], [_], [_], _] [1, 0, 2, 3] rfl rfl
    refine any_cutX (V := (List Ob) × (Nat) × (Nat) × (Option Addr) × (Nat → Nat)) (fun ⟨Y67, c67, n67, q67, γ167⟩ => SlO 35 Y67 q67 n67 c67 (x11.l.take 17) ∧ n67 ≤ 17 ∧ n67 = ((x11.l.take 17)).length) 5 #[true, true, true, true, false, false, true, false, false, false] (fun ⟨Y67, c67, n67, q67, γ167⟩ => [(0, .slice (some ⟨b9, o9, none⟩) m capq), (1, .slice pr mr capr), (6, .pointer (some ⟨γ12 0, 0, none⟩)), (7, .pointer (some ⟨γ167 0, 0, none⟩)), (25, .slice (some ⟨b9, o9, none⟩) m capq), (26, .int .i64 (m : Nat)), (27, .int .i64 (j : Nat)), (35, .agg #[.slice q67 n67 c67]), (37, .pointer (some ⟨b9, o9 + 0 * 1, none⟩))]) (fun ⟨Y67, c67, n67, q67, γ167⟩ => bx (γ167 0) (#[.slice none 0 0]) 24 :: bx (γ12 0) (#[.slice x11.p x11.n x11.cap]) 24 :: (Y67 ++ [])) ?_ (fun hmx13 => ?_)
    ·
     rintro ⟨Y67, c67, n67, q67, γ167⟩ ⟨hO67, hbd67, hl67⟩
     refine any_fork [4, 7] (by kernel_rfl) (by simp) (each_cons _ rfl ?_ (each_cons _ rfl ?_ (each_nil)))
     ·
      refine qo 1 [(4, .go (outs b9 (o9 + 0 * 1) [.slice x43.p x43.n x43.cap]))] [0, 1, 6, 7, 25, 26, 27, 35] [(38, .agg #[.slice x43.p x43.n x43.cap])] (cellsP w b9 (o9 + 0 * 1) [.slice x43.p x43.n x43.cap]) (rd_pre (hal.get hx43) _ rfl) ?_
      refine od_ ?_
      exact wk (hmx20 (Y67, c67, n67, q67, γ167) ⟨hO67, hbd67, hl67⟩) [0, 1, 6, 7, 25, 26, 27, 35, 38] [[_], [_], _] [0, 1, 2] rfl rfl
     ·
      refine mo0 1 [] [0, 1, 6, 7, 25, 26, 27, 35, 37] (fun γ187 => [(8, .pointer (some ⟨γ187 0, 0, none⟩))]) (fun γ187 L => bx (γ187 0) (#[.slice none 0 0]) 24 :: L) (fun γ187 => ?_)
      refine od_ ?_
      exact wk (hmx22 (Y67, c67, n67, q67, γ167, γ187) ⟨hO67, hbd67, hl67⟩) [0, 1, 6, 7, 8, 25, 26, 27, 35, 37] [[_], [_], [_], _] [0, 1, 2, 3] rfl rfl
    refine any_cutX (V := (List Ob) × (Nat) × (Nat) × (Option Addr)) (fun ⟨Y67, c67, n67, q67⟩ => SlO 35 Y67 q67 n67 c67 (x11.l.take 17) ∧ n67 ≤ 17 ∧ n67 = ((x11.l.take 17)).length) 5 #[true, true, true, true, true, false, false, false, false, false] (fun ⟨Y67, c67, n67, q67⟩ => [(0, .slice (some ⟨b9, o9, none⟩) m capq), (1, .slice pr mr capr), (6, .pointer (some ⟨γ12 0, 0, none⟩)), (25, .slice (some ⟨b9, o9, none⟩) m capq), (26, .int .i64 (m : Nat)), (27, .int .i64 (j : Nat)), (35, .agg #[.slice q67 n67 c67]), (38, .agg #[.slice x43.p x43.n x43.cap])]) (fun ⟨Y67, c67, n67, q67⟩ => bx (γ12 0) (#[.slice x11.p x11.n x11.cap]) 24 :: (Y67 ++ [])) ?_ (fun hmx12 => ?_)
    ·
     rintro ⟨Y67, c67, n67, q67⟩ ⟨hO67, hbd67, hl67⟩
     refine any_fork [5, 6, 7] (by kernel_rfl) (by simp) (each_cons _ rfl ?_ (each_cons _ rfl ?_ (each_cons _ rfl ?_ (each_nil))))
     ·
      refine cP (fun v L' => ∃ q_ n_ c_ Y_, v = .agg #[.slice q_ n_ c_] ∧ L' = List.take 1 (bx (γ12 0) (#[.slice x11.p x11.n x11.cap]) 24 :: (Y67 ++ [])) ++ (Y_ ++ List.drop 1 (bx (γ12 0) (#[.slice x11.p x11.n x11.cap]) 24 :: (Y67 ++ []))) ∧ SlO 35 Y_ q_ n_ c_ (x43.l.take 17)) Try.call10 (fun w hw => (short_t x43.p x43.n x43.cap x43.l w (hsx43.kept hw.below) hnx43 hcx43 (by omega)).mono fun e w' ⟨q_, n_, c_, Y_, he, hO, hb, hY⟩ => ⟨_, _, he, ⟨q_, n_, c_, Y_, rfl, rfl, hO⟩, hw.join hb hY 1⟩) ?_
      rintro v147 L147 ⟨q147, n147, c147, Y147, rfl, rfl, hO147⟩
      have hl147 := hO147.len
      have hbd147 : n147 ≤ 17 := by rw [hl147, List.length_take]; omega
      refine od_ ?_
      exact wk (hmx19 (Y147, Y67, c147, c67, n147, n67, q147, q67) ⟨hO147, hO67, hbd147, hbd67, hl147, hl67⟩) [0, 1, 6, 25, 26, 27, 35, 39] [[_], _, _] [0, 1, 2] rfl rfl
     ·
      refine mo0 1 [] [0, 1, 6, 25, 26, 27, 35, 38] (fun γ167 => [(7, .pointer (some ⟨γ167 0, 0, none⟩))]) (fun γ167 L => bx (γ167 0) (#[.slice none 0 0]) 24 :: L) (fun γ167 => ?_)
      refine od_ ?_
      exact wk (hmx20 (Y67, c67, n67, q67, γ167) ⟨hO67, hbd67, hl67⟩) [0, 1, 6, 7, 25, 26, 27, 35, 38] [[_], [_], _] [0, 1, 2] rfl rfl
     ·
      refine mo0 1 [] [0, 1, 6, 25, 26, 27, 35, 38] (fun γ187 => [(8, .pointer (some ⟨γ187 0, 0, none⟩))]) (fun γ187 L => bx (γ187 0) (#[.slice none 0 0]) 24 :: L) (fun γ187 => ?_)
      refine od_ ?_
      exact wk (hmx21 (Y67, c67, n67, q67, γ187) ⟨hO67, hbd67, hl67⟩) [0, 1, 6, 8, 25, 26, 27, 35, 38] [[_], [_], _] [0, 1, 2] rfl rfl
    refine any_cutX (V := (Nat → Nat) × (Nat → Nat)) (fun ⟨γ167, γ187⟩ => True) 6 #[false, false, true, true, false, false, true, true, false, false] (fun ⟨γ167, γ187⟩ => [(0, .slice (some ⟨b9, o9, none⟩) m capq), (1, .slice pr mr capr), (6, .pointer (some ⟨γ12 0, 0, none⟩)), (7, .pointer (some ⟨γ167 0, 0, none⟩)), (8, .pointer (some ⟨γ187 0, 0, none⟩)), (25, .slice (some ⟨b9, o9, none⟩) m capq), (26, .int .i64 (m : Nat)), (27, .int .i64 (j : Nat)), (37, .pointer (some ⟨b9, o9 + 0 * 1, none⟩))]) (fun ⟨γ167, γ187⟩ => [bx (γ187 0) (#[.slice none 0 0]) 24, bx (γ167 0) (#[.slice none 0 0]) 24, bx (γ12 0) (#[.slice x11.p x11.n x11.cap]) 24]) ?_ (fun hmx11 => ?_)
    ·
     rintro ⟨γ167, γ187⟩ _
     refine any_fork [0, 4] (by kernel_rfl) (by simp) (each_cons _ rfl ?_ (each_cons _ rfl ?_ (each_nil)))
     ·
      refine qo0 1 [(0, .go (owns 2 0 1))] [0, 1, 6, 7, 8, 25, 26, 27, 37] [(34, .agg #[.slice x11.p x11.n x11.cap])] ?_
      refine od_ ?_
      exact wk (hmx17 (γ167, γ187) trivial) [0, 1, 6, 7, 8, 25, 26, 27, 34, 37] [[_], [_], [_]] [0, 1, 2] rfl rfl
     ·
      refine qo 1 [(4, .go (outs b9 (o9 + 0 * 1) [.slice x43.p x43.n x43.cap]))] [0, 1, 6, 7, 8, 25, 26, 27] [(38, .agg #[.slice x43.p x43.n x43.cap])] (cellsP w b9 (o9 + 0 * 1) [.slice x43.p x43.n x43.cap]) (rd_pre (hal.get hx43) _ rfl) ?_
      refine od_ ?_
      exact wk (hmx18 (γ167, γ187) trivial) [0, 1, 6, 7, 8, 25, 26, 27, 38] [[_], [_], [_]] [0, 1, 2] rfl rfl
    refine any_cutX (V := (Nat → Nat)) (fun γ187 => True) 6 #[false, false, true, true, true, false, false, true, false, false] (fun γ187 => [(0, .slice (some ⟨b9, o9, none⟩) m capq), (1, .slice pr mr capr), (6, .pointer (some ⟨γ12 0, 0, none⟩)), (8, .pointer (some ⟨γ187 0, 0, none⟩)), (25, .slice (some ⟨b9, o9, none⟩) m capq), (26, .int .i64 (m : Nat)), (27, .int .i64 (j : Nat)), (38, .agg #[.slice x43.p x43.n x43.cap])]) (fun γ187 => [bx (γ187 0) (#[.slice none 0 0]) 24, bx (γ12 0) (#[.slice x11.p x11.n x11.cap]) 24]) ?_ (fun hmx10 => ?_)
    ·
     rintro γ187 _
     refine any_fork [0, 6] (by kernel_rfl) (by simp) (each_cons _ rfl ?_ (each_cons _ rfl ?_ (each_nil)))
     ·
      refine qo0 1 [(0, .go (owns 1 0 1))] [0, 1, 6, 8, 25, 26, 27, 38] [(34, .agg #[.slice x11.p x11.n x11.cap])] ?_
      refine od_ ?_
      exact wk (hmx16 γ187 trivial) [0, 1, 6, 8, 25, 26, 27, 34, 38] [[_], [_]] [0, 1] rfl rfl
     ·
      refine mo0 1 [] [0, 1, 6, 8, 25, 26, 27, 38] (fun γ167 => [(7, .pointer (some ⟨γ167 0, 0, none⟩))]) (fun γ167 L => bx (γ167 0) (#[.slice none 0 0]) 24 :: L) (fun γ167 => ?_)
      refine od_ ?_
      exact wk (hmx18 (γ167, γ187) trivial) [0, 1, 6, 7, 8, 25, 26, 27, 38] [[_], [_], [_]] [1, 0, 2] rfl rfl
    refine any_cutX (V := (Nat → Nat)) (fun γ167 => True) 6 #[false, false, true, true, true, false, true, false, false, false] (fun γ167 => [(0, .slice (some ⟨b9, o9, none⟩) m capq), (1, .slice pr mr capr), (6, .pointer (some ⟨γ12 0, 0, none⟩)), (7, .pointer (some ⟨γ167 0, 0, none⟩)), (25, .slice (some ⟨b9, o9, none⟩) m capq), (26, .int .i64 (m : Nat)), (27, .int .i64 (j : Nat)), (38, .agg #[.slice x43.p x43.n x43.cap])]) (fun γ167 => [bx (γ167 0) (#[.slice none 0 0]) 24, bx (γ12 0) (#[.slice x11.p x11.n x11.cap]) 24]) ?_ (fun hmx9 => ?_)
    ·
     rintro γ167 _
     refine any_fork [0, 7] (by kernel_rfl) (by simp) (each_cons _ rfl ?_ (each_cons _ rfl ?_ (each_nil)))
     ·
      refine qo0 1 [(0, .go (owns 1 0 1))] [0, 1, 6, 7, 25, 26, 27, 38] [(34, .agg #[.slice x11.p x11.n x11.cap])] ?_
      refine od_ ?_
      exact wk (hmx15 γ167 trivial) [0, 1, 6, 7, 25, 26, 27, 34, 38] [[_], [_]] [0, 1] rfl rfl
     ·
      refine mo0 1 [] [0, 1, 6, 7, 25, 26, 27, 38] (fun γ187 => [(8, .pointer (some ⟨γ187 0, 0, none⟩))]) (fun γ187 L => bx (γ187 0) (#[.slice none 0 0]) 24 :: L) (fun γ187 => ?_)
      refine od_ ?_
      exact wk (hmx18 (γ167, γ187) trivial) [0, 1, 6, 7, 8, 25, 26, 27, 38] [[_], [_], [_]] [0, 1, 2] rfl rfl
    refine any_cutX (V := (Nat → Nat)) (fun γ187 => True) 6 #[true, false, true, true, false, false, false, true, false, false] (fun γ187 => [(0, .slice (some ⟨b9, o9, none⟩) m capq), (1, .slice pr mr capr), (6, .pointer (some ⟨γ12 0, 0, none⟩)), (8, .pointer (some ⟨γ187 0, 0, none⟩)), (25, .slice (some ⟨b9, o9, none⟩) m capq), (26, .int .i64 (m : Nat)), (27, .int .i64 (j : Nat)), (34, .agg #[.slice x11.p x11.n x11.cap]), (37, .pointer (some ⟨b9, o9 + 0 * 1, none⟩))]) (fun γ187 => [bx (γ187 0) (#[.slice none 0 0]) 24, bx (γ12 0) (#[.slice x11.p x11.n x11.cap]) 24]) ?_ (fun hmx8 => ?_)
    ·
     rintro γ187 _
     refine any_fork [1, 4, 6] (by kernel_rfl) (by simp) (each_cons _ rfl ?_ (each_cons _ rfl ?_ (each_cons _ rfl ?_ (each_nil))))
     ·
      refine cP (fun v L' => ∃ q_ n_ c_ Y_, v = .agg #[.slice q_ n_ c_] ∧ L' = List.take 2 ([bx (γ187 0) (#[.slice none 0 0]) 24, bx (γ12 0) (#[.slice x11.p x11.n x11.cap]) 24]) ++ (Y_ ++ List.drop 2 ([bx (γ187 0) (#[.slice none 0 0]) 24, bx (γ12 0) (#[.slice x11.p x11.n x11.cap]) 24])) ∧ SlO 35 Y_ q_ n_ c_ (x11.l.take 17)) Try.call10 (fun w hw => (short_t x11.p x11.n x11.cap x11.l w (hsx11.kept hw.below) hnx11 hcx11 (by omega)).mono fun e w' ⟨q_, n_, c_, Y_, he, hO, hb, hY⟩ => ⟨_, _, he, ⟨q_, n_, c_, Y_, rfl, rfl, hO⟩, hw.join hb hY 2⟩) ?_
      rintro v67 L67 ⟨q67, n67, c67, Y67, rfl, rfl, hO67⟩
      have hl67 := hO67.len
      have hbd67 : n67 ≤ 17 := by rw [hl67, List.length_take]; omega
      refine od_ ?_
      exact wk (hmx14 (Y67, c67, n67, q67, γ187) ⟨hO67, hbd67, hl67⟩) [0, 1, 6, 8, 25, 26, 27, 35, 37] [[_], [_], _] [0, 1, 2] rfl rfl
     ·
      refine qo 1 [(4, .go (outs b9 (o9 + 0 * 1) [.slice x43.p x43.n x43.cap]))] [0, 1, 6, 8, 25, 26, 27, 34] [(38, .agg #[.slice x43.p x43.n x43.cap])] (cellsP w b9 (o9 + 0 * 1) [.slice x43.p x43.n x43.cap]) (rd_pre (hal.get hx43) _ rfl) ?_
      refine od_ ?_
      exact wk (hmx16 γ187 trivial) [0, 1, 6, 8, 25, 26, 27, 34, 38] [[_], [_]] [0, 1] rfl rfl
     ·
      refine mo0 1 [] [0, 1, 6, 8, 25, 26, 27, 34, 37] (fun γ167 => [(7, .pointer (some ⟨γ167 0, 0, none⟩))]) (fun γ167 L => bx (γ167 0) (#[.slice none 0 0]) 24 :: L) (fun γ167 => ?_)
      refine od_ ?_
      exact wk (hmx17 (γ167, γ187) trivial) [0, 1, 6, 7, 8, 25, 26, 27, 34, 37] [[_], [_], [_]] [1, 0, 2] rfl rfl
    refine any_cutX (V := (Nat → Nat)) (fun γ167 => True) 6 #[true, false, true, true, false, false, true, false, false, false] (fun γ167 => [(0, .slice (some ⟨b9, o9, none⟩) m capq), (1, .slice pr mr capr), (6, .pointer (some ⟨γ12 0, 0, none⟩)), (7, .pointer (some ⟨γ167 0, 0, none⟩)), (25, .slice (some ⟨b9, o9, none⟩) m capq), (26, .int .i64 (m : Nat)), (27, .int .i64 (j : Nat)), (34, .agg #[.slice x11.p x11.n x11.cap]), (37, .pointer (some ⟨b9, o9 + 0 * 1, none⟩))]) (fun γ167 => [bx (γ167 0) (#[.slice none 0 0]) 24, bx (γ12 0) (#[.slice x11.p x11.n x11.cap]) 24]) ?_ (fun hmx7 => ?_)
    ·
     rintro γ167 _
     refine any_fork [1, 4, 7] (by kernel_rfl) (by simp) (each_cons _ rfl ?_ (each_cons _ rfl ?_ (each_cons _ rfl ?_ (each_nil))))
     ·
      refine cP (fun v L' => ∃ q_ n_ c_ Y_, v = .agg #[.slice q_ n_ c_] ∧ L' = List.take 2 ([bx (γ167 0) (#[.slice none 0 0]) 24, bx (γ12 0) (#[.slice x11.p x11.n x11.cap]) 24]) ++ (Y_ ++ List.drop 2 ([bx (γ167 0) (#[.slice none 0 0]) 24, bx (γ12 0) (#[.slice x11.p x11.n x11.cap]) 24])) ∧ SlO 35 Y_ q_ n_ c_ (x11.l.take 17)) Try.call10 (fun w hw => (short_t x11.p x11.n x11.cap x11.l w (hsx11.kept hw.below) hnx11 hcx11 (by omega)).mono fun e w' ⟨q_, n_, c_, Y_, he, hO, hb, hY⟩ => ⟨_, _, he, ⟨q_, n_, c_, Y_, rfl, rfl, hO⟩, hw.join hb hY 2⟩) ?_
      rintro v67 L67 ⟨q67, n67, c67, Y67, rfl, rfl, hO67⟩
      have hl67 := hO67.len
      have hbd67 : n67 ≤ 17 := by rw [hl67, List.length_take]; omega
      refine od_ ?_
      exact wk (hmx13 (Y67, c67, n67, q67, γ167) ⟨hO67, hbd67, hl67⟩) [0, 1, 6, 7, 25, 26, 27, 35, 37] [[_], [_], _] [0, 1, 2] rfl rfl
     ·
      refine qo 1 [(4, .go (outs b9 (o9 + 0 * 1) [.slice x43.p x43.n x43.cap]))] [0, 1, 6, 7, 25, 26, 27, 34] [(38, .agg #[.slice x43.p x43.n x43.cap])] (cellsP w b9 (o9 + 0 * 1) [.slice x43.p x43.n x43.cap]) (rd_pre (hal.get hx43) _ rfl) ?_
      refine od_ ?_
      exact wk (hmx15 γ167 trivial) [0, 1, 6, 7, 25, 26, 27, 34, 38] [[_], [_]] [0, 1] rfl rfl
     ·
      refine mo0 1 [] [0, 1, 6, 7, 25, 26, 27, 34, 37] (fun γ187 => [(8, .pointer (some ⟨γ187 0, 0, none⟩))]) (fun γ187 L => bx (γ187 0) (#[.slice none 0 0]) 24 :: L) (fun γ187 => ?_)
      refine od_ ?_
      exact wk (hmx17 (γ167, γ187) trivial) [0, 1, 6, 7, 8, 25, 26, 27, 34, 37] [[_], [_], [_]] [0, 1, 2] rfl rfl
    refine any_cutX (V := Unit) (fun _ => True) 6 #[true, false, true, true, true, false, false, false, false, false] (fun _ => [(0, .slice (some ⟨b9, o9, none⟩) m capq), (1, .slice pr mr capr), (6, .pointer (some ⟨γ12 0, 0, none⟩)), (25, .slice (some ⟨b9, o9, none⟩) m capq), (26, .int .i64 (m : Nat)), (27, .int .i64 (j : Nat)), (34, .agg #[.slice x11.p x11.n x11.cap]), (38, .agg #[.slice x43.p x43.n x43.cap])]) (fun _ => [bx (γ12 0) (#[.slice x11.p x11.n x11.cap]) 24]) ?_ (fun hmx6 => ?_)
    ·
     rintro _ _
     refine any_fork [1, 6, 7] (by kernel_rfl) (by simp) (each_cons _ rfl ?_ (each_cons _ rfl ?_ (each_cons _ rfl ?_ (each_nil))))
     ·
      refine cP (fun v L' => ∃ q_ n_ c_ Y_, v = .agg #[.slice q_ n_ c_] ∧ L' = List.take 1 ([bx (γ12 0) (#[.slice x11.p x11.n x11.cap]) 24]) ++ (Y_ ++ List.drop 1 ([bx (γ12 0) (#[.slice x11.p x11.n x11.cap]) 24])) ∧ SlO 35 Y_ q_ n_ c_ (x11.l.take 17)) Try.call10 (fun w hw => (short_t x11.p x11.n x11.cap x11.l w (hsx11.kept hw.below) hnx11 hcx11 (by omega)).mono fun e w' ⟨q_, n_, c_, Y_, he, hO, hb, hY⟩ => ⟨_, _, he, ⟨q_, n_, c_, Y_, rfl, rfl, hO⟩, hw.join hb hY 1⟩) ?_
      rintro v67 L67 ⟨q67, n67, c67, Y67, rfl, rfl, hO67⟩
      have hl67 := hO67.len
      have hbd67 : n67 ≤ 17 := by rw [hl67, List.length_take]; omega
      refine od_ ?_
      exact wk (hmx12 (Y67, c67, n67, q67) ⟨hO67, hbd67, hl67⟩) [0, 1, 6, 25, 26, 27, 35, 38] [[_], _] [0, 1] rfl rfl
     ·
      refine mo0 1 [] [0, 1, 6, 25, 26, 27, 34, 38] (fun γ167 => [(7, .pointer (some ⟨γ167 0, 0, none⟩))]) (fun γ167 L => bx (γ167 0) (#[.slice none 0 0]) 24 :: L) (fun γ167 => ?_)
      refine od_ ?_
      exact wk (hmx15 γ167 trivial) [0, 1, 6, 7, 25, 26, 27, 34, 38] [[_], [_]] [0, 1] rfl rfl
     ·
      refine mo0 1 [] [0, 1, 6, 25, 26, 27, 34, 38] (fun γ187 => [(8, .pointer (some ⟨γ187 0, 0, none⟩))]) (fun γ187 L => bx (γ187 0) (#[.slice none 0 0]) 24 :: L) (fun γ187 => ?_)
      refine od_ ?_
      exact wk (hmx16 γ187 trivial) [0, 1, 6, 8, 25, 26, 27, 34, 38] [[_], [_]] [0, 1] rfl rfl
    refine any_cutX (V := (List Ob) × (Nat) × (Nat) × (Option Addr)) (fun ⟨Y67, c67, n67, q67⟩ => SlO 35 Y67 q67 n67 c67 (x11.l.take 17) ∧ n67 ≤ 17 ∧ n67 = ((x11.l.take 17)).length) 6 #[true, true, true, true, false, false, false, false, false, false] (fun ⟨Y67, c67, n67, q67⟩ => [(0, .slice (some ⟨b9, o9, none⟩) m capq), (1, .slice pr mr capr), (6, .pointer (some ⟨γ12 0, 0, none⟩)), (25, .slice (some ⟨b9, o9, none⟩) m capq), (26, .int .i64 (m : Nat)), (27, .int .i64 (j : Nat)), (35, .agg #[.slice q67 n67 c67]), (37, .pointer (some ⟨b9, o9 + 0 * 1, none⟩))]) (fun ⟨Y67, c67, n67, q67⟩ => bx (γ12 0) (#[.slice x11.p x11.n x11.cap]) 24 :: (Y67 ++ [])) ?_ (fun hmx5 => ?_)
    ·
     rintro ⟨Y67, c67, n67, q67⟩ ⟨hO67, hbd67, hl67⟩
     refine any_fork [4, 6, 7] (by kernel_rfl) (by simp) (each_cons _ rfl ?_ (each_cons _ rfl ?_ (each_cons _ rfl ?_ (each_nil))))
     ·
      refine qo 1 [(4, .go (outs b9 (o9 + 0 * 1) [.slice x43.p x43.n x43.cap]))] [0, 1, 6, 25, 26, 27, 35] [(38, .agg #[.slice x43.p x43.n x43.cap])] (cellsP w b9 (o9 + 0 * 1) [.slice x43.p x43.n x43.cap]) (rd_pre (hal.get hx43) _ rfl) ?_
      refine od_ ?_
      exact wk (hmx12 (Y67, c67, n67, q67) ⟨hO67, hbd67, hl67⟩) [0, 1, 6, 25, 26, 27, 35, 38] [[_], _] [0, 1] rfl rfl
     ·
      refine mo0 1 [] [0, 1, 6, 25, 26, 27, 35, 37] (fun γ167 => [(7, .pointer (some ⟨γ167 0, 0, none⟩))]) (fun γ167 L => bx (γ167 0) (#[.slice none 0 0]) 24 :: L) (fun γ167 => ?_)
      refine od_ ?_
      exact wk (hmx13 (Y67, c67, n67, q67, γ167) ⟨hO67, hbd67, hl67⟩) [0, 1, 6, 7, 25, 26, 27, 35, 37] [[_], [_], _] [0, 1, 2] rfl rfl
     ·
      refine mo0 1 [] [0, 1, 6, 25, 26, 27, 35, 37] (fun γ187 => [(8, .pointer (some ⟨γ187 0, 0, none⟩))]) (fun γ187 L => bx (γ187 0) (#[.slice none 0 0]) 24 :: L) (fun γ187 => ?_)
      refine od_ ?_
      exact wk (hmx14 (Y67, c67, n67, q67, γ187) ⟨hO67, hbd67, hl67⟩) [0, 1, 6, 8, 25, 26, 27, 35, 37] [[_], [_], _] [0, 1, 2] rfl rfl
    refine any_cutX (V := (Nat → Nat)) (fun γ187 => True) 7 #[false, false, true, true, false, false, false, true, false, false] (fun γ187 => [(0, .slice (some ⟨b9, o9, none⟩) m capq), (1, .slice pr mr capr), (6, .pointer (some ⟨γ12 0, 0, none⟩)), (8, .pointer (some ⟨γ187 0, 0, none⟩)), (25, .slice (some ⟨b9, o9, none⟩) m capq), (26, .int .i64 (m : Nat)), (27, .int .i64 (j : Nat)), (37, .pointer (some ⟨b9, o9 + 0 * 1, none⟩))]) (fun γ187 => [bx (γ187 0) (#[.slice none 0 0]) 24, bx (γ12 0) (#[.slice x11.p x11.n x11.cap]) 24]) ?_ (fun hmx4 => ?_)
    ·
     rintro γ187 _
     refine any_fork [0, 4, 6] (by kernel_rfl) (by simp) (each_cons _ rfl ?_ (each_cons _ rfl ?_ (each_cons _ rfl ?_ (each_nil))))
     ·
      refine qo0 1 [(0, .go (owns 1 0 1))] [0, 1, 6, 8, 25, 26, 27, 37] [(34, .agg #[.slice x11.p x11.n x11.cap])] ?_
      refine od_ ?_
      exact wk (hmx8 γ187 trivial) [0, 1, 6, 8, 25, 26, 27, 34, 37] [[_], [_]] [0, 1] rfl rfl
     ·
      refine qo 1 [(4, .go (outs b9 (o9 + 0 * 1) [.slice x43.p x43.n x43.cap]))] [0, 1, 6, 8, 25, 26, 27] [(38, .agg #[.slice x43.p x43.n x43.cap])] (cellsP w b9 (o9 + 0 * 1) [.slice x43.p x43.n x43.cap]) (rd_pre (hal.get hx43) _ rfl) ?_
      refine od_ ?_
      exact wk (hmx10 γ187 trivial) [0, 1, 6, 8, 25, 26, 27, 38] [[_], [_]] [0, 1] rfl rfl
     ·
      refine mo0 1 [] [0, 1, 6, 8, 25, 26, 27, 37] (fun γ167 => [(7, .pointer (some ⟨γ167 0, 0, none⟩))]) (fun γ167 L => bx (γ167 0) (#[.slice none 0 0]) 24 :: L) (fun γ167 => ?_)
      refine od_ ?_
      exact wk (hmx11 (γ167, γ187) trivial) [0, 1, 6, 7, 8, 25, 26, 27, 37] [[_], [_], [_]] [1, 0, 2] rfl rfl
    refine any_cutX (V := (Nat → Nat)) (fun γ167 => True) 7 #[false, false, true, true, false, false, true, false, false, false] (fun γ167 => [(0, .slice (some ⟨b9, o9, none⟩) m capq), (1, .slice pr mr capr), (6, .pointer (some ⟨γ12 0, 0, none⟩)), (7, .pointer (some ⟨γ167 0, 0, none⟩)), (25, .slice (some ⟨b9, o9, none⟩) m capq), (26, .int .i64 (m : Nat)), (27, .int .i64 (j : Nat)), (37, .pointer (some ⟨b9, o9 + 0 * 1, none⟩))]) (fun γ167 => [bx (γ167 0) (#[.slice none 0 0]) 24, bx (γ12 0) (#[.slice x11.p x11.n x11.cap]) 24]) ?_ (fun hmx3 => ?_)
    ·
     rintro γ167 _
     refine any_fork [0, 4, 7] (by kernel_rfl) (by simp) (each_cons _ rfl ?_ (each_cons _ rfl ?_ (each_cons _ rfl ?_ (each_nil))))
     ·
      refine qo0 1 [(0, .go (owns 1 0 1))] [0, 1, 6, 7, 25, 26, 27, 37] [(34, .agg #[.slice x11.p x11.n x11.cap])] ?_
      refine od_ ?_
      exact wk (hmx7 γ167 trivial) [0, 1, 6, 7, 25, 26, 27, 34, 37] [[_], [_]] [0, 1] rfl rfl
     ·
      refine qo 1 [(4, .go (outs b9 (o9 + 0 * 1) [.slice x43.p x43.n x43.cap]))] [0, 1, 6, 7, 25, 26, 27] [(38, .agg #[.slice x43.p x43.n x43.cap])] (cellsP w b9 (o9 + 0 * 1) [.slice x43.p x43.n x43.cap]) (rd_pre (hal.get hx43) _ rfl) ?_
      refine od_ ?_
      exact wk (hmx9 γ167 trivial) [0, 1, 6, 7, 25, 26, 27, 38] [[_], [_]] [0, 1] rfl rfl
     ·
      refine mo0 1 [] [0, 1, 6, 7, 25, 26, 27, 37] (fun γ187 => [(8, .pointer (some ⟨γ187 0, 0, none⟩))]) (fun γ187 L => bx (γ187 0) (#[.slice none 0 0]) 24 :: L) (fun γ187 => ?_)
      refine od_ ?_
      exact wk (hmx11 (γ167, γ187) trivial) [0, 1, 6, 7, 8, 25, 26, 27, 37] [[_], [_], [_]] [0, 1, 2] rfl rfl
    refine any_cutX (V := Unit) (fun _ => True) 7 #[false, false, true, true, true, false, false, false, false, false] (fun _ => [(0, .slice (some ⟨b9, o9, none⟩) m capq), (1, .slice pr mr capr), (6, .pointer (some ⟨γ12 0, 0, none⟩)), (25, .slice (some ⟨b9, o9, none⟩) m capq), (26, .int .i64 (m : Nat)), (27, .int .i64 (j : Nat)), (38, .agg #[.slice x43.p x43.n x43.cap])]) (fun _ => [bx (γ12 0) (#[.slice x11.p x11.n x11.cap]) 24]) ?_ (fun hmx2 => ?_)
    ·
     rintro _ _
     refine any_fork [0, 6, 7] (by kernel_rfl) (by simp) (each_cons _ rfl ?_ (each_cons _ rfl ?_ (each_cons _ rfl ?_ (each_nil))))
     ·
      refine qo0 1 [(0, .go (owns 0 0 1))] [0, 1, 6, 25, 26, 27, 38] [(34, .agg #[.slice x11.p x11.n x11.cap])] ?_
      refine od_ ?_
      exact wk (hmx6 () trivial) [0, 1, 6, 25, 26, 27, 34, 38] [[_]] [0] rfl rfl
     ·
      refine mo0 1 [] [0, 1, 6, 25, 26, 27, 38] (fun γ167 => [(7, .pointer (some ⟨γ167 0, 0, none⟩))]) (fun γ167 L => bx (γ167 0) (#[.slice none 0 0]) 24 :: L) (fun γ167 => ?_)
      refine od_ ?_
      exact wk (hmx9 γ167 trivial) [0, 1, 6, 7, 25, 26, 27, 38] [[_], [_]] [0, 1] rfl rfl
     ·
      refine mo0 1 [] [0, 1, 6, 25, 26, 27, 38] (fun γ187 => [(8, .pointer (some ⟨γ187 0, 0, none⟩))]) (fun γ187 L => bx (γ187 0) (#[.slice none 0 0]) 24 :: L) (fun γ187 => ?_)
      refine od_ ?_
      exact wk (hmx10 γ187 trivial) [0, 1, 6, 8, 25, 26, 27, 38] [[_], [_]] [0, 1] rfl rfl
    refine any_cutX (V := Unit) (fun _ => True) 7 #[true, false, true, true, false, false, false, false, false, false] (fun _ => [(0, .slice (some ⟨b9, o9, none⟩) m capq), (1, .slice pr mr capr), (6, .pointer (some ⟨γ12 0, 0, none⟩)), (25, .slice (some ⟨b9, o9, none⟩) m capq), (26, .int .i64 (m : Nat)), (27, .int .i64 (j : Nat)), (34, .agg #[.slice x11.p x11.n x11.cap]), (37, .pointer (some ⟨b9, o9 + 0 * 1, none⟩))]) (fun _ => [bx (γ12 0) (#[.slice x11.p x11.n x11.cap]) 24]) ?_ (fun hmx1 => ?_)
    ·
     rintro _ _
     refine any_fork [1, 4, 6, 7] (by kernel_rfl) (by simp) (each_cons _ rfl ?_ (each_cons _ rfl ?_ (each_cons _ rfl ?_ (each_cons _ rfl ?_ (each_nil)))))
     ·
      refine cP (fun v L' => ∃ q_ n_ c_ Y_, v = .agg #[.slice q_ n_ c_] ∧ L' = List.take 1 ([bx (γ12 0) (#[.slice x11.p x11.n x11.cap]) 24]) ++ (Y_ ++ List.drop 1 ([bx (γ12 0) (#[.slice x11.p x11.n x11.cap]) 24])) ∧ SlO 35 Y_ q_ n_ c_ (x11.l.take 17)) Try.call10 (fun w hw => (short_t x11.p x11.n x11.cap x11.l w (hsx11.kept hw.below) hnx11 hcx11 (by omega)).mono fun e w' ⟨q_, n_, c_, Y_, he, hO, hb, hY⟩ => ⟨_, _, he, ⟨q_, n_, c_, Y_, rfl, rfl, hO⟩, hw.join hb hY 1⟩) ?_
      rintro v67 L67 ⟨q67, n67, c67, Y67, rfl, rfl, hO67⟩
      have hl67 := hO67.len
      have hbd67 : n67 ≤ 17 := by rw [hl67, List.length_take]; omega
      refine od_ ?_
      exact wk (hmx5 (Y67, c67, n67, q67) ⟨hO67, hbd67, hl67⟩) [0, 1, 6, 25, 26, 27, 35, 37] [[_], _] [0, 1] rfl rfl
     ·
      refine qo 1 [(4, .go (outs b9 (o9 + 0 * 1) [.slice x43.p x43.n x43.cap]))] [0, 1, 6, 25, 26, 27, 34] [(38, .agg #[.slice x43.p x43.n x43.cap])] (cellsP w b9 (o9 + 0 * 1) [.slice x43.p x43.n x43.cap]) (rd_pre (hal.get hx43) _ rfl) ?_
      refine od_ ?_
      exact wk (hmx6 () trivial) [0, 1, 6, 25, 26, 27, 34, 38] [[_]] [0] rfl rfl
     ·
      refine mo0 1 [] [0, 1, 6, 25, 26, 27, 34, 37] (fun γ167 => [(7, .pointer (some ⟨γ167 0, 0, none⟩))]) (fun γ167 L => bx (γ167 0) (#[.slice none 0 0]) 24 :: L) (fun γ167 => ?_)
      refine od_ ?_
      exact wk (hmx7 γ167 trivial) [0, 1, 6, 7, 25, 26, 27, 34, 37] [[_], [_]] [0, 1] rfl rfl
     ·
      refine mo0 1 [] [0, 1, 6, 25, 26, 27, 34, 37] (fun γ187 => [(8, .pointer (some ⟨γ187 0, 0, none⟩))]) (fun γ187 L => bx (γ187 0) (#[.slice none 0 0]) 24 :: L) (fun γ187 => ?_)
      refine od_ ?_
      exact wk (hmx8 γ187 trivial) [0, 1, 6, 8, 25, 26, 27, 34, 37] [[_], [_]] [0, 1] rfl rfl
    refine any_fork [0, 4, 6, 7] (by kernel_rfl) (by simp) (each_cons _ rfl ?_ (each_cons _ rfl ?_ (each_cons _ rfl ?_ (each_cons _ rfl ?_ (each_nil)))))
    ·
     refine qo0 1 [(0, .go (owns 0 0 1))] [0, 1, 6, 25, 26, 27, 37] [(34, .agg #[.slice x11.p x11.n x11.cap])] ?_
     refine od_ ?_
     exact wk (hmx1 () trivial) [0, 1, 6, 25, 26, 27, 34, 37] [[_]] [0] rfl rfl
    ·
     refine qo 1 [(4, .go (outs b9 (o9 + 0 * 1) [.slice x43.p x43.n x43.cap]))] [0, 1, 6, 25, 26, 27] [(38, .agg #[.slice x43.p x43.n x43.cap])] (cellsP w b9 (o9 + 0 * 1) [.slice x43.p x43.n x43.cap]) (rd_pre (hal.get hx43) _ rfl) ?_
     refine od_ ?_
     exact wk (hmx2 () trivial) [0, 1, 6, 25, 26, 27, 38] [[_]] [0] rfl rfl
    ·
     refine mo0 1 [] [0, 1, 6, 25, 26, 27, 37] (fun γ167 => [(7, .pointer (some ⟨γ167 0, 0, none⟩))]) (fun γ167 L => bx (γ167 0) (#[.slice none 0 0]) 24 :: L) (fun γ167 => ?_)
     refine od_ ?_
     exact wk (hmx3 γ167 trivial) [0, 1, 6, 7, 25, 26, 27, 37] [[_], [_]] [0, 1] rfl rfl
    ·
     refine mo0 1 [] [0, 1, 6, 25, 26, 27, 37] (fun γ187 => [(8, .pointer (some ⟨γ187 0, 0, none⟩))]) (fun γ187 L => bx (γ187 0) (#[.slice none 0 0]) 24 :: L) (fun γ187 => ?_)
     refine od_ ?_
     exact wk (hmx4 γ187 trivial) [0, 1, 6, 8, 25, 26, 27, 37] [[_], [_]] [0, 1] rfl rfl
   rintro ⟨Y147, Y67, c147, c67, n147, n67, q147, q67, γ167, γ187⟩ ⟨hO147, hO67, hbd147, hbd67, hl147, hl67⟩
   refine any_nil (by kernel_rfl) ?_
   refine ds_ (sq_ (ao_ (qo0 1 [(0, .go (owns 1 0 1))] [0, 1, 6, 7, 8, 25, 26, 27] [(40, .agg #[.slice q67 n67 c67])] ?_)))
   rcases q287 : chkQ (x11.l.take 17) with _ | _
   ·
    refine cD (.bool false) Try.call19 (fun w hw => by have := rrightq_t q67 n67 c67 (x11.l.take 17) w (hO67.atN (A := (_ :: _ :: _ :: Y147)) hw) hO67.len (by omega); rw [q287] at this; exact this) (qo0 1 [] [0, 1, 6, 7, 8, 25, 26, 27] [(9, .bool false)] (on_ (ds_ (sq_ (sq_ (ao_ (qo0 1 [(0, .go (owns 1 0 1))] [0, 1, 6, 7, 8, 9, 25, 26, 27] [(42, .agg #[.slice q67 n67 c67])] (cD (.int .i64 200) Try.call20 (fun w hw => by have := qcheck_t q67 n67 c67 (x11.l.take 17) w (hO67.atN (A := (_ :: _ :: _ :: Y147)) hw) hO67.len (by omega); rw [q287] at this; exact this) (qo0 1 [] [0, 1, 6, 7, 8, 9, 25, 26, 27] [(10, .int .i64 200)] (on_ (ds_ (sq_ ?_))))))))))))
    by_cases q291 : (x11.l.take 17) = (x43.l.take 17)
    ·
     refine at_calmTo (f := 6) 22 rfl (by kernel_rfl) (by kernel_rfl) (by kernel_rfl) (by kernel_rfl) (by kernel_rfl) (by kernel_rfl) ?_
     refine cm 15 [(3, .eqs false), (13, .go (owns 1 0 1)), (14, .go (owns 0 0 1))] [0, 1, 6, 7, 8, 9, 25, 26, 27] [(56, .bool false), (57, .agg #[.slice q67 n67 c67]), (58, .agg #[.slice q147 n147 c147])] ([EqRun Try.prog .neq 4 (.tmp 45) (.tmp 46) (.bool false) (.bool false) false]) (by kernel_rfl) rfl (al1 (bool_ne false false)) ?_
     refine cK (.bool true) Try.call17 (fun w hw => by have := same_t q67 n67 c67 (x11.l.take 17) q147 n147 c147 (x43.l.take 17) w (hO67.atN (A := (_ :: _ :: _ :: Y147)) hw) hO67.len (by omega) (hO147.atN (A := [_, _, _]) hw) hO147.len (by omega); rw [decide_eq_true q291] at this; exact this) ?_
     refine cm 2 [(16, .go (owns 1 0 1)), (17, .go (owns 0 0 1))] [0, 1, 6, 7, 9, 25, 26, 27, 56, 59] [(60, .agg #[.slice q67 n67 c67]), (61, .agg #[.slice q147 n147 c147])] ([]) (by kernel_rfl) rfl al0 ?_
     refine cK (.bool true) Try.call21 (fun w hw => by have := rsame_t q67 n67 c67 (x11.l.take 17) q147 n147 c147 (x43.l.take 17) w (hO67.atN (A := (_ :: _ :: _ :: Y147)) hw) hO67.len (by omega) (hO147.atN (A := [_, _, _]) hw) hO147.len (by omega); rw [decide_eq_true q291] at this; exact this) ?_
     refine cm 3 [(19, .eqs false)] [0, 1, 6, 7, 9, 25, 26, 27] [(65, .bool false)] ([EqRun Try.prog .neq 4 (.tmp 59) (.tmp 62) (.bool true) (.bool true) false]) (by kernel_rfl) rfl (al1 (bool_ne true true)) ?_
     refine calm_nil' ?_
     refine done_pre (li' := #[true, true, true, true, true, true, true, true, true, true, true, true, true, true, true, true, true, true, true, true, true, true, false, false, false, false, false, false]) (by kernel_rfl) ?_
     refine any_cutX (V := (List Ob) × (Nat) × (Nat) × (Option Addr)) (fun ⟨Y777, c777, n777, q777⟩ => SlO 35 Y777 q777 n777 c777 (x11.l.take 17) ∧ n777 ≤ 17 ∧ n777 = ((x11.l.take 17)).length) 0 #[true, true, true, true, true, true, true, true, true, true, true, true, true, true, true, true, true, true, true, true, true, true, true, true, true, true, true, true] (fun ⟨Y777, c777, n777, q777⟩ => [(0, .slice (some ⟨b9, o9, none⟩) m capq), (1, .slice pr mr capr), (7, .pointer (some ⟨γ167 0, 0, none⟩)), (9, .bool false), (25, .slice (some ⟨b9, o9, none⟩) m capq), (26, .int .i64 (m : Nat)), (27, .int .i64 (j : Nat)), (71, .bool false)]) (fun ⟨Y777, c777, n777, q777⟩ => bx (γ187 0) (#[.slice q147 n147 c147]) 24 :: bx (γ167 0) (#[.slice q67 n67 c67]) 24 :: bx (γ12 0) (#[.slice x11.p x11.n x11.cap]) 24 :: (Y777 ++ (Y147 ++ (Y67 ++ [])))) ?_ (fun hmx6 => ?_)
     rotate_left
     ·
      refine any_cutX (V := (List Ob) × (Nat) × (Nat) × (Option Addr)) (fun ⟨Y777, c777, n777, q777⟩ => SlO 35 Y777 q777 n777 c777 (x11.l.take 17) ∧ n777 ≤ 17 ∧ n777 = ((x11.l.take 17)).length) 3 #[true, true, true, true, true, true, true, true, true, true, true, true, true, true, true, true, true, true, true, true, true, true, true, true, true, false, false, false] (fun ⟨Y777, c777, n777, q777⟩ => [(0, .slice (some ⟨b9, o9, none⟩) m capq), (1, .slice pr mr capr), (7, .pointer (some ⟨γ167 0, 0, none⟩)), (9, .bool false), (25, .slice (some ⟨b9, o9, none⟩) m capq), (26, .int .i64 (m : Nat)), (27, .int .i64 (j : Nat)), (65, .bool false), (66, .agg #[.slice q67 n67 c67]), (68, .agg #[.slice q777 n777 c777])]) (fun ⟨Y777, c777, n777, q777⟩ => bx (γ187 0) (#[.slice q147 n147 c147]) 24 :: bx (γ167 0) (#[.slice q67 n67 c67]) 24 :: bx (γ12 0) (#[.slice x11.p x11.n x11.cap]) 24 :: (Y777 ++ (Y147 ++ (Y67 ++ [])))) ?_ (fun hmx5 => ?_)
      ·
       rintro ⟨Y777, c777, n777, q777⟩ ⟨hO777, hbd777, hl777⟩
       refine a1 25 rfl ?_
       refine cD (.bool true) Try.call17 (fun w hw => by have := same_t q67 n67 c67 (x11.l.take 17) q777 n777 c777 (x11.l.take 17) w (hO67.at ((hw.tailN 3).sub ((List.sublist_append_right Y147 _).trans (List.sublist_append_right Y777 _)))) hO67.len (by omega) (hO777.atN (A := [_, _, _]) hw) hO777.len (by omega); rw [decide_eq_true rfl] at this; exact this) ?_
       refine od_ ?_
       refine tk (m := 0) [26, 27] [] [0, 1, 7, 9, 25, 26, 27] [(71, .bool false)] ([]) #[true, true, true, true, true, true, true, true, true, true, true, true, true, true, true, true, true, true, true, true, true, true, true, true, true, true, true, true] al0 ?_
       exact wk (hmx6 (Y777, c777, n777, q777) ⟨hO777, hbd777, hl777⟩) [0, 1, 7, 9, 25, 26, 27, 71] [[_], [_], [_], _, _, _] [0, 1, 2, 3, 4, 5] rfl rfl
      refine any_cutX (V := (List Ob) × (Nat) × (Nat) × (Option Addr)) (fun ⟨Y777, c777, n777, q777⟩ => SlO 35 Y777 q777 n777 c777 (x11.l.take 17) ∧ n777 ≤ 17 ∧ n777 = ((x11.l.take 17)).length) 4 #[true, true, true, true, true, true, true, true, true, true, true, true, true, true, true, true, true, true, true, true, true, true, false, true, true, false, false, false] (fun ⟨Y777, c777, n777, q777⟩ => [(0, .slice (some ⟨b9, o9, none⟩) m capq), (1, .slice pr mr capr), (7, .pointer (some ⟨γ167 0, 0, none⟩)), (9, .bool false), (25, .slice (some ⟨b9, o9, none⟩) m capq), (26, .int .i64 (m : Nat)), (27, .int .i64 (j : Nat)), (65, .bool false), (68, .agg #[.slice q777 n777 c777])]) (fun ⟨Y777, c777, n777, q777⟩ => bx (γ187 0) (#[.slice q147 n147 c147]) 24 :: bx (γ167 0) (#[.slice q67 n67 c67]) 24 :: bx (γ12 0) (#[.slice x11.p x11.n x11.cap]) 24 :: (Y777 ++ (Y147 ++ (Y67 ++ [])))) ?_ (fun hmx4 => ?_)
      ·
       rintro ⟨Y777, c777, n777, q777⟩ ⟨hO777, hbd777, hl777⟩
       refine a1 22 rfl ?_
       refine qo0 1 [(22, .go (owns 1 0 1))] [0, 1, 7, 9, 25, 26, 27, 65, 68] [(66, .agg #[.slice q67 n67 c67])] ?_
       refine od_ ?_
       exact wk (hmx5 (Y777, c777, n777, q777) ⟨hO777, hbd777, hl777⟩) [0, 1, 7, 9, 25, 26, 27, 65, 66, 68] [[_], [_], [_], _, _, _] [0, 1, 2, 3, 4, 5] rfl rfl
      refine any_cutX (V := Unit) (fun _ => True) 4 #[true, true, true, true, true, true, true, true, true, true, true, true, true, true, true, true, true, true, true, true, true, true, true, true, false, false, false, false] (fun _ => [(0, .slice (some ⟨b9, o9, none⟩) m capq), (1, .slice pr mr capr), (7, .pointer (some ⟨γ167 0, 0, none⟩)), (9, .bool false), (25, .slice (some ⟨b9, o9, none⟩) m capq), (26, .int .i64 (m : Nat)), (27, .int .i64 (j : Nat)), (65, .bool false), (66, .agg #[.slice q67 n67 c67]), (67, .agg #[.slice x11.p x11.n x11.cap])]) (fun _ => bx (γ187 0) (#[.slice q147 n147 c147]) 24 :: bx (γ167 0) (#[.slice q67 n67 c67]) 24 :: bx (γ12 0) (#[.slice x11.p x11.n x11.cap]) 24 :: (Y147 ++ (Y67 ++ []))) ?_ (fun hmx3 => ?_)
      ·
       rintro _ _
       refine a1 24 rfl ?_
       refine cP (fun v L' => ∃ q_ n_ c_ Y_, v = .agg #[.slice q_ n_ c_] ∧ L' = List.take 3 (bx (γ187 0) (#[.slice q147 n147 c147]) 24 :: bx (γ167 0) (#[.slice q67 n67 c67]) 24 :: bx (γ12 0) (#[.slice x11.p x11.n x11.cap]) 24 :: (Y147 ++ (Y67 ++ []))) ++ (Y_ ++ List.drop 3 (bx (γ187 0) (#[.slice q147 n147 c147]) 24 :: bx (γ167 0) (#[.slice q67 n67 c67]) 24 :: bx (γ12 0) (#[.slice x11.p x11.n x11.cap]) 24 :: (Y147 ++ (Y67 ++ [])))) ∧ SlO 35 Y_ q_ n_ c_ (x11.l.take 17)) Try.call10 (fun w hw => (short_t x11.p x11.n x11.cap x11.l w (hsx11.kept hw.below) hnx11 hcx11 (by omega)).mono fun e w' ⟨q_, n_, c_, Y_, he, hO, hb, hY⟩ => ⟨_, _, he, ⟨q_, n_, c_, Y_, rfl, rfl, hO⟩, hw.join hb hY 3⟩) ?_
       rintro v777 L777 ⟨q777, n777, c777, Y777, rfl, rfl, hO777⟩
       have hl777 := hO777.len
       have hbd777 : n777 ≤ 17 := by rw [hl777, List.length_take]; omega
       refine od_ ?_
       exact wk (hmx5 (Y777, c777, n777, q777) ⟨hO777, hbd777, hl777⟩) [0, 1, 7, 9, 25, 26, 27, 65, 66, 68] [[_], [_], [_], _, _, _] [0, 1, 2, 3, 4, 5] rfl rfl
      refine any_cutX (V := Unit) (fun _ => True) 5 #[true, true, true, true, true, true, true, true, true, true, true, true, true, true, true, true, true, true, true, true, true, true, false, true, false, false, false, false] (fun _ => [(0, .slice (some ⟨b9, o9, none⟩) m capq), (1, .slice pr mr capr), (7, .pointer (some ⟨γ167 0, 0, none⟩)), (9, .bool false), (25, .slice (some ⟨b9, o9, none⟩) m capq), (26, .int .i64 (m : Nat)), (27, .int .i64 (j : Nat)), (65, .bool false), (67, .agg #[.slice x11.p x11.n x11.cap])]) (fun _ => bx (γ187 0) (#[.slice q147 n147 c147]) 24 :: bx (γ167 0) (#[.slice q67 n67 c67]) 24 :: bx (γ12 0) (#[.slice x11.p x11.n x11.cap]) 24 :: (Y147 ++ (Y67 ++ []))) ?_ (fun hmx2 => ?_)
      ·
       rintro _ _
       refine any_fork [22, 24] (by kernel_rfl) (by simp) (each_cons _ rfl ?_ (each_cons _ rfl ?_ (each_nil)))
       ·
        refine qo0 1 [(22, .go (owns 1 0 1))] [0, 1, 7, 9, 25, 26, 27, 65, 67] [(66, .agg #[.slice q67 n67 c67])] ?_
        refine od_ ?_
        exact wk (hmx3 () trivial) [0, 1, 7, 9, 25, 26, 27, 65, 66, 67] [[_], [_], [_], _, _] [0, 1, 2, 3, 4] rfl rfl
       ·
        refine cP (fun v L' => ∃ q_ n_ c_ Y_, v = .agg #[.slice q_ n_ c_] ∧ L' = List.take 3 (bx (γ187 0) (#[.slice q147 n147 c147]) 24 :: bx (γ167 0) (#[.slice q67 n67 c67]) 24 :: bx (γ12 0) (#[.slice x11.p x11.n x11.cap]) 24 :: (Y147 ++ (Y67 ++ []))) ++ (Y_ ++ List.drop 3 (bx (γ187 0) (#[.slice q147 n147 c147]) 24 :: bx (γ167 0) (#[.slice q67 n67 c67]) 24 :: bx (γ12 0) (#[.slice x11.p x11.n x11.cap]) 24 :: (Y147 ++ (Y67 ++ [])))) ∧ SlO 35 Y_ q_ n_ c_ (x11.l.take 17)) Try.call10 (fun w hw => (short_t x11.p x11.n x11.cap x11.l w (hsx11.kept hw.below) hnx11 hcx11 (by omega)).mono fun e w' ⟨q_, n_, c_, Y_, he, hO, hb, hY⟩ => ⟨_, _, he, ⟨q_, n_, c_, Y_, rfl, rfl, hO⟩, hw.join hb hY 3⟩) ?_
        rintro v777 L777 ⟨q777, n777, c777, Y777, rfl, rfl, hO777⟩
        have hl777 := hO777.len
        have hbd777 : n777 ≤ 17 := by rw [hl777, List.length_take]; omega
        refine od_ ?_
        exact wk (hmx4 (Y777, c777, n777, q777) ⟨hO777, hbd777, hl777⟩) [0, 1, 7, 9, 25, 26, 27, 65, 68] [[_], [_], [_], _, _, _] [0, 1, 2, 3, 4, 5] rfl rfl
      refine any_cutX (V := Unit) (fun _ => True) 5 #[true, true, true, true, true, true, true, true, true, true, true, true, true, true, true, true, true, true, true, true, true, true, true, false, false, false, false, false] (fun _ => [(0, .slice (some ⟨b9, o9, none⟩) m capq), (1, .slice pr mr capr), (6, .pointer (some ⟨γ12 0, 0, none⟩)), (7, .pointer (some ⟨γ167 0, 0, none⟩)), (9, .bool false), (25, .slice (some ⟨b9, o9, none⟩) m capq), (26, .int .i64 (m : Nat)), (27, .int .i64 (j : Nat)), (65, .bool false), (66, .agg #[.slice q67 n67 c67])]) (fun _ => bx (γ187 0) (#[.slice q147 n147 c147]) 24 :: bx (γ167 0) (#[.slice q67 n67 c67]) 24 :: bx (γ12 0) (#[.slice x11.p x11.n x11.cap]) 24 :: (Y147 ++ (Y67 ++ []))) ?_ (fun hmx1 => ?_)
      ·
       rintro _ _
       refine a1 23 rfl ?_
       refine qo0 1 [(23, .go (owns 2 0 1))] [0, 1, 7, 9, 25, 26, 27, 65, 66] [(67, .agg #[.slice x11.p x11.n x11.cap])] ?_
       refine od_ ?_
       exact wk (hmx3 () trivial) [0, 1, 7, 9, 25, 26, 27, 65, 66, 67] [[_], [_], [_], _, _] [0, 1, 2, 3, 4] rfl rfl
      refine any_fork [22, 23] (by kernel_rfl) (by simp) (each_cons _ rfl ?_ (each_cons _ rfl ?_ (each_nil)))
      ·
       refine qo0 1 [(22, .go (owns 1 0 1))] [0, 1, 6, 7, 9, 25, 26, 27, 65] [(66, .agg #[.slice q67 n67 c67])] ?_
       refine od_ ?_
       exact wk (hmx1 () trivial) [0, 1, 6, 7, 9, 25, 26, 27, 65, 66] [[_], [_], [_], _, _] [0, 1, 2, 3, 4] rfl rfl
      ·
       refine qo0 1 [(23, .go (owns 2 0 1))] [0, 1, 7, 9, 25, 26, 27, 65] [(67, .agg #[.slice x11.p x11.n x11.cap])] ?_
       refine od_ ?_
       exact wk (hmx2 () trivial) [0, 1, 7, 9, 25, 26, 27, 65, 67] [[_], [_], [_], _, _] [0, 1, 2, 3, 4] rfl rfl
     rintro ⟨Y777, c777, n777, q777⟩ ⟨hO777, hbd777, hl777⟩
     refine any_nil (by kernel_rfl) ?_
     refine ds_ (f_ (at_skip (ds_ (sq_ (ao_ (qo0 1 [(0, .go (owns 1 0 1))] [0, 1, 7, 9, 25, 26, 27] [(73, .agg #[.slice q67 n67 c67])] (cD (.tuple #[.agg #[.int .u64 0, .int .u64 0, .int .u64 0], .bool false]) Try.call22 (fun w hw => by have := topq_t q67 n67 c67 (x11.l.take 17) w (hO67.at ((hw.tailN 3).sub ((List.sublist_append_right Y147 _).trans (List.sublist_append_right Y777 _)))) hO67.len (by omega) (take_U hux11); rw [topQ_bad q287] at this; exact this) (mo0 6 [(6, .go (owns 0 0 3))] [0, 1, 7, 9, 25, 26, 27] (fun γ899 => [(11, .pointer (some ⟨γ899 0, 0, none⟩)), (12, .bool false)]) (fun γ899 L => bx (γ899 0) (#[.int .u64 0, .int .u64 0, .int .u64 0]) 33 :: L) (fun γ899 => on_ (ds_ (sq_ (ao_ (qo0 1 [(0, .go (owns 2 0 1))] [0, 1, 7, 9, 11, 12, 25, 26, 27] [(78, .agg #[.slice q67 n67 c67])] (cD (.tuple #[.agg #[.int .u64 ((topRV (x11.l.take 17)).1.hi), .int .u64 ((topRV (x11.l.take 17)).1.lo), .int .u64 ((topRV (x11.l.take 17)).1.w)], .bool ((topRV (x11.l.take 17)).2)]) Try.call23 (fun w hw => rtop_t q67 n67 c67 (x11.l.take 17) w (hO67.at ((hw.tailN 4).sub ((List.sublist_append_right Y147 _).trans (List.sublist_append_right Y777 _)))) hO67.len (by omega) (take_U hux11)) (mo0 6 [(6, .go (owns 0 0 3))] [0, 1, 7, 9, 11, 12, 25, 26, 27] (fun γ901 => [(13, .pointer (some ⟨γ901 0, 0, none⟩)), (14, .bool ((topRV (x11.l.take 17)).2))]) (fun γ901 L => bx (γ901 0) (#[.int .u64 ((topRV (x11.l.take 17)).1.hi), .int .u64 ((topRV (x11.l.take 17)).1.lo), .int .u64 ((topRV (x11.l.take 17)).1.w)]) 33 :: L) (fun γ901 => on_ (ds_ (sq_ (sq_ (qa [(15, .go (owns 1 0 3)), (17, .eqs false)] [0, 1, 7, 9, 25, 26, 27] [(104, .bool false)] ([EqRun Try.prog .neq 33 (.tmp 97) (.tmp 98) (.agg #[.int .u64 0, .int .u64 0, .int .u64 0]) (.agg #[.int .u64 0, .int .u64 0, .int .u64 0]) false]) (al1 (fq_ne_t (a := (⟨0, 0, 0⟩ : Fq)) (b := (⟨0, 0, 0⟩ : Fq)) rfl)) (ds_ (f_ (at_skip (ds_ (sq_ (qa0 [] [0, 1, 7, 9, 25, 26, 27] [(105, .int .i64 0)] (ds_ (at_block (at_loop (α := Nat) [0, 1, 7, 9, 25, 26, 27, 105] (fun i => [(0, .slice (some ⟨b9, o9, none⟩) m capq), (1, .slice pr mr capr), (7, .pointer (some ⟨γ167 0, 0, none⟩)), (9, .bool false), (25, .slice (some ⟨b9, o9, none⟩) m capq), (26, .int .i64 (m : Nat)), (27, .int .i64 (j : Nat)), (105, .int .i64 (i : Nat))]) (fun i => bx (γ901 0) (#[.int .u64 ((topRV (x11.l.take 17)).1.hi), .int .u64 ((topRV (x11.l.take 17)).1.lo), .int .u64 ((topRV (x11.l.take 17)).1.w)]) 33 :: bx (γ899 0) (#[.int .u64 0, .int .u64 0, .int .u64 0]) 33 :: bx (γ187 0) (#[.slice q147 n147 c147]) 24 :: bx (γ167 0) (#[.slice q67 n67 c67]) 24 :: bx (γ12 0) (#[.slice x11.p x11.n x11.cap]) 24 :: (Y777 ++ (Y147 ++ (Y67 ++ [])))) (fun i => i ≤ 18) (fun i => 18 - i) 0 (by kernel_rfl) rfl (Nat.zero_le _) ?_)))))))))))))))))))))))))))))
     rintro i
     intro hi
     refine sq_ ?_
     by_cases q905 : ((i : Nat) : Int) < (18 : Int)
     ·
      refine qa [(0, .yes)] [0, 1, 7, 9, 25, 26, 27, 105] [(106, .bool true)] ([((i : Nat) : Int) < (18 : Int)]) (al1 q905) (ds_ (sq_ (t_ (at_skip (ds_ (sq_ (at_block (sq_ (qa0 [] [0, 1, 7, 9, 25, 26, 27, 105] [(15, .int .i64 (i : Nat))] (ds_ (sq_ (ao_ (qo0 2 [(0, .go (owns 3 0 1))] [0, 1, 7, 9, 15, 25, 26, 27, 105] [(109, .agg #[.slice q67 n67 c67]), (110, .int .i64 (i : Nat))] (cD (.tuple #[.agg #[.int .i64 0, .int .i64 0, .int .u64 0, .int .u64 0, .int .u64 0], .bool false]) Try.call11 (fun w hw => by have := getq_t q67 n67 c67 (x11.l.take 17) (i : Nat) w (hO67.at ((hw.tailN 5).sub ((List.sublist_append_right Y147 _).trans (List.sublist_append_right Y777 _)))) hO67.len (by omega) (take_U hux11) (by omega) (by omega); rw [getQ_bad q287] at this; exact this) (mo0 6 [(7, .go (owns 0 0 5))] [0, 1, 7, 9, 15, 25, 26, 27, 105] (fun γ909 => [(16, .pointer (some ⟨γ909 0, 0, none⟩)), (17, .bool false)]) (fun γ909 L => bx (γ909 0) (#[.int .i64 0, .int .i64 0, .int .u64 0, .int .u64 0, .int .u64 0]) 35 :: L) (fun γ909 => on_ (ds_ (sq_ (ao_ (qo0 2 [(0, .go (owns 4 0 1))] [0, 1, 7, 9, 16, 17, 25, 26, 27, 105] [(115, .agg #[.slice q67 n67 c67]), (116, .int .i64 (i : Nat))] (cD (.tuple #[.agg #[.int .i64 (((getK Rn.id (x11.l.take 17) (i : Nat)).getD zR).id), .int .i64 (((getK Rn.id (x11.l.take 17) (i : Nat)).getD zR).each), .int .u64 (((getK Rn.id (x11.l.take 17) (i : Nat)).getD zR).th), .int .u64 (((getK Rn.id (x11.l.take 17) (i : Nat)).getD zR).tl), .int .u64 (((getK Rn.id (x11.l.take 17) (i : Nat)).getD zR).tw)], .bool ((getK Rn.id (x11.l.take 17) (i : Nat)).isSome)]) Try.call24 (fun w hw => by have := rget_t q67 n67 c67 (x11.l.take 17) (i : Nat) w (hO67.at ((hw.tailN 6).sub ((List.sublist_append_right Y147 _).trans (List.sublist_append_right Y777 _)))) hO67.len (by omega); rw [getO_split] at this; exact this) (mo0 6 [(7, .go (owns 0 0 5))] [0, 1, 7, 9, 16, 17, 25, 26, 27, 105] (fun γ911 => [(18, .pointer (some ⟨γ911 0, 0, none⟩)), (19, .bool ((getK Rn.id (x11.l.take 17) (i : Nat)).isSome))]) (fun γ911 L => bx (γ911 0) (#[.int .i64 (((getK Rn.id (x11.l.take 17) (i : Nat)).getD zR).id), .int .i64 (((getK Rn.id (x11.l.take 17) (i : Nat)).getD zR).each), .int .u64 (((getK Rn.id (x11.l.take 17) (i : Nat)).getD zR).th), .int .u64 (((getK Rn.id (x11.l.take 17) (i : Nat)).getD zR).tl), .int .u64 (((getK Rn.id (x11.l.take 17) (i : Nat)).getD zR).tw)]) 35 :: L) (fun γ911 => on_ (ds_ (sq_ (qa [(15, .go (owns 1 0 5)), (17, .eqs false)] [0, 1, 7, 9, 25, 26, 27, 105] [(142, .bool false)] ([EqRun Try.prog .neq 35 (.tmp 135) (.tmp 136) (.agg #[.int .i64 0, .int .i64 0, .int .u64 0, .int .u64 0, .int .u64 0]) (.agg #[.int .i64 0, .int .i64 0, .int .u64 0, .int .u64 0, .int .u64 0]) false]) (al1 (rn_ne_t (a := (⟨0, 0, 0, 0, 0⟩ : Rn)) (b := (⟨0, 0, 0, 0, 0⟩ : Rn)) rfl)) ?_))))))))))))))))))))))))))
      refine ds_ (f_ (at_skip (done_block (ds_ (qa [(0, .fit)] [0, 1, 7, 9, 25, 26, 27] [(105, .int .i64 (i + 1 : Nat))] ([Fit .i64 ((i + 1 : Nat))]) (al1 (fit64 (by omega) (by omega))) (Done.drop (L' := bx (γ901 0) (#[.int .u64 ((topRV (x11.l.take 17)).1.hi), .int .u64 ((topRV (x11.l.take 17)).1.lo), .int .u64 ((topRV (x11.l.take 17)).1.w)]) 33 :: bx (γ899 0) (#[.int .u64 0, .int .u64 0, .int .u64 0]) 33 :: bx (γ187 0) (#[.slice q147 n147 c147]) 24 :: bx (γ167 0) (#[.slice q67 n67 c67]) 24 :: bx (γ12 0) (#[.slice x11.p x11.n x11.cap]) 24 :: (Y777 ++ (Y147 ++ (Y67 ++ [])))) ?_ (List.Sublist.cons _ (List.Sublist.cons _ (List.Sublist.cons_cons _ (List.Sublist.cons_cons _ (List.Sublist.cons_cons _ (List.Sublist.cons_cons _ (List.Sublist.cons_cons _ (List.Sublist.refl _))))))))))))))
      exact done_round [0, 1, 7, 9, 25, 26, 27, 105] (i + 1) (by kernel_rfl) rfl (by show i + 1 ≤ 18; omega) (by first | omega | (simp only; omega))
     ·
      refine qa [(0, .no)] [0, 1, 7, 9, 25, 26, 27, 105] [(106, .bool false)] ([¬ (((i : Nat) : Int) < (18 : Int))]) (al1 q905) (ds_ (sq_ (f_ (at_leave _ rfl (done_block (ds_ (qa [(0, .fit)] [0, 1, 25, 26] [(27, .int .i64 (j + 1 : Nat))] ([Fit .i64 ((j + 1 : Nat))]) (al1 (fit64 (by omega) (by omega))) (Done.drop (L' := []) ?_ (List.Sublist.cons _ (List.Sublist.cons _ (List.Sublist.cons _ (List.Sublist.cons _ (List.Sublist.cons _ (((List.sublist_append_right _ _).trans (List.sublist_append_right _ _)).trans (List.sublist_append_right _ _)))))))))))))))
      exact done_round [0, 1, 25, 26, 27] (j + 1) (by kernel_rfl) rfl (by show j + 1 ≤ m; omega) (by first | omega | (simp only; omega))
    ·
     refine at_calmTo (f := 6) 22 rfl (by kernel_rfl) (by kernel_rfl) (by kernel_rfl) (by kernel_rfl) (by kernel_rfl) (by kernel_rfl) ?_
     refine cm 15 [(3, .eqs false), (13, .go (owns 1 0 1)), (14, .go (owns 0 0 1))] [0, 1, 6, 7, 8, 9, 25, 26, 27] [(56, .bool false), (57, .agg #[.slice q67 n67 c67]), (58, .agg #[.slice q147 n147 c147])] ([EqRun Try.prog .neq 4 (.tmp 45) (.tmp 46) (.bool false) (.bool false) false]) (by kernel_rfl) rfl (al1 (bool_ne false false)) ?_
     refine cK (.bool false) Try.call17 (fun w hw => by have := same_t q67 n67 c67 (x11.l.take 17) q147 n147 c147 (x43.l.take 17) w (hO67.atN (A := (_ :: _ :: _ :: Y147)) hw) hO67.len (by omega) (hO147.atN (A := [_, _, _]) hw) hO147.len (by omega); rw [decide_eq_false q291] at this; exact this) ?_
     refine cm 2 [(16, .go (owns 1 0 1)), (17, .go (owns 0 0 1))] [0, 1, 6, 7, 9, 25, 26, 27, 56, 59] [(60, .agg #[.slice q67 n67 c67]), (61, .agg #[.slice q147 n147 c147])] ([]) (by kernel_rfl) rfl al0 ?_
     refine cK (.bool false) Try.call21 (fun w hw => by have := rsame_t q67 n67 c67 (x11.l.take 17) q147 n147 c147 (x43.l.take 17) w (hO67.atN (A := (_ :: _ :: _ :: Y147)) hw) hO67.len (by omega) (hO147.atN (A := [_, _, _]) hw) hO147.len (by omega); rw [decide_eq_false q291] at this; exact this) ?_
     refine cm 3 [(19, .eqs false)] [0, 1, 6, 7, 9, 25, 26, 27] [(65, .bool false)] ([EqRun Try.prog .neq 4 (.tmp 59) (.tmp 62) (.bool false) (.bool false) false]) (by kernel_rfl) rfl (al1 (bool_ne false false)) ?_
     refine calm_nil' ?_
     refine done_pre (li' := #[true, true, true, true, true, true, true, true, true, true, true, true, true, true, true, true, true, true, true, true, true, true, false, false, false, false, false, false]) (by kernel_rfl) ?_
     refine any_cutX (V := (List Ob) × (Nat) × (Nat) × (Option Addr)) (fun ⟨Y1401, c1401, n1401, q1401⟩ => SlO 35 Y1401 q1401 n1401 c1401 (x11.l.take 17) ∧ n1401 ≤ 17 ∧ n1401 = ((x11.l.take 17)).length) 0 #[true, true, true, true, true, true, true, true, true, true, true, true, true, true, true, true, true, true, true, true, true, true, true, true, true, true, true, true] (fun ⟨Y1401, c1401, n1401, q1401⟩ => [(0, .slice (some ⟨b9, o9, none⟩) m capq), (1, .slice pr mr capr), (7, .pointer (some ⟨γ167 0, 0, none⟩)), (9, .bool false), (25, .slice (some ⟨b9, o9, none⟩) m capq), (26, .int .i64 (m : Nat)), (27, .int .i64 (j : Nat)), (71, .bool false)]) (fun ⟨Y1401, c1401, n1401, q1401⟩ => bx (γ187 0) (#[.slice q147 n147 c147]) 24 :: bx (γ167 0) (#[.slice q67 n67 c67]) 24 :: bx (γ12 0) (#[.slice x11.p x11.n x11.cap]) 24 :: (Y1401 ++ (Y147 ++ (Y67 ++ [])))) ?_ (fun hmx6 => ?_)
     rotate_left
     ·
      refine any_cutX (V := (List Ob) × (Nat) × (Nat) × (Option Addr)) (fun ⟨Y1401, c1401, n1401, q1401⟩ => SlO 35 Y1401 q1401 n1401 c1401 (x11.l.take 17) ∧ n1401 ≤ 17 ∧ n1401 = ((x11.l.take 17)).length) 3 #[true, true, true, true, true, true, true, true, true, true, true, true, true, true, true, true, true, true, true, true, true, true, true, true, true, false, false, false] (fun ⟨Y1401, c1401, n1401, q1401⟩ => [(0, .slice (some ⟨b9, o9, none⟩) m capq), (1, .slice pr mr capr), (7, .pointer (some ⟨γ167 0, 0, none⟩)), (9, .bool false), (25, .slice (some ⟨b9, o9, none⟩) m capq), (26, .int .i64 (m : Nat)), (27, .int .i64 (j : Nat)), (65, .bool false), (66, .agg #[.slice q67 n67 c67]), (68, .agg #[.slice q1401 n1401 c1401])]) (fun ⟨Y1401, c1401, n1401, q1401⟩ => bx (γ187 0) (#[.slice q147 n147 c147]) 24 :: bx (γ167 0) (#[.slice q67 n67 c67]) 24 :: bx (γ12 0) (#[.slice x11.p x11.n x11.cap]) 24 :: (Y1401 ++ (Y147 ++ (Y67 ++ [])))) ?_ (fun hmx5 => ?_)
      ·
       rintro ⟨Y1401, c1401, n1401, q1401⟩ ⟨hO1401, hbd1401, hl1401⟩
       refine a1 25 rfl ?_
       refine cD (.bool true) Try.call17 (fun w hw => by have := same_t q67 n67 c67 (x11.l.take 17) q1401 n1401 c1401 (x11.l.take 17) w (hO67.at ((hw.tailN 3).sub ((List.sublist_append_right Y147 _).trans (List.sublist_append_right Y1401 _)))) hO67.len (by omega) (hO1401.atN (A := [_, _, _]) hw) hO1401.len (by omega); rw [decide_eq_true rfl] at this; exact this) ?_
       refine od_ ?_
       refine tk (m := 0) [26, 27] [] [0, 1, 7, 9, 25, 26, 27] [(71, .bool false)] ([]) #[true, true, true, true, true, true, true, true, true, true, true, true, true, true, true, true, true, true, true, true, true, true, true, true, true, true, true, true] al0 ?_
       exact wk (hmx6 (Y1401, c1401, n1401, q1401) ⟨hO1401, hbd1401, hl1401⟩) [0, 1, 7, 9, 25, 26, 27, 71] [[_], [_], [_], _, _, _] [0, 1, 2, 3, 4, 5] rfl rfl
      refine any_cutX (V := (List Ob) × (Nat) × (Nat) × (Option Addr)) (fun ⟨Y1401, c1401, n1401, q1401⟩ => SlO 35 Y1401 q1401 n1401 c1401 (x11.l.take 17) ∧ n1401 ≤ 17 ∧ n1401 = ((x11.l.take 17)).length) 4 #[true, true, true, true, true, true, true, true, true, true, true, true, true, true, true, true, true, true, true, true, true, true, false, true, true, false, false, false] (fun ⟨Y1401, c1401, n1401, q1401⟩ => [(0, .slice (some ⟨b9, o9, none⟩) m capq), (1, .slice pr mr capr), (7, .pointer (some ⟨γ167 0, 0, none⟩)), (9, .bool false), (25, .slice (some ⟨b9, o9, none⟩) m capq), (26, .int .i64 (m : Nat)), (27, .int .i64 (j : Nat)), (65, .bool false), (68, .agg #[.slice q1401 n1401 c1401])]) (fun ⟨Y1401, c1401, n1401, q1401⟩ => bx (γ187 0) (#[.slice q147 n147 c147]) 24 :: bx (γ167 0) (#[.slice q67 n67 c67]) 24 :: bx (γ12 0) (#[.slice x11.p x11.n x11.cap]) 24 :: (Y1401 ++ (Y147 ++ (Y67 ++ [])))) ?_ (fun hmx4 => ?_)
      ·
       rintro ⟨Y1401, c1401, n1401, q1401⟩ ⟨hO1401, hbd1401, hl1401⟩
       refine a1 22 rfl ?_
       refine qo0 1 [(22, .go (owns 1 0 1))] [0, 1, 7, 9, 25, 26, 27, 65, 68] [(66, .agg #[.slice q67 n67 c67])] ?_
       refine od_ ?_
       exact wk (hmx5 (Y1401, c1401, n1401, q1401) ⟨hO1401, hbd1401, hl1401⟩) [0, 1, 7, 9, 25, 26, 27, 65, 66, 68] [[_], [_], [_], _, _, _] [0, 1, 2, 3, 4, 5] rfl rfl
      refine any_cutX (V := Unit) (fun _ => True) 4 #[true, true, true, true, true, true, true, true, true, true, true, true, true, true, true, true, true, true, true, true, true, true, true, true, false, false, false, false] (fun _ => [(0, .slice (some ⟨b9, o9, none⟩) m capq), (1, .slice pr mr capr), (7, .pointer (some ⟨γ167 0, 0, none⟩)), (9, .bool false), (25, .slice (some ⟨b9, o9, none⟩) m capq), (26, .int .i64 (m : Nat)), (27, .int .i64 (j : Nat)), (65, .bool false), (66, .agg #[.slice q67 n67 c67]), (67, .agg #[.slice x11.p x11.n x11.cap])]) (fun _ => bx (γ187 0) (#[.slice q147 n147 c147]) 24 :: bx (γ167 0) (#[.slice q67 n67 c67]) 24 :: bx (γ12 0) (#[.slice x11.p x11.n x11.cap]) 24 :: (Y147 ++ (Y67 ++ []))) ?_ (fun hmx3 => ?_)
      ·
       rintro _ _
       refine a1 24 rfl ?_
       refine cP (fun v L' => ∃ q_ n_ c_ Y_, v = .agg #[.slice q_ n_ c_] ∧ L' = List.take 3 (bx (γ187 0) (#[.slice q147 n147 c147]) 24 :: bx (γ167 0) (#[.slice q67 n67 c67]) 24 :: bx (γ12 0) (#[.slice x11.p x11.n x11.cap]) 24 :: (Y147 ++ (Y67 ++ []))) ++ (Y_ ++ List.drop 3 (bx (γ187 0) (#[.slice q147 n147 c147]) 24 :: bx (γ167 0) (#[.slice q67 n67 c67]) 24 :: bx (γ12 0) (#[.slice x11.p x11.n x11.cap]) 24 :: (Y147 ++ (Y67 ++ [])))) ∧ SlO 35 Y_ q_ n_ c_ (x11.l.take 17)) Try.call10 (fun w hw => (short_t x11.p x11.n x11.cap x11.l w (hsx11.kept hw.below) hnx11 hcx11 (by omega)).mono fun e w' ⟨q_, n_, c_, Y_, he, hO, hb, hY⟩ => ⟨_, _, he, ⟨q_, n_, c_, Y_, rfl, rfl, hO⟩, hw.join hb hY 3⟩) ?_
       rintro v1401 L1401 ⟨q1401, n1401, c1401, Y1401, rfl, rfl, hO1401⟩
       have hl1401 := hO1401.len
       have hbd1401 : n1401 ≤ 17 := by rw [hl1401, List.length_take]; omega
       refine od_ ?_
       exact wk (hmx5 (Y1401, c1401, n1401, q1401) ⟨hO1401, hbd1401, hl1401⟩) [0, 1, 7, 9, 25, 26, 27, 65, 66, 68] [[_], [_], [_], _, _, _] [0, 1, 2, 3, 4, 5] rfl rfl
      refine any_cutX (V := Unit) (fun _ => True) 5 #[true, true, true, true, true, true, true, true, true, true, true, true, true, true, true, true, true, true, true, true, true, true, false, true, false, false, false, false] (fun _ => [(0, .slice (some ⟨b9, o9, none⟩) m capq), (1, .slice pr mr capr), (7, .pointer (some ⟨γ167 0, 0, none⟩)), (9, .bool false), (25, .slice (some ⟨b9, o9, none⟩) m capq), (26, .int .i64 (m : Nat)), (27, .int .i64 (j : Nat)), (65, .bool false), (67, .agg #[.slice x11.p x11.n x11.cap])]) (fun _ => bx (γ187 0) (#[.slice q147 n147 c147]) 24 :: bx (γ167 0) (#[.slice q67 n67 c67]) 24 :: bx (γ12 0) (#[.slice x11.p x11.n x11.cap]) 24 :: (Y147 ++ (Y67 ++ []))) ?_ (fun hmx2 => ?_)
      ·
       rintro _ _
       refine any_fork [22, 24] (by kernel_rfl) (by simp) (each_cons _ rfl ?_ (each_cons _ rfl ?_ (each_nil)))
       ·
        refine qo0 1 [(22, .go (owns 1 0 1))] [0, 1, 7, 9, 25, 26, 27, 65, 67] [(66, .agg #[.slice q67 n67 c67])] ?_
        refine od_ ?_
        exact wk (hmx3 () trivial) [0, 1, 7, 9, 25, 26, 27, 65, 66, 67] [[_], [_], [_], _, _] [0, 1, 2, 3, 4] rfl rfl
       ·
        refine cP (fun v L' => ∃ q_ n_ c_ Y_, v = .agg #[.slice q_ n_ c_] ∧ L' = List.take 3 (bx (γ187 0) (#[.slice q147 n147 c147]) 24 :: bx (γ167 0) (#[.slice q67 n67 c67]) 24 :: bx (γ12 0) (#[.slice x11.p x11.n x11.cap]) 24 :: (Y147 ++ (Y67 ++ []))) ++ (Y_ ++ List.drop 3 (bx (γ187 0) (#[.slice q147 n147 c147]) 24 :: bx (γ167 0) (#[.slice q67 n67 c67]) 24 :: bx (γ12 0) (#[.slice x11.p x11.n x11.cap]) 24 :: (Y147 ++ (Y67 ++ [])))) ∧ SlO 35 Y_ q_ n_ c_ (x11.l.take 17)) Try.call10 (fun w hw => (short_t x11.p x11.n x11.cap x11.l w (hsx11.kept hw.below) hnx11 hcx11 (by omega)).mono fun e w' ⟨q_, n_, c_, Y_, he, hO, hb, hY⟩ => ⟨_, _, he, ⟨q_, n_, c_, Y_, rfl, rfl, hO⟩, hw.join hb hY 3⟩) ?_
        rintro v1401 L1401 ⟨q1401, n1401, c1401, Y1401, rfl, rfl, hO1401⟩
        have hl1401 := hO1401.len
        have hbd1401 : n1401 ≤ 17 := by rw [hl1401, List.length_take]; omega
        refine od_ ?_
        exact wk (hmx4 (Y1401, c1401, n1401, q1401) ⟨hO1401, hbd1401, hl1401⟩) [0, 1, 7, 9, 25, 26, 27, 65, 68] [[_], [_], [_], _, _, _] [0, 1, 2, 3, 4, 5] rfl rfl
      refine any_cutX (V := Unit) (fun _ => True) 5 #[true, true, true, true, true, true, true, true, true, true, true, true, true, true, true, true, true, true, true, true, true, true, true, false, false, false, false, false] (fun _ => [(0, .slice (some ⟨b9, o9, none⟩) m capq), (1, .slice pr mr capr), (6, .pointer (some ⟨γ12 0, 0, none⟩)), (7, .pointer (some ⟨γ167 0, 0, none⟩)), (9, .bool false), (25, .slice (some ⟨b9, o9, none⟩) m capq), (26, .int .i64 (m : Nat)), (27, .int .i64 (j : Nat)), (65, .bool false), (66, .agg #[.slice q67 n67 c67])]) (fun _ => bx (γ187 0) (#[.slice q147 n147 c147]) 24 :: bx (γ167 0) (#[.slice q67 n67 c67]) 24 :: bx (γ12 0) (#[.slice x11.p x11.n x11.cap]) 24 :: (Y147 ++ (Y67 ++ []))) ?_ (fun hmx1 => ?_)
      ·
       rintro _ _
       refine a1 23 rfl ?_
       refine qo0 1 [(23, .go (owns 2 0 1))] [0, 1, 7, 9, 25, 26, 27, 65, 66] [(67, .agg #[.slice x11.p x11.n x11.cap])] ?_
       refine od_ ?_
       exact wk (hmx3 () trivial) [0, 1, 7, 9, 25, 26, 27, 65, 66, 67] [[_], [_], [_], _, _] [0, 1, 2, 3, 4] rfl rfl
      refine any_fork [22, 23] (by kernel_rfl) (by simp) (each_cons _ rfl ?_ (each_cons _ rfl ?_ (each_nil)))
      ·
       refine qo0 1 [(22, .go (owns 1 0 1))] [0, 1, 6, 7, 9, 25, 26, 27, 65] [(66, .agg #[.slice q67 n67 c67])] ?_
       refine od_ ?_
       exact wk (hmx1 () trivial) [0, 1, 6, 7, 9, 25, 26, 27, 65, 66] [[_], [_], [_], _, _] [0, 1, 2, 3, 4] rfl rfl
      ·
       refine qo0 1 [(23, .go (owns 2 0 1))] [0, 1, 7, 9, 25, 26, 27, 65] [(67, .agg #[.slice x11.p x11.n x11.cap])] ?_
       refine od_ ?_
       exact wk (hmx2 () trivial) [0, 1, 7, 9, 25, 26, 27, 65, 67] [[_], [_], [_], _, _] [0, 1, 2, 3, 4] rfl rfl
     rintro ⟨Y1401, c1401, n1401, q1401⟩ ⟨hO1401, hbd1401, hl1401⟩
     refine any_nil (by kernel_rfl) ?_
     refine ds_ (f_ (at_skip (ds_ (sq_ (ao_ (qo0 1 [(0, .go (owns 1 0 1))] [0, 1, 7, 9, 25, 26, 27] [(73, .agg #[.slice q67 n67 c67])] (cD (.tuple #[.agg #[.int .u64 0, .int .u64 0, .int .u64 0], .bool false]) Try.call22 (fun w hw => by have := topq_t q67 n67 c67 (x11.l.take 17) w (hO67.at ((hw.tailN 3).sub ((List.sublist_append_right Y147 _).trans (List.sublist_append_right Y1401 _)))) hO67.len (by omega) (take_U hux11); rw [topQ_bad q287] at this; exact this) (mo0 6 [(6, .go (owns 0 0 3))] [0, 1, 7, 9, 25, 26, 27] (fun γ1523 => [(11, .pointer (some ⟨γ1523 0, 0, none⟩)), (12, .bool false)]) (fun γ1523 L => bx (γ1523 0) (#[.int .u64 0, .int .u64 0, .int .u64 0]) 33 :: L) (fun γ1523 => on_ (ds_ (sq_ (ao_ (qo0 1 [(0, .go (owns 2 0 1))] [0, 1, 7, 9, 11, 12, 25, 26, 27] [(78, .agg #[.slice q67 n67 c67])] (cD (.tuple #[.agg #[.int .u64 ((topRV (x11.l.take 17)).1.hi), .int .u64 ((topRV (x11.l.take 17)).1.lo), .int .u64 ((topRV (x11.l.take 17)).1.w)], .bool ((topRV (x11.l.take 17)).2)]) Try.call23 (fun w hw => rtop_t q67 n67 c67 (x11.l.take 17) w (hO67.at ((hw.tailN 4).sub ((List.sublist_append_right Y147 _).trans (List.sublist_append_right Y1401 _)))) hO67.len (by omega) (take_U hux11)) (mo0 6 [(6, .go (owns 0 0 3))] [0, 1, 7, 9, 11, 12, 25, 26, 27] (fun γ1525 => [(13, .pointer (some ⟨γ1525 0, 0, none⟩)), (14, .bool ((topRV (x11.l.take 17)).2))]) (fun γ1525 L => bx (γ1525 0) (#[.int .u64 ((topRV (x11.l.take 17)).1.hi), .int .u64 ((topRV (x11.l.take 17)).1.lo), .int .u64 ((topRV (x11.l.take 17)).1.w)]) 33 :: L) (fun γ1525 => on_ (ds_ (sq_ (sq_ (qa [(15, .go (owns 1 0 3)), (17, .eqs false)] [0, 1, 7, 9, 25, 26, 27] [(104, .bool false)] ([EqRun Try.prog .neq 33 (.tmp 97) (.tmp 98) (.agg #[.int .u64 0, .int .u64 0, .int .u64 0]) (.agg #[.int .u64 0, .int .u64 0, .int .u64 0]) false]) (al1 (fq_ne_t (a := (⟨0, 0, 0⟩ : Fq)) (b := (⟨0, 0, 0⟩ : Fq)) rfl)) (ds_ (f_ (at_skip (ds_ (sq_ (qa0 [] [0, 1, 7, 9, 25, 26, 27] [(105, .int .i64 0)] (ds_ (at_block (at_loop (α := Nat) [0, 1, 7, 9, 25, 26, 27, 105] (fun i => [(0, .slice (some ⟨b9, o9, none⟩) m capq), (1, .slice pr mr capr), (7, .pointer (some ⟨γ167 0, 0, none⟩)), (9, .bool false), (25, .slice (some ⟨b9, o9, none⟩) m capq), (26, .int .i64 (m : Nat)), (27, .int .i64 (j : Nat)), (105, .int .i64 (i : Nat))]) (fun i => bx (γ1525 0) (#[.int .u64 ((topRV (x11.l.take 17)).1.hi), .int .u64 ((topRV (x11.l.take 17)).1.lo), .int .u64 ((topRV (x11.l.take 17)).1.w)]) 33 :: bx (γ1523 0) (#[.int .u64 0, .int .u64 0, .int .u64 0]) 33 :: bx (γ187 0) (#[.slice q147 n147 c147]) 24 :: bx (γ167 0) (#[.slice q67 n67 c67]) 24 :: bx (γ12 0) (#[.slice x11.p x11.n x11.cap]) 24 :: (Y1401 ++ (Y147 ++ (Y67 ++ [])))) (fun i => i ≤ 18) (fun i => 18 - i) 0 (by kernel_rfl) rfl (Nat.zero_le _) ?_)))))))))))))))))))))))))))))
     rintro i
     intro hi
     refine sq_ ?_
     by_cases q1529 : ((i : Nat) : Int) < (18 : Int)
     ·
      refine qa [(0, .yes)] [0, 1, 7, 9, 25, 26, 27, 105] [(106, .bool true)] ([((i : Nat) : Int) < (18 : Int)]) (al1 q1529) (ds_ (sq_ (t_ (at_skip (ds_ (sq_ (at_block (sq_ (qa0 [] [0, 1, 7, 9, 25, 26, 27, 105] [(15, .int .i64 (i : Nat))] (ds_ (sq_ (ao_ (qo0 2 [(0, .go (owns 3 0 1))] [0, 1, 7, 9, 15, 25, 26, 27, 105] [(109, .agg #[.slice q67 n67 c67]), (110, .int .i64 (i : Nat))] (cD (.tuple #[.agg #[.int .i64 0, .int .i64 0, .int .u64 0, .int .u64 0, .int .u64 0], .bool false]) Try.call11 (fun w hw => by have := getq_t q67 n67 c67 (x11.l.take 17) (i : Nat) w (hO67.at ((hw.tailN 5).sub ((List.sublist_append_right Y147 _).trans (List.sublist_append_right Y1401 _)))) hO67.len (by omega) (take_U hux11) (by omega) (by omega); rw [getQ_bad q287] at this; exact this) (mo0 6 [(7, .go (owns 0 0 5))] [0, 1, 7, 9, 15, 25, 26, 27, 105] (fun γ1533 => [(16, .pointer (some ⟨γ1533 0, 0, none⟩)), (17, .bool false)]) (fun γ1533 L => bx (γ1533 0) (#[.int .i64 0, .int .i64 0, .int .u64 0, .int .u64 0, .int .u64 0]) 35 :: L) (fun γ1533 => on_ (ds_ (sq_ (ao_ (qo0 2 [(0, .go (owns 4 0 1))] [0, 1, 7, 9, 16, 17, 25, 26, 27, 105] [(115, .agg #[.slice q67 n67 c67]), (116, .int .i64 (i : Nat))] (cD (.tuple #[.agg #[.int .i64 (((getK Rn.id (x11.l.take 17) (i : Nat)).getD zR).id), .int .i64 (((getK Rn.id (x11.l.take 17) (i : Nat)).getD zR).each), .int .u64 (((getK Rn.id (x11.l.take 17) (i : Nat)).getD zR).th), .int .u64 (((getK Rn.id (x11.l.take 17) (i : Nat)).getD zR).tl), .int .u64 (((getK Rn.id (x11.l.take 17) (i : Nat)).getD zR).tw)], .bool ((getK Rn.id (x11.l.take 17) (i : Nat)).isSome)]) Try.call24 (fun w hw => by have := rget_t q67 n67 c67 (x11.l.take 17) (i : Nat) w (hO67.at ((hw.tailN 6).sub ((List.sublist_append_right Y147 _).trans (List.sublist_append_right Y1401 _)))) hO67.len (by omega); rw [getO_split] at this; exact this) (mo0 6 [(7, .go (owns 0 0 5))] [0, 1, 7, 9, 16, 17, 25, 26, 27, 105] (fun γ1535 => [(18, .pointer (some ⟨γ1535 0, 0, none⟩)), (19, .bool ((getK Rn.id (x11.l.take 17) (i : Nat)).isSome))]) (fun γ1535 L => bx (γ1535 0) (#[.int .i64 (((getK Rn.id (x11.l.take 17) (i : Nat)).getD zR).id), .int .i64 (((getK Rn.id (x11.l.take 17) (i : Nat)).getD zR).each), .int .u64 (((getK Rn.id (x11.l.take 17) (i : Nat)).getD zR).th), .int .u64 (((getK Rn.id (x11.l.take 17) (i : Nat)).getD zR).tl), .int .u64 (((getK Rn.id (x11.l.take 17) (i : Nat)).getD zR).tw)]) 35 :: L) (fun γ1535 => on_ (ds_ (sq_ (qa [(15, .go (owns 1 0 5)), (17, .eqs false)] [0, 1, 7, 9, 25, 26, 27, 105] [(142, .bool false)] ([EqRun Try.prog .neq 35 (.tmp 135) (.tmp 136) (.agg #[.int .i64 0, .int .i64 0, .int .u64 0, .int .u64 0, .int .u64 0]) (.agg #[.int .i64 0, .int .i64 0, .int .u64 0, .int .u64 0, .int .u64 0]) false]) (al1 (rn_ne_t (a := (⟨0, 0, 0, 0, 0⟩ : Rn)) (b := (⟨0, 0, 0, 0, 0⟩ : Rn)) rfl)) ?_))))))))))))))))))))))))))
      refine ds_ (f_ (at_skip (done_block (ds_ (qa [(0, .fit)] [0, 1, 7, 9, 25, 26, 27] [(105, .int .i64 (i + 1 : Nat))] ([Fit .i64 ((i + 1 : Nat))]) (al1 (fit64 (by omega) (by omega))) (Done.drop (L' := bx (γ1525 0) (#[.int .u64 ((topRV (x11.l.take 17)).1.hi), .int .u64 ((topRV (x11.l.take 17)).1.lo), .int .u64 ((topRV (x11.l.take 17)).1.w)]) 33 :: bx (γ1523 0) (#[.int .u64 0, .int .u64 0, .int .u64 0]) 33 :: bx (γ187 0) (#[.slice q147 n147 c147]) 24 :: bx (γ167 0) (#[.slice q67 n67 c67]) 24 :: bx (γ12 0) (#[.slice x11.p x11.n x11.cap]) 24 :: (Y1401 ++ (Y147 ++ (Y67 ++ [])))) ?_ (List.Sublist.cons _ (List.Sublist.cons _ (List.Sublist.cons_cons _ (List.Sublist.cons_cons _ (List.Sublist.cons_cons _ (List.Sublist.cons_cons _ (List.Sublist.cons_cons _ (List.Sublist.refl _))))))))))))))
      exact done_round [0, 1, 7, 9, 25, 26, 27, 105] (i + 1) (by kernel_rfl) rfl (by show i + 1 ≤ 18; omega) (by first | omega | (simp only; omega))
     ·
      refine qa [(0, .no)] [0, 1, 7, 9, 25, 26, 27, 105] [(106, .bool false)] ([¬ (((i : Nat) : Int) < (18 : Int))]) (al1 q1529) (ds_ (sq_ (f_ (at_leave _ rfl (done_block (ds_ (qa [(0, .fit)] [0, 1, 25, 26] [(27, .int .i64 (j + 1 : Nat))] ([Fit .i64 ((j + 1 : Nat))]) (al1 (fit64 (by omega) (by omega))) (Done.drop (L' := []) ?_ (List.Sublist.cons _ (List.Sublist.cons _ (List.Sublist.cons _ (List.Sublist.cons _ (List.Sublist.cons _ (((List.sublist_append_right _ _).trans (List.sublist_append_right _ _)).trans (List.sublist_append_right _ _)))))))))))))))
      exact done_round [0, 1, 25, 26, 27] (j + 1) (by kernel_rfl) rfl (by show j + 1 ≤ m; omega) (by first | omega | (simp only; omega))
   ·
    refine cD (.bool true) Try.call19 (fun w hw => by have := rrightq_t q67 n67 c67 (x11.l.take 17) w (hO67.atN (A := (_ :: _ :: _ :: Y147)) hw) hO67.len (by omega); rw [q287] at this; exact this) (qo0 1 [] [0, 1, 6, 7, 8, 25, 26, 27] [(9, .bool true)] (on_ (ds_ (sq_ (sq_ (ao_ (qo0 1 [(0, .go (owns 1 0 1))] [0, 1, 6, 7, 8, 9, 25, 26, 27] [(42, .agg #[.slice q67 n67 c67])] (cD (.int .i64 0) Try.call20 (fun w hw => by have := qcheck_t q67 n67 c67 (x11.l.take 17) w (hO67.atN (A := (_ :: _ :: _ :: Y147)) hw) hO67.len (by omega); rw [q287] at this; exact this) (qo0 1 [] [0, 1, 6, 7, 8, 9, 25, 26, 27] [(10, .int .i64 0)] (on_ (ds_ (sq_ ?_))))))))))))
    by_cases q1543 : (x11.l.take 17) = (x43.l.take 17)
    ·
     refine at_calmTo (f := 6) 22 rfl (by kernel_rfl) (by kernel_rfl) (by kernel_rfl) (by kernel_rfl) (by kernel_rfl) (by kernel_rfl) ?_
     refine cm 15 [(3, .eqs false), (13, .go (owns 1 0 1)), (14, .go (owns 0 0 1))] [0, 1, 6, 7, 8, 9, 25, 26, 27] [(56, .bool false), (57, .agg #[.slice q67 n67 c67]), (58, .agg #[.slice q147 n147 c147])] ([EqRun Try.prog .neq 4 (.tmp 45) (.tmp 46) (.bool true) (.bool true) false]) (by kernel_rfl) rfl (al1 (bool_ne true true)) ?_
     refine cK (.bool true) Try.call17 (fun w hw => by have := same_t q67 n67 c67 (x11.l.take 17) q147 n147 c147 (x43.l.take 17) w (hO67.atN (A := (_ :: _ :: _ :: Y147)) hw) hO67.len (by omega) (hO147.atN (A := [_, _, _]) hw) hO147.len (by omega); rw [decide_eq_true q1543] at this; exact this) ?_
     refine cm 2 [(16, .go (owns 1 0 1)), (17, .go (owns 0 0 1))] [0, 1, 6, 7, 9, 25, 26, 27, 56, 59] [(60, .agg #[.slice q67 n67 c67]), (61, .agg #[.slice q147 n147 c147])] ([]) (by kernel_rfl) rfl al0 ?_
     refine cK (.bool true) Try.call21 (fun w hw => by have := rsame_t q67 n67 c67 (x11.l.take 17) q147 n147 c147 (x43.l.take 17) w (hO67.atN (A := (_ :: _ :: _ :: Y147)) hw) hO67.len (by omega) (hO147.atN (A := [_, _, _]) hw) hO147.len (by omega); rw [decide_eq_true q1543] at this; exact this) ?_
     refine cm 3 [(19, .eqs false)] [0, 1, 6, 7, 9, 25, 26, 27] [(65, .bool false)] ([EqRun Try.prog .neq 4 (.tmp 59) (.tmp 62) (.bool true) (.bool true) false]) (by kernel_rfl) rfl (al1 (bool_ne true true)) ?_
     refine calm_nil' ?_
     refine done_pre (li' := #[true, true, true, true, true, true, true, true, true, true, true, true, true, true, true, true, true, true, true, true, true, true, false, false, false, false, false, false]) (by kernel_rfl) ?_
     refine any_cutX (V := (List Ob) × (Nat) × (Nat) × (Option Addr)) (fun ⟨Y2029, c2029, n2029, q2029⟩ => SlO 35 Y2029 q2029 n2029 c2029 (x11.l.take 17) ∧ n2029 ≤ 17 ∧ n2029 = ((x11.l.take 17)).length) 0 #[true, true, true, true, true, true, true, true, true, true, true, true, true, true, true, true, true, true, true, true, true, true, true, true, true, true, true, true] (fun ⟨Y2029, c2029, n2029, q2029⟩ => [(0, .slice (some ⟨b9, o9, none⟩) m capq), (1, .slice pr mr capr), (7, .pointer (some ⟨γ167 0, 0, none⟩)), (9, .bool true), (25, .slice (some ⟨b9, o9, none⟩) m capq), (26, .int .i64 (m : Nat)), (27, .int .i64 (j : Nat)), (71, .bool false)]) (fun ⟨Y2029, c2029, n2029, q2029⟩ => bx (γ187 0) (#[.slice q147 n147 c147]) 24 :: bx (γ167 0) (#[.slice q67 n67 c67]) 24 :: bx (γ12 0) (#[.slice x11.p x11.n x11.cap]) 24 :: (Y2029 ++ (Y147 ++ (Y67 ++ [])))) ?_ (fun hmx6 => ?_)
     rotate_left
     ·
      refine any_cutX (V := (List Ob) × (Nat) × (Nat) × (Option Addr)) (fun ⟨Y2029, c2029, n2029, q2029⟩ => SlO 35 Y2029 q2029 n2029 c2029 (x11.l.take 17) ∧ n2029 ≤ 17 ∧ n2029 = ((x11.l.take 17)).length) 3 #[true, true, true, true, true, true, true, true, true, true, true, true, true, true, true, true, true, true, true, true, true, true, true, true, true, false, false, false] (fun ⟨Y2029, c2029, n2029, q2029⟩ => [(0, .slice (some ⟨b9, o9, none⟩) m capq), (1, .slice pr mr capr), (7, .pointer (some ⟨γ167 0, 0, none⟩)), (9, .bool true), (25, .slice (some ⟨b9, o9, none⟩) m capq), (26, .int .i64 (m : Nat)), (27, .int .i64 (j : Nat)), (65, .bool false), (66, .agg #[.slice q67 n67 c67]), (68, .agg #[.slice q2029 n2029 c2029])]) (fun ⟨Y2029, c2029, n2029, q2029⟩ => bx (γ187 0) (#[.slice q147 n147 c147]) 24 :: bx (γ167 0) (#[.slice q67 n67 c67]) 24 :: bx (γ12 0) (#[.slice x11.p x11.n x11.cap]) 24 :: (Y2029 ++ (Y147 ++ (Y67 ++ [])))) ?_ (fun hmx5 => ?_)
      ·
       rintro ⟨Y2029, c2029, n2029, q2029⟩ ⟨hO2029, hbd2029, hl2029⟩
       refine a1 25 rfl ?_
       refine cD (.bool true) Try.call17 (fun w hw => by have := same_t q67 n67 c67 (x11.l.take 17) q2029 n2029 c2029 (x11.l.take 17) w (hO67.at ((hw.tailN 3).sub ((List.sublist_append_right Y147 _).trans (List.sublist_append_right Y2029 _)))) hO67.len (by omega) (hO2029.atN (A := [_, _, _]) hw) hO2029.len (by omega); rw [decide_eq_true rfl] at this; exact this) ?_
       refine od_ ?_
       refine tk (m := 0) [26, 27] [] [0, 1, 7, 9, 25, 26, 27] [(71, .bool false)] ([]) #[true, true, true, true, true, true, true, true, true, true, true, true, true, true, true, true, true, true, true, true, true, true, true, true, true, true, true, true] al0 ?_
       exact wk (hmx6 (Y2029, c2029, n2029, q2029) ⟨hO2029, hbd2029, hl2029⟩) [0, 1, 7, 9, 25, 26, 27, 71] [[_], [_], [_], _, _, _] [0, 1, 2, 3, 4, 5] rfl rfl
      refine any_cutX (V := (List Ob) × (Nat) × (Nat) × (Option Addr)) (fun ⟨Y2029, c2029, n2029, q2029⟩ => SlO 35 Y2029 q2029 n2029 c2029 (x11.l.take 17) ∧ n2029 ≤ 17 ∧ n2029 = ((x11.l.take 17)).length) 4 #[true, true, true, true, true, true, true, true, true, true, true, true, true, true, true, true, true, true, true, true, true, true, false, true, true, false, false, false] (fun ⟨Y2029, c2029, n2029, q2029⟩ => [(0, .slice (some ⟨b9, o9, none⟩) m capq), (1, .slice pr mr capr), (7, .pointer (some ⟨γ167 0, 0, none⟩)), (9, .bool true), (25, .slice (some ⟨b9, o9, none⟩) m capq), (26, .int .i64 (m : Nat)), (27, .int .i64 (j : Nat)), (65, .bool false), (68, .agg #[.slice q2029 n2029 c2029])]) (fun ⟨Y2029, c2029, n2029, q2029⟩ => bx (γ187 0) (#[.slice q147 n147 c147]) 24 :: bx (γ167 0) (#[.slice q67 n67 c67]) 24 :: bx (γ12 0) (#[.slice x11.p x11.n x11.cap]) 24 :: (Y2029 ++ (Y147 ++ (Y67 ++ [])))) ?_ (fun hmx4 => ?_)
      ·
       rintro ⟨Y2029, c2029, n2029, q2029⟩ ⟨hO2029, hbd2029, hl2029⟩
       refine a1 22 rfl ?_
       refine qo0 1 [(22, .go (owns 1 0 1))] [0, 1, 7, 9, 25, 26, 27, 65, 68] [(66, .agg #[.slice q67 n67 c67])] ?_
       refine od_ ?_
       exact wk (hmx5 (Y2029, c2029, n2029, q2029) ⟨hO2029, hbd2029, hl2029⟩) [0, 1, 7, 9, 25, 26, 27, 65, 66, 68] [[_], [_], [_], _, _, _] [0, 1, 2, 3, 4, 5] rfl rfl
      refine any_cutX (V := Unit) (fun _ => True) 4 #[true, true, true, true, true, true, true, true, true, true, true, true, true, true, true, true, true, true, true, true, true, true, true, true, false, false, false, false] (fun _ => [(0, .slice (some ⟨b9, o9, none⟩) m capq), (1, .slice pr mr capr), (7, .pointer (some ⟨γ167 0, 0, none⟩)), (9, .bool true), (25, .slice (some ⟨b9, o9, none⟩) m capq), (26, .int .i64 (m : Nat)), (27, .int .i64 (j : Nat)), (65, .bool false), (66, .agg #[.slice q67 n67 c67]), (67, .agg #[.slice x11.p x11.n x11.cap])]) (fun _ => bx (γ187 0) (#[.slice q147 n147 c147]) 24 :: bx (γ167 0) (#[.slice q67 n67 c67]) 24 :: bx (γ12 0) (#[.slice x11.p x11.n x11.cap]) 24 :: (Y147 ++ (Y67 ++ []))) ?_ (fun hmx3 => ?_)
      ·
       rintro _ _
       refine a1 24 rfl ?_
       refine cP (fun v L' => ∃ q_ n_ c_ Y_, v = .agg #[.slice q_ n_ c_] ∧ L' = List.take 3 (bx (γ187 0) (#[.slice q147 n147 c147]) 24 :: bx (γ167 0) (#[.slice q67 n67 c67]) 24 :: bx (γ12 0) (#[.slice x11.p x11.n x11.cap]) 24 :: (Y147 ++ (Y67 ++ []))) ++ (Y_ ++ List.drop 3 (bx (γ187 0) (#[.slice q147 n147 c147]) 24 :: bx (γ167 0) (#[.slice q67 n67 c67]) 24 :: bx (γ12 0) (#[.slice x11.p x11.n x11.cap]) 24 :: (Y147 ++ (Y67 ++ [])))) ∧ SlO 35 Y_ q_ n_ c_ (x11.l.take 17)) Try.call10 (fun w hw => (short_t x11.p x11.n x11.cap x11.l w (hsx11.kept hw.below) hnx11 hcx11 (by omega)).mono fun e w' ⟨q_, n_, c_, Y_, he, hO, hb, hY⟩ => ⟨_, _, he, ⟨q_, n_, c_, Y_, rfl, rfl, hO⟩, hw.join hb hY 3⟩) ?_
       rintro v2029 L2029 ⟨q2029, n2029, c2029, Y2029, rfl, rfl, hO2029⟩
       have hl2029 := hO2029.len
       have hbd2029 : n2029 ≤ 17 := by rw [hl2029, List.length_take]; omega
       refine od_ ?_
       exact wk (hmx5 (Y2029, c2029, n2029, q2029) ⟨hO2029, hbd2029, hl2029⟩) [0, 1, 7, 9, 25, 26, 27, 65, 66, 68] [[_], [_], [_], _, _, _] [0, 1, 2, 3, 4, 5] rfl rfl
      refine any_cutX (V := Unit) (fun _ => True) 5 #[true, true, true, true, true, true, true, true, true, true, true, true, true, true, true, true, true, true, true, true, true, true, false, true, false, false, false, false] (fun _ => [(0, .slice (some ⟨b9, o9, none⟩) m capq), (1, .slice pr mr capr), (7, .pointer (some ⟨γ167 0, 0, none⟩)), (9, .bool true), (25, .slice (some ⟨b9, o9, none⟩) m capq), (26, .int .i64 (m : Nat)), (27, .int .i64 (j : Nat)), (65, .bool false), (67, .agg #[.slice x11.p x11.n x11.cap])]) (fun _ => bx (γ187 0) (#[.slice q147 n147 c147]) 24 :: bx (γ167 0) (#[.slice q67 n67 c67]) 24 :: bx (γ12 0) (#[.slice x11.p x11.n x11.cap]) 24 :: (Y147 ++ (Y67 ++ []))) ?_ (fun hmx2 => ?_)
      ·
       rintro _ _
       refine any_fork [22, 24] (by kernel_rfl) (by simp) (each_cons _ rfl ?_ (each_cons _ rfl ?_ (each_nil)))
       ·
        refine qo0 1 [(22, .go (owns 1 0 1))] [0, 1, 7, 9, 25, 26, 27, 65, 67] [(66, .agg #[.slice q67 n67 c67])] ?_
        refine od_ ?_
        exact wk (hmx3 () trivial) [0, 1, 7, 9, 25, 26, 27, 65, 66, 67] [[_], [_], [_], _, _] [0, 1, 2, 3, 4] rfl rfl
       ·
        refine cP (fun v L' => ∃ q_ n_ c_ Y_, v = .agg #[.slice q_ n_ c_] ∧ L' = List.take 3 (bx (γ187 0) (#[.slice q147 n147 c147]) 24 :: bx (γ167 0) (#[.slice q67 n67 c67]) 24 :: bx (γ12 0) (#[.slice x11.p x11.n x11.cap]) 24 :: (Y147 ++ (Y67 ++ []))) ++ (Y_ ++ List.drop 3 (bx (γ187 0) (#[.slice q147 n147 c147]) 24 :: bx (γ167 0) (#[.slice q67 n67 c67]) 24 :: bx (γ12 0) (#[.slice x11.p x11.n x11.cap]) 24 :: (Y147 ++ (Y67 ++ [])))) ∧ SlO 35 Y_ q_ n_ c_ (x11.l.take 17)) Try.call10 (fun w hw => (short_t x11.p x11.n x11.cap x11.l w (hsx11.kept hw.below) hnx11 hcx11 (by omega)).mono fun e w' ⟨q_, n_, c_, Y_, he, hO, hb, hY⟩ => ⟨_, _, he, ⟨q_, n_, c_, Y_, rfl, rfl, hO⟩, hw.join hb hY 3⟩) ?_
        rintro v2029 L2029 ⟨q2029, n2029, c2029, Y2029, rfl, rfl, hO2029⟩
        have hl2029 := hO2029.len
        have hbd2029 : n2029 ≤ 17 := by rw [hl2029, List.length_take]; omega
        refine od_ ?_
        exact wk (hmx4 (Y2029, c2029, n2029, q2029) ⟨hO2029, hbd2029, hl2029⟩) [0, 1, 7, 9, 25, 26, 27, 65, 68] [[_], [_], [_], _, _, _] [0, 1, 2, 3, 4, 5] rfl rfl
      refine any_cutX (V := Unit) (fun _ => True) 5 #[true, true, true, true, true, true, true, true, true, true, true, true, true, true, true, true, true, true, true, true, true, true, true, false, false, false, false, false] (fun _ => [(0, .slice (some ⟨b9, o9, none⟩) m capq), (1, .slice pr mr capr), (6, .pointer (some ⟨γ12 0, 0, none⟩)), (7, .pointer (some ⟨γ167 0, 0, none⟩)), (9, .bool true), (25, .slice (some ⟨b9, o9, none⟩) m capq), (26, .int .i64 (m : Nat)), (27, .int .i64 (j : Nat)), (65, .bool false), (66, .agg #[.slice q67 n67 c67])]) (fun _ => bx (γ187 0) (#[.slice q147 n147 c147]) 24 :: bx (γ167 0) (#[.slice q67 n67 c67]) 24 :: bx (γ12 0) (#[.slice x11.p x11.n x11.cap]) 24 :: (Y147 ++ (Y67 ++ []))) ?_ (fun hmx1 => ?_)
      ·
       rintro _ _
       refine a1 23 rfl ?_
       refine qo0 1 [(23, .go (owns 2 0 1))] [0, 1, 7, 9, 25, 26, 27, 65, 66] [(67, .agg #[.slice x11.p x11.n x11.cap])] ?_
       refine od_ ?_
       exact wk (hmx3 () trivial) [0, 1, 7, 9, 25, 26, 27, 65, 66, 67] [[_], [_], [_], _, _] [0, 1, 2, 3, 4] rfl rfl
      refine any_fork [22, 23] (by kernel_rfl) (by simp) (each_cons _ rfl ?_ (each_cons _ rfl ?_ (each_nil)))
      ·
       refine qo0 1 [(22, .go (owns 1 0 1))] [0, 1, 6, 7, 9, 25, 26, 27, 65] [(66, .agg #[.slice q67 n67 c67])] ?_
       refine od_ ?_
       exact wk (hmx1 () trivial) [0, 1, 6, 7, 9, 25, 26, 27, 65, 66] [[_], [_], [_], _, _] [0, 1, 2, 3, 4] rfl rfl
      ·
       refine qo0 1 [(23, .go (owns 2 0 1))] [0, 1, 7, 9, 25, 26, 27, 65] [(67, .agg #[.slice x11.p x11.n x11.cap])] ?_
       refine od_ ?_
       exact wk (hmx2 () trivial) [0, 1, 7, 9, 25, 26, 27, 65, 67] [[_], [_], [_], _, _] [0, 1, 2, 3, 4] rfl rfl
     rintro ⟨Y2029, c2029, n2029, q2029⟩ ⟨hO2029, hbd2029, hl2029⟩
     refine any_nil (by kernel_rfl) ?_
     refine ds_ (f_ (at_skip (ds_ (sq_ (ao_ (qo0 1 [(0, .go (owns 1 0 1))] [0, 1, 7, 9, 25, 26, 27] [(73, .agg #[.slice q67 n67 c67])] (cD (.tuple #[.agg #[.int .u64 ((topQ (x11.l.take 17)).1.hi), .int .u64 ((topQ (x11.l.take 17)).1.lo), .int .u64 ((topQ (x11.l.take 17)).1.w)], .bool ((topQ (x11.l.take 17)).2)]) Try.call22 (fun w hw => topq_t q67 n67 c67 (x11.l.take 17) w (hO67.at ((hw.tailN 3).sub ((List.sublist_append_right Y147 _).trans (List.sublist_append_right Y2029 _)))) hO67.len (by omega) (take_U hux11)) (mo0 6 [(6, .go (owns 0 0 3))] [0, 1, 7, 9, 25, 26, 27] (fun γ2151 => [(11, .pointer (some ⟨γ2151 0, 0, none⟩)), (12, .bool ((topQ (x11.l.take 17)).2))]) (fun γ2151 L => bx (γ2151 0) (#[.int .u64 ((topQ (x11.l.take 17)).1.hi), .int .u64 ((topQ (x11.l.take 17)).1.lo), .int .u64 ((topQ (x11.l.take 17)).1.w)]) 33 :: L) (fun γ2151 => on_ (ds_ (sq_ (ao_ (qo0 1 [(0, .go (owns 2 0 1))] [0, 1, 7, 9, 11, 12, 25, 26, 27] [(78, .agg #[.slice q67 n67 c67])] (cD (.tuple #[.agg #[.int .u64 ((topQ (x11.l.take 17)).1.hi), .int .u64 ((topQ (x11.l.take 17)).1.lo), .int .u64 ((topQ (x11.l.take 17)).1.w)], .bool ((topQ (x11.l.take 17)).2)]) Try.call23 (fun w hw => by have := rtop_t q67 n67 c67 (x11.l.take 17) w (hO67.at ((hw.tailN 4).sub ((List.sublist_append_right Y147 _).trans (List.sublist_append_right Y2029 _)))) hO67.len (by omega) (take_U hux11); rw [topR_good q287] at this; exact this) (mo0 6 [(6, .go (owns 0 0 3))] [0, 1, 7, 9, 11, 12, 25, 26, 27] (fun γ2153 => [(13, .pointer (some ⟨γ2153 0, 0, none⟩)), (14, .bool ((topQ (x11.l.take 17)).2))]) (fun γ2153 L => bx (γ2153 0) (#[.int .u64 ((topQ (x11.l.take 17)).1.hi), .int .u64 ((topQ (x11.l.take 17)).1.lo), .int .u64 ((topQ (x11.l.take 17)).1.w)]) 33 :: L) (fun γ2153 => on_ (ds_ (sq_ (sq_ (qa [(2, .go (owns 1 0 3)), (3, .go (owns 0 0 3)), (4, .eqs false), (8, .eqs false)] [0, 1, 7, 9, 25, 26, 27] [(104, .bool false)] ([EqRun Try.prog .neq 33 (.tmp 84) (.tmp 85) (.agg #[.int .u64 ((topQ (x11.l.take 17)).1.hi), .int .u64 ((topQ (x11.l.take 17)).1.lo), .int .u64 ((topQ (x11.l.take 17)).1.w)]) (.agg #[.int .u64 ((topQ (x11.l.take 17)).1.hi), .int .u64 ((topQ (x11.l.take 17)).1.lo), .int .u64 ((topQ (x11.l.take 17)).1.w)]) false] ++ ([EqRun Try.prog .neq 4 (.tmp 88) (.tmp 89) (.bool ((topQ (x11.l.take 17)).2)) (.bool ((topQ (x11.l.take 17)).2)) false])) (alA (al1 (fq_ne_t (a := (topQ (x11.l.take 17)).1) (b := (topQ (x11.l.take 17)).1) rfl)) (al1 (bool_same _))) (ds_ (f_ (at_skip (ds_ (sq_ (qa0 [] [0, 1, 7, 9, 25, 26, 27] [(105, .int .i64 0)] ?_))))))))))))))))))))))))))
     refine ds_ (at_block (at_loop (α := Nat) [0, 1, 7, 9, 25, 26, 27, 105] (fun i => [(0, .slice (some ⟨b9, o9, none⟩) m capq), (1, .slice pr mr capr), (7, .pointer (some ⟨γ167 0, 0, none⟩)), (9, .bool true), (25, .slice (some ⟨b9, o9, none⟩) m capq), (26, .int .i64 (m : Nat)), (27, .int .i64 (j : Nat)), (105, .int .i64 (i : Nat))]) (fun i => bx (γ2153 0) (#[.int .u64 ((topQ (x11.l.take 17)).1.hi), .int .u64 ((topQ (x11.l.take 17)).1.lo), .int .u64 ((topQ (x11.l.take 17)).1.w)]) 33 :: bx (γ2151 0) (#[.int .u64 ((topQ (x11.l.take 17)).1.hi), .int .u64 ((topQ (x11.l.take 17)).1.lo), .int .u64 ((topQ (x11.l.take 17)).1.w)]) 33 :: bx (γ187 0) (#[.slice q147 n147 c147]) 24 :: bx (γ167 0) (#[.slice q67 n67 c67]) 24 :: bx (γ12 0) (#[.slice x11.p x11.n x11.cap]) 24 :: (Y2029 ++ (Y147 ++ (Y67 ++ [])))) (fun i => i ≤ 18) (fun i => 18 - i) 0 (by kernel_rfl) rfl (Nat.zero_le _) ?_))
     rintro i
     intro hi
     refine sq_ ?_
     by_cases q2157 : ((i : Nat) : Int) < (18 : Int)
     ·
      refine qa [(0, .yes)] [0, 1, 7, 9, 25, 26, 27, 105] [(106, .bool true)] ([((i : Nat) : Int) < (18 : Int)]) (al1 q2157) (ds_ (sq_ (t_ (at_skip (ds_ (sq_ (at_block (sq_ (qa0 [] [0, 1, 7, 9, 25, 26, 27, 105] [(15, .int .i64 (i : Nat))] (ds_ (sq_ (ao_ (qo0 2 [(0, .go (owns 3 0 1))] [0, 1, 7, 9, 15, 25, 26, 27, 105] [(109, .agg #[.slice q67 n67 c67]), (110, .int .i64 (i : Nat))] (cD (.tuple #[.agg #[.int .i64 (((getQ (x11.l.take 17) (i : Nat)).getD zR).id), .int .i64 (((getQ (x11.l.take 17) (i : Nat)).getD zR).each), .int .u64 (((getQ (x11.l.take 17) (i : Nat)).getD zR).th), .int .u64 (((getQ (x11.l.take 17) (i : Nat)).getD zR).tl), .int .u64 (((getQ (x11.l.take 17) (i : Nat)).getD zR).tw)], .bool ((getQ (x11.l.take 17) (i : Nat)).isSome)]) Try.call11 (fun w hw => by have := getq_t q67 n67 c67 (x11.l.take 17) (i : Nat) w (hO67.at ((hw.tailN 5).sub ((List.sublist_append_right Y147 _).trans (List.sublist_append_right Y2029 _)))) hO67.len (by omega) (take_U hux11) (by omega) (by omega); rw [getO_split] at this; exact this) (mo0 6 [(7, .go (owns 0 0 5))] [0, 1, 7, 9, 15, 25, 26, 27, 105] (fun γ2161 => [(16, .pointer (some ⟨γ2161 0, 0, none⟩)), (17, .bool ((getQ (x11.l.take 17) (i : Nat)).isSome))]) (fun γ2161 L => bx (γ2161 0) (#[.int .i64 (((getQ (x11.l.take 17) (i : Nat)).getD zR).id), .int .i64 (((getQ (x11.l.take 17) (i : Nat)).getD zR).each), .int .u64 (((getQ (x11.l.take 17) (i : Nat)).getD zR).th), .int .u64 (((getQ (x11.l.take 17) (i : Nat)).getD zR).tl), .int .u64 (((getQ (x11.l.take 17) (i : Nat)).getD zR).tw)]) 35 :: L) (fun γ2161 => on_ (ds_ (sq_ (ao_ (qo0 2 [(0, .go (owns 4 0 1))] [0, 1, 7, 9, 16, 17, 25, 26, 27, 105] [(115, .agg #[.slice q67 n67 c67]), (116, .int .i64 (i : Nat))] (cD (.tuple #[.agg #[.int .i64 (((getQ (x11.l.take 17) (i : Nat)).getD zR).id), .int .i64 (((getQ (x11.l.take 17) (i : Nat)).getD zR).each), .int .u64 (((getQ (x11.l.take 17) (i : Nat)).getD zR).th), .int .u64 (((getQ (x11.l.take 17) (i : Nat)).getD zR).tl), .int .u64 (((getQ (x11.l.take 17) (i : Nat)).getD zR).tw)], .bool ((getQ (x11.l.take 17) (i : Nat)).isSome)]) Try.call24 (fun w hw => by have := rget_t q67 n67 c67 (x11.l.take 17) (i : Nat) w (hO67.at ((hw.tailN 6).sub ((List.sublist_append_right Y147 _).trans (List.sublist_append_right Y2029 _)))) hO67.len (by omega); rw [← getQ_ok q287, getO_split] at this; exact this) (mo0 6 [(7, .go (owns 0 0 5))] [0, 1, 7, 9, 16, 17, 25, 26, 27, 105] (fun γ2163 => [(18, .pointer (some ⟨γ2163 0, 0, none⟩)), (19, .bool ((getQ (x11.l.take 17) (i : Nat)).isSome))]) (fun γ2163 L => bx (γ2163 0) (#[.int .i64 (((getQ (x11.l.take 17) (i : Nat)).getD zR).id), .int .i64 (((getQ (x11.l.take 17) (i : Nat)).getD zR).each), .int .u64 (((getQ (x11.l.take 17) (i : Nat)).getD zR).th), .int .u64 (((getQ (x11.l.take 17) (i : Nat)).getD zR).tl), .int .u64 (((getQ (x11.l.take 17) (i : Nat)).getD zR).tw)]) 35 :: L) (fun γ2163 => ?_)))))))))))))))))))))))
      refine on_ (ds_ (sq_ (qa [(2, .go (owns 1 0 5)), (3, .go (owns 0 0 5)), (4, .eqs false), (8, .eqs false)] [0, 1, 7, 9, 25, 26, 27, 105] [(142, .bool false)] ([EqRun Try.prog .neq 35 (.tmp 122) (.tmp 123) (.agg #[.int .i64 (((getQ (x11.l.take 17) (i : Nat)).getD zR).id), .int .i64 (((getQ (x11.l.take 17) (i : Nat)).getD zR).each), .int .u64 (((getQ (x11.l.take 17) (i : Nat)).getD zR).th), .int .u64 (((getQ (x11.l.take 17) (i : Nat)).getD zR).tl), .int .u64 (((getQ (x11.l.take 17) (i : Nat)).getD zR).tw)]) (.agg #[.int .i64 (((getQ (x11.l.take 17) (i : Nat)).getD zR).id), .int .i64 (((getQ (x11.l.take 17) (i : Nat)).getD zR).each), .int .u64 (((getQ (x11.l.take 17) (i : Nat)).getD zR).th), .int .u64 (((getQ (x11.l.take 17) (i : Nat)).getD zR).tl), .int .u64 (((getQ (x11.l.take 17) (i : Nat)).getD zR).tw)]) false] ++ ([EqRun Try.prog .neq 4 (.tmp 126) (.tmp 127) (.bool ((getQ (x11.l.take 17) (i : Nat)).isSome)) (.bool ((getQ (x11.l.take 17) (i : Nat)).isSome)) false])) (alA (al1 (rn_ne_t (a := ((getQ (x11.l.take 17) (i : Nat)).getD zR)) (b := ((getQ (x11.l.take 17) (i : Nat)).getD zR)) rfl)) (al1 (bool_same _))) (ds_ (f_ (at_skip (done_block (ds_ (qa [(0, .fit)] [0, 1, 7, 9, 25, 26, 27] [(105, .int .i64 (i + 1 : Nat))] ([Fit .i64 ((i + 1 : Nat))]) (al1 (fit64 (by omega) (by omega))) (Done.drop (L' := bx (γ2153 0) (#[.int .u64 ((topQ (x11.l.take 17)).1.hi), .int .u64 ((topQ (x11.l.take 17)).1.lo), .int .u64 ((topQ (x11.l.take 17)).1.w)]) 33 :: bx (γ2151 0) (#[.int .u64 ((topQ (x11.l.take 17)).1.hi), .int .u64 ((topQ (x11.l.take 17)).1.lo), .int .u64 ((topQ (x11.l.take 17)).1.w)]) 33 :: bx (γ187 0) (#[.slice q147 n147 c147]) 24 :: bx (γ167 0) (#[.slice q67 n67 c67]) 24 :: bx (γ12 0) (#[.slice x11.p x11.n x11.cap]) 24 :: (Y2029 ++ (Y147 ++ (Y67 ++ [])))) ?_ (List.Sublist.cons _ (List.Sublist.cons _ (List.Sublist.cons_cons _ (List.Sublist.cons_cons _ (List.Sublist.cons_cons _ (List.Sublist.cons_cons _ (List.Sublist.cons_cons _ (List.Sublist.refl _))))))))))))))))))
      exact done_round [0, 1, 7, 9, 25, 26, 27, 105] (i + 1) (by kernel_rfl) rfl (by show i + 1 ≤ 18; omega) (by first | omega | (simp only; omega))
     ·
      refine qa [(0, .no)] [0, 1, 7, 9, 25, 26, 27, 105] [(106, .bool false)] ([¬ (((i : Nat) : Int) < (18 : Int))]) (al1 q2157) (ds_ (sq_ (f_ (at_leave _ rfl (done_block (ds_ (qa [(0, .fit)] [0, 1, 25, 26] [(27, .int .i64 (j + 1 : Nat))] ([Fit .i64 ((j + 1 : Nat))]) (al1 (fit64 (by omega) (by omega))) (Done.drop (L' := []) ?_ (List.Sublist.cons _ (List.Sublist.cons _ (List.Sublist.cons _ (List.Sublist.cons _ (List.Sublist.cons _ (((List.sublist_append_right _ _).trans (List.sublist_append_right _ _)).trans (List.sublist_append_right _ _)))))))))))))))
      exact done_round [0, 1, 25, 26, 27] (j + 1) (by kernel_rfl) rfl (by show j + 1 ≤ m; omega) (by first | omega | (simp only; omega))
    ·
     refine at_calmTo (f := 6) 22 rfl (by kernel_rfl) (by kernel_rfl) (by kernel_rfl) (by kernel_rfl) (by kernel_rfl) (by kernel_rfl) ?_
     refine cm 15 [(3, .eqs false), (13, .go (owns 1 0 1)), (14, .go (owns 0 0 1))] [0, 1, 6, 7, 8, 9, 25, 26, 27] [(56, .bool false), (57, .agg #[.slice q67 n67 c67]), (58, .agg #[.slice q147 n147 c147])] ([EqRun Try.prog .neq 4 (.tmp 45) (.tmp 46) (.bool true) (.bool true) false]) (by kernel_rfl) rfl (al1 (bool_ne true true)) ?_
     refine cK (.bool false) Try.call17 (fun w hw => by have := same_t q67 n67 c67 (x11.l.take 17) q147 n147 c147 (x43.l.take 17) w (hO67.atN (A := (_ :: _ :: _ :: Y147)) hw) hO67.len (by omega) (hO147.atN (A := [_, _, _]) hw) hO147.len (by omega); rw [decide_eq_false q1543] at this; exact this) ?_
     refine cm 2 [(16, .go (owns 1 0 1)), (17, .go (owns 0 0 1))] [0, 1, 6, 7, 9, 25, 26, 27, 56, 59] [(60, .agg #[.slice q67 n67 c67]), (61, .agg #[.slice q147 n147 c147])] ([]) (by kernel_rfl) rfl al0 ?_
     refine cK (.bool false) Try.call21 (fun w hw => by have := rsame_t q67 n67 c67 (x11.l.take 17) q147 n147 c147 (x43.l.take 17) w (hO67.atN (A := (_ :: _ :: _ :: Y147)) hw) hO67.len (by omega) (hO147.atN (A := [_, _, _]) hw) hO147.len (by omega); rw [decide_eq_false q1543] at this; exact this) ?_
     refine cm 3 [(19, .eqs false)] [0, 1, 6, 7, 9, 25, 26, 27] [(65, .bool false)] ([EqRun Try.prog .neq 4 (.tmp 59) (.tmp 62) (.bool false) (.bool false) false]) (by kernel_rfl) rfl (al1 (bool_ne false false)) ?_
     refine calm_nil' ?_
     refine done_pre (li' := #[true, true, true, true, true, true, true, true, true, true, true, true, true, true, true, true, true, true, true, true, true, true, false, false, false, false, false, false]) (by kernel_rfl) ?_
     refine any_cutX (V := (List Ob) × (Nat) × (Nat) × (Option Addr)) (fun ⟨Y2653, c2653, n2653, q2653⟩ => SlO 35 Y2653 q2653 n2653 c2653 (x11.l.take 17) ∧ n2653 ≤ 17 ∧ n2653 = ((x11.l.take 17)).length) 0 #[true, true, true, true, true, true, true, true, true, true, true, true, true, true, true, true, true, true, true, true, true, true, true, true, true, true, true, true] (fun ⟨Y2653, c2653, n2653, q2653⟩ => [(0, .slice (some ⟨b9, o9, none⟩) m capq), (1, .slice pr mr capr), (7, .pointer (some ⟨γ167 0, 0, none⟩)), (9, .bool true), (25, .slice (some ⟨b9, o9, none⟩) m capq), (26, .int .i64 (m : Nat)), (27, .int .i64 (j : Nat)), (71, .bool false)]) (fun ⟨Y2653, c2653, n2653, q2653⟩ => bx (γ187 0) (#[.slice q147 n147 c147]) 24 :: bx (γ167 0) (#[.slice q67 n67 c67]) 24 :: bx (γ12 0) (#[.slice x11.p x11.n x11.cap]) 24 :: (Y2653 ++ (Y147 ++ (Y67 ++ [])))) ?_ (fun hmx6 => ?_)
     rotate_left
     ·
      refine any_cutX (V := (List Ob) × (Nat) × (Nat) × (Option Addr)) (fun ⟨Y2653, c2653, n2653, q2653⟩ => SlO 35 Y2653 q2653 n2653 c2653 (x11.l.take 17) ∧ n2653 ≤ 17 ∧ n2653 = ((x11.l.take 17)).length) 3 #[true, true, true, true, true, true, true, true, true, true, true, true, true, true, true, true, true, true, true, true, true, true, true, true, true, false, false, false] (fun ⟨Y2653, c2653, n2653, q2653⟩ => [(0, .slice (some ⟨b9, o9, none⟩) m capq), (1, .slice pr mr capr), (7, .pointer (some ⟨γ167 0, 0, none⟩)), (9, .bool true), (25, .slice (some ⟨b9, o9, none⟩) m capq), (26, .int .i64 (m : Nat)), (27, .int .i64 (j : Nat)), (65, .bool false), (66, .agg #[.slice q67 n67 c67]), (68, .agg #[.slice q2653 n2653 c2653])]) (fun ⟨Y2653, c2653, n2653, q2653⟩ => bx (γ187 0) (#[.slice q147 n147 c147]) 24 :: bx (γ167 0) (#[.slice q67 n67 c67]) 24 :: bx (γ12 0) (#[.slice x11.p x11.n x11.cap]) 24 :: (Y2653 ++ (Y147 ++ (Y67 ++ [])))) ?_ (fun hmx5 => ?_)
      ·
       rintro ⟨Y2653, c2653, n2653, q2653⟩ ⟨hO2653, hbd2653, hl2653⟩
       refine a1 25 rfl ?_
       refine cD (.bool true) Try.call17 (fun w hw => by have := same_t q67 n67 c67 (x11.l.take 17) q2653 n2653 c2653 (x11.l.take 17) w (hO67.at ((hw.tailN 3).sub ((List.sublist_append_right Y147 _).trans (List.sublist_append_right Y2653 _)))) hO67.len (by omega) (hO2653.atN (A := [_, _, _]) hw) hO2653.len (by omega); rw [decide_eq_true rfl] at this; exact this) ?_
       refine od_ ?_
       refine tk (m := 0) [26, 27] [] [0, 1, 7, 9, 25, 26, 27] [(71, .bool false)] ([]) #[true, true, true, true, true, true, true, true, true, true, true, true, true, true, true, true, true, true, true, true, true, true, true, true, true, true, true, true] al0 ?_
       exact wk (hmx6 (Y2653, c2653, n2653, q2653) ⟨hO2653, hbd2653, hl2653⟩) [0, 1, 7, 9, 25, 26, 27, 71] [[_], [_], [_], _, _, _] [0, 1, 2, 3, 4, 5] rfl rfl
      refine any_cutX (V := (List Ob) × (Nat) × (Nat) × (Option Addr)) (fun ⟨Y2653, c2653, n2653, q2653⟩ => SlO 35 Y2653 q2653 n2653 c2653 (x11.l.take 17) ∧ n2653 ≤ 17 ∧ n2653 = ((x11.l.take 17)).length) 4 #[true, true, true, true, true, true, true, true, true, true, true, true, true, true, true, true, true, true, true, true, true, true, false, true, true, false, false, false] (fun ⟨Y2653, c2653, n2653, q2653⟩ => [(0, .slice (some ⟨b9, o9, none⟩) m capq), (1, .slice pr mr capr), (7, .pointer (some ⟨γ167 0, 0, none⟩)), (9, .bool true), (25, .slice (some ⟨b9, o9, none⟩) m capq), (26, .int .i64 (m : Nat)), (27, .int .i64 (j : Nat)), (65, .bool false), (68, .agg #[.slice q2653 n2653 c2653])]) (fun ⟨Y2653, c2653, n2653, q2653⟩ => bx (γ187 0) (#[.slice q147 n147 c147]) 24 :: bx (γ167 0) (#[.slice q67 n67 c67]) 24 :: bx (γ12 0) (#[.slice x11.p x11.n x11.cap]) 24 :: (Y2653 ++ (Y147 ++ (Y67 ++ [])))) ?_ (fun hmx4 => ?_)
      ·
       rintro ⟨Y2653, c2653, n2653, q2653⟩ ⟨hO2653, hbd2653, hl2653⟩
       refine a1 22 rfl ?_
       refine qo0 1 [(22, .go (owns 1 0 1))] [0, 1, 7, 9, 25, 26, 27, 65, 68] [(66, .agg #[.slice q67 n67 c67])] ?_
       refine od_ ?_
       exact wk (hmx5 (Y2653, c2653, n2653, q2653) ⟨hO2653, hbd2653, hl2653⟩) [0, 1, 7, 9, 25, 26, 27, 65, 66, 68] [[_], [_], [_], _, _, _] [0, 1, 2, 3, 4, 5] rfl rfl
      refine any_cutX (V := Unit) (fun _ => True) 4 #[true, true, true, true, true, true, true, true, true, true, true, true, true, true, true, true, true, true, true, true, true, true, true, true, false, false, false, false] (fun _ => [(0, .slice (some ⟨b9, o9, none⟩) m capq), (1, .slice pr mr capr), (7, .pointer (some ⟨γ167 0, 0, none⟩)), (9, .bool true), (25, .slice (some ⟨b9, o9, none⟩) m capq), (26, .int .i64 (m : Nat)), (27, .int .i64 (j : Nat)), (65, .bool false), (66, .agg #[.slice q67 n67 c67]), (67, .agg #[.slice x11.p x11.n x11.cap])]) (fun _ => bx (γ187 0) (#[.slice q147 n147 c147]) 24 :: bx (γ167 0) (#[.slice q67 n67 c67]) 24 :: bx (γ12 0) (#[.slice x11.p x11.n x11.cap]) 24 :: (Y147 ++ (Y67 ++ []))) ?_ (fun hmx3 => ?_)
      ·
       rintro _ _
       refine a1 24 rfl ?_
       refine cP (fun v L' => ∃ q_ n_ c_ Y_, v = .agg #[.slice q_ n_ c_] ∧ L' = List.take 3 (bx (γ187 0) (#[.slice q147 n147 c147]) 24 :: bx (γ167 0) (#[.slice q67 n67 c67]) 24 :: bx (γ12 0) (#[.slice x11.p x11.n x11.cap]) 24 :: (Y147 ++ (Y67 ++ []))) ++ (Y_ ++ List.drop 3 (bx (γ187 0) (#[.slice q147 n147 c147]) 24 :: bx (γ167 0) (#[.slice q67 n67 c67]) 24 :: bx (γ12 0) (#[.slice x11.p x11.n x11.cap]) 24 :: (Y147 ++ (Y67 ++ [])))) ∧ SlO 35 Y_ q_ n_ c_ (x11.l.take 17)) Try.call10 (fun w hw => (short_t x11.p x11.n x11.cap x11.l w (hsx11.kept hw.below) hnx11 hcx11 (by omega)).mono fun e w' ⟨q_, n_, c_, Y_, he, hO, hb, hY⟩ => ⟨_, _, he, ⟨q_, n_, c_, Y_, rfl, rfl, hO⟩, hw.join hb hY 3⟩) ?_
       rintro v2653 L2653 ⟨q2653, n2653, c2653, Y2653, rfl, rfl, hO2653⟩
       have hl2653 := hO2653.len
       have hbd2653 : n2653 ≤ 17 := by rw [hl2653, List.length_take]; omega
       refine od_ ?_
       exact wk (hmx5 (Y2653, c2653, n2653, q2653) ⟨hO2653, hbd2653, hl2653⟩) [0, 1, 7, 9, 25, 26, 27, 65, 66, 68] [[_], [_], [_], _, _, _] [0, 1, 2, 3, 4, 5] rfl rfl
      refine any_cutX (V := Unit) (fun _ => True) 5 #[true, true, true, true, true, true, true, true, true, true, true, true, true, true, true, true, true, true, true, true, true, true, false, true, false, false, false, false] (fun _ => [(0, .slice (some ⟨b9, o9, none⟩) m capq), (1, .slice pr mr capr), (7, .pointer (some ⟨γ167 0, 0, none⟩)), (9, .bool true), (25, .slice (some ⟨b9, o9, none⟩) m capq), (26, .int .i64 (m : Nat)), (27, .int .i64 (j : Nat)), (65, .bool false), (67, .agg #[.slice x11.p x11.n x11.cap])]) (fun _ => bx (γ187 0) (#[.slice q147 n147 c147]) 24 :: bx (γ167 0) (#[.slice q67 n67 c67]) 24 :: bx (γ12 0) (#[.slice x11.p x11.n x11.cap]) 24 :: (Y147 ++ (Y67 ++ []))) ?_ (fun hmx2 => ?_)
      ·
       rintro _ _
       refine any_fork [22, 24] (by kernel_rfl) (by simp) (each_cons _ rfl ?_ (each_cons _ rfl ?_ (each_nil)))
       ·
        refine qo0 1 [(22, .go (owns 1 0 1))] [0, 1, 7, 9, 25, 26, 27, 65, 67] [(66, .agg #[.slice q67 n67 c67])] ?_
        refine od_ ?_
        exact wk (hmx3 () trivial) [0, 1, 7, 9, 25, 26, 27, 65, 66, 67] [[_], [_], [_], _, _] [0, 1, 2, 3, 4] rfl rfl
       ·
        refine cP (fun v L' => ∃ q_ n_ c_ Y_, v = .agg #[.slice q_ n_ c_] ∧ L' = List.take 3 (bx (γ187 0) (#[.slice q147 n147 c147]) 24 :: bx (γ167 0) (#[.slice q67 n67 c67]) 24 :: bx (γ12 0) (#[.slice x11.p x11.n x11.cap]) 24 :: (Y147 ++ (Y67 ++ []))) ++ (Y_ ++ List.drop 3 (bx (γ187 0) (#[.slice q147 n147 c147]) 24 :: bx (γ167 0) (#[.slice q67 n67 c67]) 24 :: bx (γ12 0) (#[.slice x11.p x11.n x11.cap]) 24 :: (Y147 ++ (Y67 ++ [])))) ∧ SlO 35 Y_ q_ n_ c_ (x11.l.take 17)) Try.call10 (fun w hw => (short_t x11.p x11.n x11.cap x11.l w (hsx11.kept hw.below) hnx11 hcx11 (by omega)).mono fun e w' ⟨q_, n_, c_, Y_, he, hO, hb, hY⟩ => ⟨_, _, he, ⟨q_, n_, c_, Y_, rfl, rfl, hO⟩, hw.join hb hY 3⟩) ?_
        rintro v2653 L2653 ⟨q2653, n2653, c2653, Y2653, rfl, rfl, hO2653⟩
        have hl2653 := hO2653.len
        have hbd2653 : n2653 ≤ 17 := by rw [hl2653, List.length_take]; omega
        refine od_ ?_
        exact wk (hmx4 (Y2653, c2653, n2653, q2653) ⟨hO2653, hbd2653, hl2653⟩) [0, 1, 7, 9, 25, 26, 27, 65, 68] [[_], [_], [_], _, _, _] [0, 1, 2, 3, 4, 5] rfl rfl
      refine any_cutX (V := Unit) (fun _ => True) 5 #[true, true, true, true, true, true, true, true, true, true, true, true, true, true, true, true, true, true, true, true, true, true, true, false, false, false, false, false] (fun _ => [(0, .slice (some ⟨b9, o9, none⟩) m capq), (1, .slice pr mr capr), (6, .pointer (some ⟨γ12 0, 0, none⟩)), (7, .pointer (some ⟨γ167 0, 0, none⟩)), (9, .bool true), (25, .slice (some ⟨b9, o9, none⟩) m capq), (26, .int .i64 (m : Nat)), (27, .int .i64 (j : Nat)), (65, .bool false), (66, .agg #[.slice q67 n67 c67])]) (fun _ => bx (γ187 0) (#[.slice q147 n147 c147]) 24 :: bx (γ167 0) (#[.slice q67 n67 c67]) 24 :: bx (γ12 0) (#[.slice x11.p x11.n x11.cap]) 24 :: (Y147 ++ (Y67 ++ []))) ?_ (fun hmx1 => ?_)
      ·
       rintro _ _
       refine a1 23 rfl ?_
       refine qo0 1 [(23, .go (owns 2 0 1))] [0, 1, 7, 9, 25, 26, 27, 65, 66] [(67, .agg #[.slice x11.p x11.n x11.cap])] ?_
       refine od_ ?_
       exact wk (hmx3 () trivial) [0, 1, 7, 9, 25, 26, 27, 65, 66, 67] [[_], [_], [_], _, _] [0, 1, 2, 3, 4] rfl rfl
      refine any_fork [22, 23] (by kernel_rfl) (by simp) (each_cons _ rfl ?_ (each_cons _ rfl ?_ (each_nil)))
      ·
       refine qo0 1 [(22, .go (owns 1 0 1))] [0, 1, 6, 7, 9, 25, 26, 27, 65] [(66, .agg #[.slice q67 n67 c67])] ?_
       refine od_ ?_
       exact wk (hmx1 () trivial) [0, 1, 6, 7, 9, 25, 26, 27, 65, 66] [[_], [_], [_], _, _] [0, 1, 2, 3, 4] rfl rfl
      ·
       refine qo0 1 [(23, .go (owns 2 0 1))] [0, 1, 7, 9, 25, 26, 27, 65] [(67, .agg #[.slice x11.p x11.n x11.cap])] ?_
       refine od_ ?_
       exact wk (hmx2 () trivial) [0, 1, 7, 9, 25, 26, 27, 65, 67] [[_], [_], [_], _, _] [0, 1, 2, 3, 4] rfl rfl
     rintro ⟨Y2653, c2653, n2653, q2653⟩ ⟨hO2653, hbd2653, hl2653⟩
     refine any_nil (by kernel_rfl) ?_
     refine ds_ (f_ (at_skip (ds_ (sq_ (ao_ (qo0 1 [(0, .go (owns 1 0 1))] [0, 1, 7, 9, 25, 26, 27] [(73, .agg #[.slice q67 n67 c67])] (cD (.tuple #[.agg #[.int .u64 ((topQ (x11.l.take 17)).1.hi), .int .u64 ((topQ (x11.l.take 17)).1.lo), .int .u64 ((topQ (x11.l.take 17)).1.w)], .bool ((topQ (x11.l.take 17)).2)]) Try.call22 (fun w hw => topq_t q67 n67 c67 (x11.l.take 17) w (hO67.at ((hw.tailN 3).sub ((List.sublist_append_right Y147 _).trans (List.sublist_append_right Y2653 _)))) hO67.len (by omega) (take_U hux11)) (mo0 6 [(6, .go (owns 0 0 3))] [0, 1, 7, 9, 25, 26, 27] (fun γ2775 => [(11, .pointer (some ⟨γ2775 0, 0, none⟩)), (12, .bool ((topQ (x11.l.take 17)).2))]) (fun γ2775 L => bx (γ2775 0) (#[.int .u64 ((topQ (x11.l.take 17)).1.hi), .int .u64 ((topQ (x11.l.take 17)).1.lo), .int .u64 ((topQ (x11.l.take 17)).1.w)]) 33 :: L) (fun γ2775 => on_ (ds_ (sq_ (ao_ (qo0 1 [(0, .go (owns 2 0 1))] [0, 1, 7, 9, 11, 12, 25, 26, 27] [(78, .agg #[.slice q67 n67 c67])] (cD (.tuple #[.agg #[.int .u64 ((topQ (x11.l.take 17)).1.hi), .int .u64 ((topQ (x11.l.take 17)).1.lo), .int .u64 ((topQ (x11.l.take 17)).1.w)], .bool ((topQ (x11.l.take 17)).2)]) Try.call23 (fun w hw => by have := rtop_t q67 n67 c67 (x11.l.take 17) w (hO67.at ((hw.tailN 4).sub ((List.sublist_append_right Y147 _).trans (List.sublist_append_right Y2653 _)))) hO67.len (by omega) (take_U hux11); rw [topR_good q287] at this; exact this) (mo0 6 [(6, .go (owns 0 0 3))] [0, 1, 7, 9, 11, 12, 25, 26, 27] (fun γ2777 => [(13, .pointer (some ⟨γ2777 0, 0, none⟩)), (14, .bool ((topQ (x11.l.take 17)).2))]) (fun γ2777 L => bx (γ2777 0) (#[.int .u64 ((topQ (x11.l.take 17)).1.hi), .int .u64 ((topQ (x11.l.take 17)).1.lo), .int .u64 ((topQ (x11.l.take 17)).1.w)]) 33 :: L) (fun γ2777 => on_ (ds_ (sq_ (sq_ (qa [(2, .go (owns 1 0 3)), (3, .go (owns 0 0 3)), (4, .eqs false), (8, .eqs false)] [0, 1, 7, 9, 25, 26, 27] [(104, .bool false)] ([EqRun Try.prog .neq 33 (.tmp 84) (.tmp 85) (.agg #[.int .u64 ((topQ (x11.l.take 17)).1.hi), .int .u64 ((topQ (x11.l.take 17)).1.lo), .int .u64 ((topQ (x11.l.take 17)).1.w)]) (.agg #[.int .u64 ((topQ (x11.l.take 17)).1.hi), .int .u64 ((topQ (x11.l.take 17)).1.lo), .int .u64 ((topQ (x11.l.take 17)).1.w)]) false] ++ ([EqRun Try.prog .neq 4 (.tmp 88) (.tmp 89) (.bool ((topQ (x11.l.take 17)).2)) (.bool ((topQ (x11.l.take 17)).2)) false])) (alA (al1 (fq_ne_t (a := (topQ (x11.l.take 17)).1) (b := (topQ (x11.l.take 17)).1) rfl)) (al1 (bool_same _))) (ds_ (f_ (at_skip (ds_ (sq_ (qa0 [] [0, 1, 7, 9, 25, 26, 27] [(105, .int .i64 0)] ?_))))))))))))))))))))))))))
     refine ds_ (at_block (at_loop (α := Nat) [0, 1, 7, 9, 25, 26, 27, 105] (fun i => [(0, .slice (some ⟨b9, o9, none⟩) m capq), (1, .slice pr mr capr), (7, .pointer (some ⟨γ167 0, 0, none⟩)), (9, .bool true), (25, .slice (some ⟨b9, o9, none⟩) m capq), (26, .int .i64 (m : Nat)), (27, .int .i64 (j : Nat)), (105, .int .i64 (i : Nat))]) (fun i => bx (γ2777 0) (#[.int .u64 ((topQ (x11.l.take 17)).1.hi), .int .u64 ((topQ (x11.l.take 17)).1.lo), .int .u64 ((topQ (x11.l.take 17)).1.w)]) 33 :: bx (γ2775 0) (#[.int .u64 ((topQ (x11.l.take 17)).1.hi), .int .u64 ((topQ (x11.l.take 17)).1.lo), .int .u64 ((topQ (x11.l.take 17)).1.w)]) 33 :: bx (γ187 0) (#[.slice q147 n147 c147]) 24 :: bx (γ167 0) (#[.slice q67 n67 c67]) 24 :: bx (γ12 0) (#[.slice x11.p x11.n x11.cap]) 24 :: (Y2653 ++ (Y147 ++ (Y67 ++ [])))) (fun i => i ≤ 18) (fun i => 18 - i) 0 (by kernel_rfl) rfl (Nat.zero_le _) ?_))
     rintro i
     intro hi
     refine sq_ ?_
     by_cases q2781 : ((i : Nat) : Int) < (18 : Int)
     ·
      refine qa [(0, .yes)] [0, 1, 7, 9, 25, 26, 27, 105] [(106, .bool true)] ([((i : Nat) : Int) < (18 : Int)]) (al1 q2781) (ds_ (sq_ (t_ (at_skip (ds_ (sq_ (at_block (sq_ (qa0 [] [0, 1, 7, 9, 25, 26, 27, 105] [(15, .int .i64 (i : Nat))] (ds_ (sq_ (ao_ (qo0 2 [(0, .go (owns 3 0 1))] [0, 1, 7, 9, 15, 25, 26, 27, 105] [(109, .agg #[.slice q67 n67 c67]), (110, .int .i64 (i : Nat))] (cD (.tuple #[.agg #[.int .i64 (((getQ (x11.l.take 17) (i : Nat)).getD zR).id), .int .i64 (((getQ (x11.l.take 17) (i : Nat)).getD zR).each), .int .u64 (((getQ (x11.l.take 17) (i : Nat)).getD zR).th), .int .u64 (((getQ (x11.l.take 17) (i : Nat)).getD zR).tl), .int .u64 (((getQ (x11.l.take 17) (i : Nat)).getD zR).tw)], .bool ((getQ (x11.l.take 17) (i : Nat)).isSome)]) Try.call11 (fun w hw => by have := getq_t q67 n67 c67 (x11.l.take 17) (i : Nat) w (hO67.at ((hw.tailN 5).sub ((List.sublist_append_right Y147 _).trans (List.sublist_append_right Y2653 _)))) hO67.len (by omega) (take_U hux11) (by omega) (by omega); rw [getO_split] at this; exact this) (mo0 6 [(7, .go (owns 0 0 5))] [0, 1, 7, 9, 15, 25, 26, 27, 105] (fun γ2785 => [(16, .pointer (some ⟨γ2785 0, 0, none⟩)), (17, .bool ((getQ (x11.l.take 17) (i : Nat)).isSome))]) (fun γ2785 L => bx (γ2785 0) (#[.int .i64 (((getQ (x11.l.take 17) (i : Nat)).getD zR).id), .int .i64 (((getQ (x11.l.take 17) (i : Nat)).getD zR).each), .int .u64 (((getQ (x11.l.take 17) (i : Nat)).getD zR).th), .int .u64 (((getQ (x11.l.take 17) (i : Nat)).getD zR).tl), .int .u64 (((getQ (x11.l.take 17) (i : Nat)).getD zR).tw)]) 35 :: L) (fun γ2785 => on_ (ds_ (sq_ (ao_ (qo0 2 [(0, .go (owns 4 0 1))] [0, 1, 7, 9, 16, 17, 25, 26, 27, 105] [(115, .agg #[.slice q67 n67 c67]), (116, .int .i64 (i : Nat))] (cD (.tuple #[.agg #[.int .i64 (((getQ (x11.l.take 17) (i : Nat)).getD zR).id), .int .i64 (((getQ (x11.l.take 17) (i : Nat)).getD zR).each), .int .u64 (((getQ (x11.l.take 17) (i : Nat)).getD zR).th), .int .u64 (((getQ (x11.l.take 17) (i : Nat)).getD zR).tl), .int .u64 (((getQ (x11.l.take 17) (i : Nat)).getD zR).tw)], .bool ((getQ (x11.l.take 17) (i : Nat)).isSome)]) Try.call24 (fun w hw => by have := rget_t q67 n67 c67 (x11.l.take 17) (i : Nat) w (hO67.at ((hw.tailN 6).sub ((List.sublist_append_right Y147 _).trans (List.sublist_append_right Y2653 _)))) hO67.len (by omega); rw [← getQ_ok q287, getO_split] at this; exact this) (mo0 6 [(7, .go (owns 0 0 5))] [0, 1, 7, 9, 16, 17, 25, 26, 27, 105] (fun γ2787 => [(18, .pointer (some ⟨γ2787 0, 0, none⟩)), (19, .bool ((getQ (x11.l.take 17) (i : Nat)).isSome))]) (fun γ2787 L => bx (γ2787 0) (#[.int .i64 (((getQ (x11.l.take 17) (i : Nat)).getD zR).id), .int .i64 (((getQ (x11.l.take 17) (i : Nat)).getD zR).each), .int .u64 (((getQ (x11.l.take 17) (i : Nat)).getD zR).th), .int .u64 (((getQ (x11.l.take 17) (i : Nat)).getD zR).tl), .int .u64 (((getQ (x11.l.take 17) (i : Nat)).getD zR).tw)]) 35 :: L) (fun γ2787 => ?_)))))))))))))))))))))))
      refine on_ (ds_ (sq_ (qa [(2, .go (owns 1 0 5)), (3, .go (owns 0 0 5)), (4, .eqs false), (8, .eqs false)] [0, 1, 7, 9, 25, 26, 27, 105] [(142, .bool false)] ([EqRun Try.prog .neq 35 (.tmp 122) (.tmp 123) (.agg #[.int .i64 (((getQ (x11.l.take 17) (i : Nat)).getD zR).id), .int .i64 (((getQ (x11.l.take 17) (i : Nat)).getD zR).each), .int .u64 (((getQ (x11.l.take 17) (i : Nat)).getD zR).th), .int .u64 (((getQ (x11.l.take 17) (i : Nat)).getD zR).tl), .int .u64 (((getQ (x11.l.take 17) (i : Nat)).getD zR).tw)]) (.agg #[.int .i64 (((getQ (x11.l.take 17) (i : Nat)).getD zR).id), .int .i64 (((getQ (x11.l.take 17) (i : Nat)).getD zR).each), .int .u64 (((getQ (x11.l.take 17) (i : Nat)).getD zR).th), .int .u64 (((getQ (x11.l.take 17) (i : Nat)).getD zR).tl), .int .u64 (((getQ (x11.l.take 17) (i : Nat)).getD zR).tw)]) false] ++ ([EqRun Try.prog .neq 4 (.tmp 126) (.tmp 127) (.bool ((getQ (x11.l.take 17) (i : Nat)).isSome)) (.bool ((getQ (x11.l.take 17) (i : Nat)).isSome)) false])) (alA (al1 (rn_ne_t (a := ((getQ (x11.l.take 17) (i : Nat)).getD zR)) (b := ((getQ (x11.l.take 17) (i : Nat)).getD zR)) rfl)) (al1 (bool_same _))) (ds_ (f_ (at_skip (done_block (ds_ (qa [(0, .fit)] [0, 1, 7, 9, 25, 26, 27] [(105, .int .i64 (i + 1 : Nat))] ([Fit .i64 ((i + 1 : Nat))]) (al1 (fit64 (by omega) (by omega))) (Done.drop (L' := bx (γ2777 0) (#[.int .u64 ((topQ (x11.l.take 17)).1.hi), .int .u64 ((topQ (x11.l.take 17)).1.lo), .int .u64 ((topQ (x11.l.take 17)).1.w)]) 33 :: bx (γ2775 0) (#[.int .u64 ((topQ (x11.l.take 17)).1.hi), .int .u64 ((topQ (x11.l.take 17)).1.lo), .int .u64 ((topQ (x11.l.take 17)).1.w)]) 33 :: bx (γ187 0) (#[.slice q147 n147 c147]) 24 :: bx (γ167 0) (#[.slice q67 n67 c67]) 24 :: bx (γ12 0) (#[.slice x11.p x11.n x11.cap]) 24 :: (Y2653 ++ (Y147 ++ (Y67 ++ [])))) ?_ (List.Sublist.cons _ (List.Sublist.cons _ (List.Sublist.cons_cons _ (List.Sublist.cons_cons _ (List.Sublist.cons_cons _ (List.Sublist.cons_cons _ (List.Sublist.cons_cons _ (List.Sublist.refl _))))))))))))))))))
      exact done_round [0, 1, 7, 9, 25, 26, 27, 105] (i + 1) (by kernel_rfl) rfl (by show i + 1 ≤ 18; omega) (by first | omega | (simp only; omega))
     ·
      refine qa [(0, .no)] [0, 1, 7, 9, 25, 26, 27, 105] [(106, .bool false)] ([¬ (((i : Nat) : Int) < (18 : Int))]) (al1 q2781) (ds_ (sq_ (f_ (at_leave _ rfl (done_block (ds_ (qa [(0, .fit)] [0, 1, 25, 26] [(27, .int .i64 (j + 1 : Nat))] ([Fit .i64 ((j + 1 : Nat))]) (al1 (fit64 (by omega) (by omega))) (Done.drop (L' := []) ?_ (List.Sublist.cons _ (List.Sublist.cons _ (List.Sublist.cons _ (List.Sublist.cons _ (List.Sublist.cons _ (((List.sublist_append_right _ _).trans (List.sublist_append_right _ _)).trans (List.sublist_append_right _ _)))))))))))))))
      exact done_round [0, 1, 25, 26, 27] (j + 1) (by kernel_rfl) rfl (by show j + 1 ≤ m; omega) (by first | omega | (simp only; omega))
 ·
  refine qa [(0, .no)] [0, 1, 25, 26, 27] [(28, .bool false)] ([¬ (((j : Nat) : Int) < ((m : Nat) : Int))]) (al1 q6) (ds_ (sq_ (f_ (at_leave _ rfl (ds_ (sq_ (sq_ (qa0 [] [] [(145, .slice pr mr capr), (146, .int .i64 (mr : Nat)), (147, .int .i64 0)] (ds_ (at_block (at_loop (α := Nat) [145, 146, 147] (fun j => [(145, .slice pr mr capr), (146, .int .i64 (mr : Nat)), (147, .int .i64 (j : Nat))]) (fun j => []) (fun j => j ≤ mr) (fun j => mr - j) 0 (by kernel_rfl) rfl (Nat.zero_le _) ?_)))))))))))
  rintro j
  intro hj
  refine sq_ ?_
  by_cases q2795 : ((j : Nat) : Int) < ((mr : Nat) : Int)
  ·
   refine qa [(0, .yes)] [145, 146, 147] [(148, .bool true)] ([((j : Nat) : Int) < ((mr : Nat) : Int)]) (al1 q2795) (ds_ (sq_ (t_ (at_skip (ds_ (sq_ (at_block (sq_ ?_))))))))
   obtain ⟨b2798, o2798, rfl⟩ := hrl.pos (i := j) (by omega)
   obtain ⟨x2800, hx2800⟩ := get_some (l := rl) (m := j) (by omega)
   refine ma [(1, .at b2798 o2798 j), (2, .go (outs b2798 (o2798 + j * 5) [.int .i64 x2800.id, .int .i64 x2800.each, .int .u64 x2800.th, .int .u64 x2800.tl, .int .u64 x2800.tw])), (5, .go (owns 0 0 5))] [145, 146, 147] (fun γ2801 => [(20, .int .i64 (j : Nat)), (21, .pointer (some ⟨γ2801 0, 0, none⟩))]) (fun γ2801 L => bx (γ2801 0) (#[.int .i64 x2800.id, .int .i64 x2800.each, .int .u64 x2800.th, .int .u64 x2800.tl, .int .u64 x2800.tw]) 35 :: L) (fun γ2801 => [(some ⟨b2798, o2798, none⟩ : Option Addr) = some ⟨b2798, o2798, none⟩, (j : Nat) = ((j : Nat) : Int), j < mr] ++ (cellsP w b2798 (o2798 + j * 5) [.int .i64 x2800.id, .int .i64 x2800.each, .int .u64 x2800.th, .int .u64 x2800.tl, .int .u64 x2800.tw])) (fun γ2801 => (alA (al2 rfl (al2 rfl (al1 (by omega)))) (rd_pre (hrl.get hx2800) _ rfl))) (fun γ2801 => ds_ (sq_ (sq_ ?_)))
   by_cases q2803 : ((j : Nat) : Int) = (12 : Int)
   ·
    refine qa [(1, .yes)] [21, 145, 146, 147] [(153, .bool true)] ([((j : Nat) : Int) = (12 : Int)]) (al1 q2803) (ds_ (t_ (at_leave _ rfl (ds_ (sq_ (qa0 [] [] [(4, .bool true)] (ds_ (rt ([]) (.bool true) ?_))))))))
    exact fun w' hw => ⟨rfl, hw.below⟩
   ·
    refine qa [(1, .no)] [21, 145, 146, 147] [(153, .bool false)] ([¬ (((j : Nat) : Int) = (12 : Int))]) (al1 q2803) (ds_ (f_ (at_skip (ds_ (sq_ (ao_ (qo0 1 [(0, .go (owns 0 0 5))] [21, 145, 146, 147] [(154, .agg #[.int .i64 x2800.id, .int .i64 x2800.each, .int .u64 x2800.th, .int .u64 x2800.tl, .int .u64 x2800.tw])] ?_)))))))
    rcases q2808 : rnB x2800 with _ | _
    ·
     refine cD (.int .i64 2) Try.call25 (fun w hw => by have := crun_t x2800 w; rw [q2808] at this; exact this) (qo0 1 [] [21, 145, 146, 147] [(22, .int .i64 2)] (on_ (ds_ (sq_ (ao_ (qo0 3 [(2, .go (owns 0 0 5))] [22, 145, 146, 147] [(157, .bool false), (158, .agg #[.int .i64 x2800.id, .int .i64 x2800.each, .int .u64 x2800.th, .int .u64 x2800.tl, .int .u64 x2800.tw])] (cD (.bool false) Try.call26 (fun w hw => by have := rrun_t x2800 w; rw [q2808] at this; exact this) (qo 9 [(4, .eqs false)] [145, 146, 147] [(168, .bool false)] ([EqRun Try.prog .neq 4 (.tmp 157) (.tmp 159) (.bool false) (.bool false) false]) (al1 (bool_ne false false)) (on_ (ds_ (f_ (at_skip (done_block (ds_ (qa [(0, .fit)] [145, 146] [(147, .int .i64 (j + 1 : Nat))] ([Fit .i64 ((j + 1 : Nat))]) (al1 (fit64 (by omega) (by omega))) (Done.drop (L' := []) ?_ (List.Sublist.cons _ (List.Sublist.refl _))))))))))))))))))
     exact done_round [145, 146, 147] (j + 1) (by kernel_rfl) rfl (by show j + 1 ≤ mr; omega) (by first | omega | (simp only; omega))
    ·
     refine cD (.int .i64 0) Try.call25 (fun w hw => by have := crun_t x2800 w; rw [q2808] at this; exact this) (qo0 1 [] [21, 145, 146, 147] [(22, .int .i64 0)] (on_ (ds_ (sq_ (ao_ (qo0 3 [(2, .go (owns 0 0 5))] [22, 145, 146, 147] [(157, .bool true), (158, .agg #[.int .i64 x2800.id, .int .i64 x2800.each, .int .u64 x2800.th, .int .u64 x2800.tl, .int .u64 x2800.tw])] (cD (.bool true) Try.call26 (fun w hw => by have := rrun_t x2800 w; rw [q2808] at this; exact this) (qo 9 [(4, .eqs false)] [145, 146, 147] [(168, .bool false)] ([EqRun Try.prog .neq 4 (.tmp 157) (.tmp 159) (.bool true) (.bool true) false]) (al1 (bool_ne true true)) (on_ (ds_ (f_ (at_skip (done_block (ds_ (qa [(0, .fit)] [145, 146] [(147, .int .i64 (j + 1 : Nat))] ([Fit .i64 ((j + 1 : Nat))]) (al1 (fit64 (by omega) (by omega))) (Done.drop (L' := []) ?_ (List.Sublist.cons _ (List.Sublist.refl _))))))))))))))))))
     exact done_round [145, 146, 147] (j + 1) (by kernel_rfl) rfl (by show j + 1 ≤ mr; omega) (by first | omega | (simp only; omega))
  ·
   refine qa [(0, .no)] [145, 146, 147] [(148, .bool false)] ([¬ (((j : Nat) : Int) < ((mr : Nat) : Int))]) (al1 q2795) (ds_ (sq_ (f_ (at_leave _ rfl (ds_ (sq_ (qa0 [] [] [(4, .bool true)] (ds_ (rt ([]) (.bool true) ?_)))))))))
   exact fun w' hw => ⟨rfl, hw.below⟩
end Go.Proofs.Ytnhkecfapohlgaa

/-! The walker: what a row's inputs are: slices and structs, opened into lists. -/
namespace Go.Proofs.Ytnhkecfapohlgaa
open Go Go.RowKit

section
variable {H : Type} {enc : TypeId × Value → H} {P : Program} {w : World} {base : Nat} {spare : Nat → Bool} {held : Bool}
theorem spot_none {a : Addr} (h : a.spot = none) : a = ⟨a.block, a.off, none⟩ := by
  cases a
  simp at h
  simp [h]
theorem trod_sv {α : Type} [Enc α] {t e : TypeId} {fuel : Nat} {cs : List Value} {x : DataW H × List MemPlace} {Good : α → Prop} (ht : P.underlying t = some (.slice e)) (hc : P.cellsOf e = Enc.k α)
    (hopen : ∀ (fuel : Nat) (cs : List Value) (x : DataW H × List MemPlace), DataW.trod enc P w base spare held fuel e cs = some x → ∃ a : α, cs = Enc.enc a ∧ Good a) (h : DataW.trod enc P w base spare held fuel t cs = some x) :
    ∃ (p : Option Addr) (n cap : Nat) (l : List α), cs = [.slice p n cap] ∧ Sv w p l ∧ n = l.length ∧ n ≤ cap ∧ cap ≤ maxLen ∧ ∀ y ∈ l, Good y := by
  rcases Deep.open_slice ht h with ⟨hcs, _⟩ | ⟨a, len, cap, m, n', D, Pl, hcs, _, hle, hmx, hm, _, hi⟩
  · exact ⟨none, 0, 0, [], hcs, Sv.nil, rfl, Nat.le_refl _, Nat.zero_le _, fun y hy => by cases hy⟩
  · have key : ∀ i, i < len → ∃ y : α, w.cells? base (a.add (i * Enc.k α)) (Enc.k α) = some (Enc.enc y) ∧ Good y := fun i hin => by
      have him : i < m := by rw [hm]; split <;> omega
      obtain ⟨cs', h1, h2⟩ := hi i him
      obtain ⟨y, rfl, hy⟩ := hopen _ _ _ h2
      rw [hc] at h1
      exact ⟨y, h1, hy⟩
    rcases Nat.eq_zero_or_pos len with h0 | h0
    · subst h0
      exact ⟨some a, 0, cap, [], hcs, Sv.nil, rfl, hle, hmx, fun y hy => by cases hy⟩
    · obtain ⟨y0, hy0, _⟩ := key 0 h0
      haveI : Inhabited α := ⟨y0⟩
      obtain ⟨f, hf⟩ := Deep.choose_lt key
      obtain ⟨_, _, hcell⟩ := World.cells?_some hy0
      have h00 := hcell 0 Enc.pos
      have hlen0 : 0 < (Enc.enc y0).length := by rw [Enc.len]; exact Enc.pos
      rw [List.getElem?_eq_getElem hlen0, Nat.zero_mul, show (a.add 0).add 0 = a by simp [Addr.add]] at h00
      have hsp := spot_none (World.cell?_spot h00)
      refine ⟨some a, len, cap, (List.range len).map f, hcs, ⟨fun _ => ⟨a.block, a.off, by rw [← hsp]⟩, fun b o hbo i hil => ?_⟩, by simp, hle, hmx, fun y hy => ?_⟩
      · have hil' : i < len := by simpa using hil
        obtain ⟨_, _, hc2⟩ := World.cells?_some (hf i hil').1
        have ha : a = ⟨b, o, none⟩ := by simpa using hbo
        subst ha
        intro j v hj
        have hjk : j < Enc.k α := by rw [← Enc.len (f i)]; have := (List.getElem?_eq_some_iff.1 hj).1; simpa using this
        have h3 := hc2 j hjk
        rw [Deep.add_add] at h3
        have h4 : (Enc.enc (f i))[j]? = some v := by simpa using hj
        rw [h4] at h3
        have h5 : (⟨b, o, none⟩ : Addr).add (i * Enc.k α + j) = ⟨b, o + i * Enc.k α + j, none⟩ := by
          unfold Addr.add; split <;> simp_all <;> omega
        rw [h5] at h3
        exact h3
      · obtain ⟨i, hir, rfl⟩ := List.mem_map.1 hy
        exact (hf i (List.mem_range.1 hir)).2
theorem list2' {α : Type} {cs : List α} (h : cs.length = 2) : ∃ c0 c1, cs = [c0, c1] := by
  match cs, h with
  | [a, b], _ => exact ⟨a, b, rfl⟩
end
end Go.Proofs.Ytnhkecfapohlgaa

/-! Chapter 10: what the rows' inputs are. -/
namespace Go.Proofs.Ytnhkecfapohlgaa
open Go Go.RowKit Go.ChangeShapes Go.WideShapes

section
variable {H : Type} {enc : TypeId × Value → H} {w : World} {base : Nat} {spare : Nat → Bool} {held : Bool}
theorem cInt0 : Try.prog.cellsOf 3 = 1 := by kernel_rfl
theorem cU64 : Try.prog.cellsOf 25 = 1 := by kernel_rfl
theorem cWid : Try.prog.cellsOf 31 = 2 := by kernel_rfl
theorem cFra : Try.prog.cellsOf 33 = 3 := by kernel_rfl
theorem cRun : Try.prog.cellsOf 35 = 5 := by kernel_rfl
theorem cRuns : Try.prog.cellsOf 22 = 1 := by kernel_rfl
theorem cQue : Try.prog.cellsOf 24 = 1 := by kernel_rfl
theorem list3u {α : Type} {cs : List α} (h : cs.length = 3) : ∃ a b c, cs = [a, b, c] := by
  match cs, h with
  | [a, b, c], _ => exact ⟨a, b, c, rfl⟩
theorem list5u {α : Type} {cs : List α} (h : cs.length = 5) : ∃ a b c d e, cs = [a, b, c, d, e] := by
  match cs, h with
  | [a, b, c, d, e], _ => exact ⟨a, b, c, d, e, rfl⟩
theorem u64_wf {n : Int} (h : (Lit.int .u64 n).wf = true) : 0 ≤ n ∧ n < 18446744073709551616 := by
  simp only [Lit.wf, Bool.and_eq_true, decide_eq_true_eq] at h
  have h1 : (0 : Int) ≤ n := h.1
  have h2 : n ≤ 18446744073709551615 := h.2
  omega
theorem i64_wf {n : Int} (h : (Lit.int .i64 n).wf = true) : -9223372036854775808 ≤ n ∧ n ≤ 9223372036854775807 := by
  simp only [Lit.wf, Bool.and_eq_true, decide_eq_true_eq] at h
  exact ⟨h.1, h.2⟩
set_option maxRecDepth 100000 in
theorem wide_open {fuel : Nat} {cs : List Value} {x : DataW H × List MemPlace} (h : DataW.trod enc Try.prog w base spare held fuel 31 cs = some x) : ∃ a b : Int, cs = [.int .u64 a, .int .u64 b] ∧ (0 ≤ a ∧ a < 18446744073709551616) ∧ (0 ≤ b ∧ b < 18446744073709551616) := by
  obtain ⟨xs, n, _, rfl, hl, hlen, hf⟩ := DataW.trod_struct Try.underlying31 h
  rw [cWid] at hl
  obtain ⟨c0, c1, rfl⟩ := list2' hl
  obtain ⟨y0, y1, rfl⟩ := list2' hlen
  have h0 : DataW.trod enc Try.prog w base spare held n 25 (([c0, c1].drop 0).take (Try.prog.cellsOf 25)) = some y0 := hf 0 _ rfl
  have h1 : DataW.trod enc Try.prog w base spare held n 25 (([c0, c1].drop 1).take (Try.prog.cellsOf 25)) = some y1 := hf 1 _ rfl
  clear hf hl hlen h
  rw [cU64] at h0 h1
  simp only [List.drop_zero, List.take_succ_cons, List.take_zero, List.drop_succ_cons] at h0 h1
  obtain ⟨a, e0, _, f0⟩ := DataW.trod_int Try.underlying25 h0
  obtain ⟨b, e1, _, f1⟩ := DataW.trod_int Try.underlying25 h1
  simp only [List.cons.injEq, and_true] at e0 e1
  subst e0; subst e1
  exact ⟨a, b, rfl, u64_wf f0, u64_wf f1⟩
set_option maxRecDepth 100000 in
theorem fq_open {fuel : Nat} {cs : List Value} {x : DataW H × List MemPlace} (h : DataW.trod enc Try.prog w base spare held fuel 33 cs = some x) : ∃ a : Fq, cs = Enc.enc a ∧ a.U := by
  obtain ⟨xs, n, _, rfl, hl, hlen, hf⟩ := DataW.trod_struct Try.underlying33 h
  rw [cFra] at hl
  obtain ⟨c0, c1, c2, rfl⟩ := list3u hl
  obtain ⟨y0, y1, rfl⟩ := list2' hlen
  have h0 : DataW.trod enc Try.prog w base spare held n 31 (([c0, c1, c2].drop 0).take (Try.prog.cellsOf 31)) = some y0 := hf 0 _ rfl
  have h1 : DataW.trod enc Try.prog w base spare held n 25 (([c0, c1, c2].drop 2).take (Try.prog.cellsOf 25)) = some y1 := hf 1 _ rfl
  clear hf hl hlen h
  rw [cWid] at h0
  rw [cU64] at h1
  simp only [List.drop_zero, List.take_succ_cons, List.take_zero, List.drop_succ_cons] at h0 h1
  obtain ⟨a, b, e0, fa, fb⟩ := wide_open h0
  obtain ⟨c, e1, _, f1⟩ := DataW.trod_int Try.underlying25 h1
  simp only [List.cons.injEq, and_true] at e0 e1
  obtain ⟨rfl, rfl⟩ := e0
  subst e1
  have fc := u64_wf f1
  exact ⟨⟨a, b, c⟩, rfl, ⟨fa.1, fa.2, fb.1, fb.2, fc.1, fc.2⟩⟩
set_option maxRecDepth 100000 in
theorem rn_open {fuel : Nat} {cs : List Value} {x : DataW H × List MemPlace} (h : DataW.trod enc Try.prog w base spare held fuel 35 cs = some x) : ∃ a : Rn, cs = Enc.enc a ∧ a.U := by
  obtain ⟨xs, n, _, rfl, hl, hlen, hf⟩ := DataW.trod_struct Try.underlying35 h
  rw [cRun] at hl
  obtain ⟨c0, c1, c2, c3, c4, rfl⟩ := list5u hl
  obtain ⟨y0, y1, y2, rfl⟩ := list3u hlen
  have h0 : DataW.trod enc Try.prog w base spare held n 3 (([c0, c1, c2, c3, c4].drop 0).take (Try.prog.cellsOf 3)) = some y0 := hf 0 _ rfl
  have h1 : DataW.trod enc Try.prog w base spare held n 3 (([c0, c1, c2, c3, c4].drop 1).take (Try.prog.cellsOf 3)) = some y1 := hf 1 _ rfl
  have h2 : DataW.trod enc Try.prog w base spare held n 33 (([c0, c1, c2, c3, c4].drop 2).take (Try.prog.cellsOf 33)) = some y2 := hf 2 _ rfl
  clear hf hl hlen h
  rw [cInt0] at h0 h1
  rw [cFra] at h2
  simp only [List.drop_zero, List.take_succ_cons, List.take_zero, List.drop_succ_cons] at h0 h1 h2
  obtain ⟨a, e0, _, f0⟩ := DataW.trod_int Try.underlying3 h0
  obtain ⟨b, e1, _, f1⟩ := DataW.trod_int Try.underlying3 h1
  obtain ⟨t, e2, ht⟩ := fq_open h2
  simp only [List.cons.injEq, and_true] at e0 e1
  subst e0; subst e1
  have e2' : [c2, c3, c4] = [.int .u64 t.hi, .int .u64 t.lo, .int .u64 t.w] := e2
  simp only [List.cons.injEq, and_true] at e2'
  obtain ⟨rfl, rfl, rfl⟩ := e2'
  have g0 := i64_wf f0
  have g1 := i64_wf f1
  exact ⟨⟨a, b, t.hi, t.lo, t.w⟩, rfl, ⟨g0.1, g0.2, g1.1, g1.2, ht⟩⟩
end
end Go.Proofs.Ytnhkecfapohlgaa

/-! Chapter 10: rows of queues, of runners, opened. -/
namespace Go.Proofs.Ytnhkecfapohlgaa
open Go Go.RowKit Go.ChangeShapes Go.WideShapes
section
variable {H : Type} {enc : TypeId × Value → H} {w : World} {base : Nat} {spare : Nat → Bool} {held : Bool}
set_option maxRecDepth 100000 in
theorem queA_open {fuel : Nat} {cs : List Value} {x : DataW H × List MemPlace} (h : DataW.trod enc Try.prog w base spare held fuel 24 cs = some x) : ∃ a : QueA, cs = Enc.enc a ∧ a.Reads w := by
  obtain ⟨xs, n, _, rfl, hl, hlen, hf⟩ := DataW.trod_struct Try.underlying24 h
  rw [cQue] at hl
  obtain ⟨c0, rfl⟩ := List.length_eq_one_iff.1 hl
  obtain ⟨y0, rfl⟩ := List.length_eq_one_iff.1 hlen
  have h0 : DataW.trod enc Try.prog w base spare held n 22 (([c0].drop 0).take (Try.prog.cellsOf 22)) = some y0 := hf 0 _ rfl
  clear hf hl hlen h
  rw [cRuns] at h0
  simp only [List.drop_zero, List.take_succ_cons, List.take_zero] at h0
  obtain ⟨p, m, cap, l, he, hs, hn, hle, hmx, hg⟩ := trod_sv (α := Rn) (Good := fun r => r.U) Try.underlying22 cRun (fun _ _ _ h => rn_open h) h0
  simp only [List.cons.injEq, and_true] at he
  subst he
  exact ⟨⟨p, m, cap, l⟩, rfl, ⟨hs, hn, hle, hmx, hg⟩⟩
set_option maxRecDepth 100000 in
theorem queues_open {v : Value} {d : DataW H} {pl : List MemPlace} (hv : Value.okWide Try.prog w .any base 53 v) (h : DataW.Trod enc Try.prog w 0 spare held 53 v d pl) :
    ∃ (q : Option Addr) (m cap : Nat) (l : List QueA), v = .slice q m cap ∧ Sv w q l ∧ m = l.length ∧ m ≤ cap ∧ cap ≤ 9223372036854775807 ∧ ∀ x ∈ l, x.Reads w := by
  obtain ⟨a, n, c, rfl⟩ := okWide_slice Try.underlying53 hv
  obtain ⟨fuel, hf⟩ := h
  obtain ⟨p, m, cap, l, he, hs, hn, hle, hmx, hg⟩ := trod_sv (α := QueA) Try.underlying53 cQue (fun _ _ _ h => queA_open h) hf
  have : a = p ∧ n = m ∧ c = cap := by simpa [Value.cells] using he
  obtain ⟨rfl, rfl, rfl⟩ := this
  exact ⟨a, n, c, l, rfl, hs, hn, hle, hmx, hg⟩
set_option maxRecDepth 100000 in
theorem runners_open {v : Value} {d : DataW H} {pl : List MemPlace} (hv : Value.okWide Try.prog w .any base 22 v) (h : DataW.Trod enc Try.prog w 0 spare held 22 v d pl) :
    ∃ (q : Option Addr) (m cap : Nat) (l : List Rn), v = .slice q m cap ∧ Sv w q l ∧ m = l.length ∧ m ≤ cap ∧ cap ≤ 9223372036854775807 ∧ ∀ r ∈ l, r.U := by
  obtain ⟨a, n, c, rfl⟩ := okWide_slice Try.underlying22 hv
  obtain ⟨fuel, hf⟩ := h
  obtain ⟨p, m, cap, l, he, hs, hn, hle, hmx, hg⟩ := trod_sv (α := Rn) (Good := fun r => r.U) Try.underlying22 cRun (fun _ _ _ h => rn_open h) hf
  have : a = p ∧ n = m ∧ c = cap := by simpa [Value.cells] using he
  obtain ⟨rfl, rfl, rfl⟩ := this
  exact ⟨a, n, c, l, rfl, hs, hn, hle, hmx, hg⟩
end
end Go.Proofs.Ytnhkecfapohlgaa
