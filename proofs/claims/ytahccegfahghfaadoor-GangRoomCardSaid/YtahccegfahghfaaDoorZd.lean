/- Texts of this proof, one behind the other. -/
import Derived.Test.YtahccegfahghfaaDoorZc
import Derived.Test.YtahccegfahghfaaDoorZb
import Derived.Test.YtahccegfahghfaaDoorZa
import Derived.ProofKit
import Derived.Carry
import Derived.Deep.Slices
import Derived.Lib.SmallJoins
import Derived.Test.YtahccegfahghfaaDoorRows
import Derived.LaidMore
import Derived.OpenShut
import Derived.Stop.Joined
/-! Gangs: Form. -/
namespace Go.Proofs.YtahccegfahghfaaDoor
open Go Go.RowKit
theorem perm3 {A B C : List Ob} : (A ++ (B ++ C)).Perm (B ++ (A ++ C)) := by rw [← List.append_assoc, ← List.append_assoc]; exact List.perm_append_comm.append_right _
theorem form_in {w0 w : World} {b m i : Ob} {Y Yi O R : List Ob} (h : Hs w0 (b :: (Y ++ (Yi ++ ((m :: i :: O) ++ R)))) w) : Hs w0 (b :: m :: i :: (Y ++ (Yi ++ (O ++ R)))) w := by
  refine h.perm (.cons _ ?_)
  rw [show Y ++ (Yi ++ ((m :: i :: O) ++ R)) = (Y ++ Yi) ++ ([m, i] ++ (O ++ R)) from by simp, show m :: i :: (Y ++ (Yi ++ (O ++ R))) = [m, i] ++ ((Y ++ Yi) ++ (O ++ R)) from by simp]
  exact perm3
theorem form_out {w0 w : World} {b m i : Ob} {Y Yi O R : List Ob} (h : Hs w0 (b :: m :: i :: (Y ++ (Yi ++ (O ++ R)))) w) : Hs w0 (b :: (Y ++ (Yi ++ ((m :: i :: O) ++ R)))) w := by
  refine h.perm (.cons _ ?_)
  rw [show Y ++ (Yi ++ ((m :: i :: O) ++ R)) = (Y ++ Yi) ++ ([m, i] ++ (O ++ R)) from by simp, show m :: i :: (Y ++ (Yi ++ (O ++ R))) = [m, i] ++ ((Y ++ Yi) ++ (O ++ R)) from by simp]
  exact perm3
theorem form_out2 {w0 w : World} {Y Yi X : List Ob} (h : Hs w0 (Y ++ (Yi ++ X)) w) : Hs w0 (X ++ (Y ++ (Yi ++ []))) w := by
  refine h.perm ?_
  rw [List.append_nil, ← List.append_assoc]
  exact List.perm_append_comm
theorem form_post {gs : Gs} {l : List Int} {er : Int} {bl : List GngA} {X : List Ob} {f : Int → List Ob} (h : (gangB gs = false ∧ er = 240 ∧ bl = [] ∧ X = f 0) ∨ (gangB gs = true ∧ er ≠ 0 ∧ bl = [] ∧ ∃ g2 : Gs, ∃ idn, (g2, idn, er) = formC gs l ∧ X = f idn) ∨ (gangB gs = true ∧ er = 0 ∧ ∃ idn, (bl.map GngA.val, idn, (0 : Int)) = formC gs l ∧ X = f idn)) : ∃ idn, X = f idn ∧ (bl.map GngA.val, idn, er) = formV gs l := by
  rcases h with ⟨h, rfl, rfl, rfl⟩ | ⟨h, h2, rfl, g2, idn, h3, rfl⟩ | ⟨h, rfl, idn, h3, rfl⟩
  · exact ⟨0, rfl, by rw [formV, if_pos h]; rfl⟩
  · exact ⟨idn, rfl, by rw [formV, if_neg (by rw [h]; decide), ← h3, if_neg h2]; rfl⟩
  · exact ⟨idn, rfl, by rw [formV, if_neg (by rw [h]; decide), ← h3, if_pos rfl]⟩

set_option maxRecDepth 100000 in
theorem form_t (q : Option Addr) (m capq : Nat) (al : List GngA) (p : Option Addr) (n cap : Nat) (l : List Int) (w : World)
    (hal : Sv w q al) (hma : m = al.length) (hbm : m ≤ 1000) (hnm : ∀ x ∈ al, x.Reads w) (hm9 : ∀ x ∈ al, x.n ≤ 1000)
    (hsl : Sv w p l) (hn : n = l.length) (hb : n ≤ 1000)
    : Calls Tryd.prog 13 #[.agg #[.slice q m capq], .slice p n cap] w fun e w' => ∃ er q' n' c' Y Yi bl idn, e = .returned (.tuple #[.agg #[.slice q' n' c'], .int .i64 idn, .int .i64 er]) ∧ (bl.map GngA.val, idn, er) = formV (al.map GngA.val) l ∧ SlO 62 Y q' n' c' bl ∧ GotG 3 Yi bl ∧ Below w.heap.size w w' ∧ Hs w (Y ++ Yi) w' := by
  refine enter (Hs.start w) Tryd.func13 rfl Tryd.ntmps13 rfl (sq_ (ma0 [] [] (fun γ1 => [(2, .pointer (some ⟨γ1 0, 0, none⟩)), (3, .pointer (some ⟨γ1 1, 0, none⟩)), (4, .pointer (some ⟨γ1 2, 0, none⟩))]) (fun γ1 L => bx (γ1 2) (#[.slice none 0 0]) 36 :: bx (γ1 1) (#[.slice p n cap]) 27 :: bx (γ1 0) (#[.slice q m capq]) 36 :: L) (fun γ1 => ds_ (sq_ (ma0 [(1, .go (owns 0 0 1))] [2, 3, 4] (fun γ2 => [(7, .pointer (some ⟨γ2 0, 0, none⟩))]) (fun γ2 L => bx (γ2 0) (#[.int .i64 0]) 3 :: L) (fun γ2 => ds_ (sq_ (ao_ (qo0 2 [(0, .go (owns 3 0 1))] [4, 7] [(11, .agg #[.slice q m capq]), (12, .func (.func 26) #[] #[.pointer (some ⟨γ1 1, 0, none⟩), .pointer (some ⟨γ2 0, 0, none⟩)])] (Ops.pick [[bx (γ2 0) (#[.int .i64 0]) 3], [bx (γ1 2) (#[.slice none 0 0]) 36], [bx (γ1 1) (#[.slice p n cap]) 27], [bx (γ1 0) (#[.slice q m capq]) 36]] [2, 0, 1, 3] [] ([bx (γ1 1) (#[.slice p n cap]) 27, bx (γ2 0) (#[.int .i64 0]) 3, bx (γ1 2) (#[.slice none 0 0]) 36, bx (γ1 0) (#[.slice q m capq]) 36]) (by kernel_rfl) rfl rfl (cP (fun v L' => ∃ er q_ n_ c_ Y_ Z_ bl_ idn, v = .tuple #[.agg #[.slice q_ n_ c_], .int .i64 er] ∧ L' = (fun idn => [bx (γ1 1) (#[.slice p n cap]) 27, bx (γ2 0) (#[.int .i64 idn]) 3, bx (γ1 2) (#[.slice none 0 0]) 36, bx (γ1 0) (#[.slice q m capq]) 36]) idn ++ (Y_ ++ (Z_ ++ [])) ∧ SlO 62 Y_ q_ n_ c_ bl_ ∧ GotG 3 Z_ bl_ ∧ (bl_.map GngA.val, idn, er) = formV (al.map GngA.val) l) (fun args w => Tryd.call25 args w) (fun w hw => (with_t _ [bx (γ1 1) (#[.slice p n cap]) 27, bx (γ2 0) (#[.int .i64 0]) 3, bx (γ1 2) (#[.slice none 0 0]) 36, bx (γ1 0) (#[.slice q m capq]) 36] 26 #[.pointer (some ⟨γ1 1, 0, none⟩), .pointer (some ⟨γ2 0, 0, none⟩)] (fun er gs X2 => ∃ idn, (gs, idn, er) = formC (al.map GngA.val) l ∧ X2 = (fun idn => [bx (γ1 1) (#[.slice p n cap]) 27, bx (γ2 0) (#[.int .i64 idn]) 3, bx (γ1 2) (#[.slice none 0 0]) 36, bx (γ1 0) (#[.slice q m capq]) 36]) idn) q m capq al w (fun args w => Tryd.call26 args w) hw hal hma hbm hnm hm9 (fun hgd gb q' c' Y Yi R bl w' hO hG hV hX => (form1_t _ Y Yi ([bx (γ1 2) (#[.slice none 0 0]) 36, bx (γ1 0) (#[.slice q m capq]) 36] ++ R) gb (γ1 1) (γ2 0) q' m c' bl p n cap l w' hsl hn hb hbm hO hG (by rw [hV]; exact hgd) (form_in (O := [bx (γ1 2) (#[.slice none 0 0]) 36, bx (γ1 0) (#[.slice q m capq]) 36]) hX)).mono fun e w'' ⟨er, q2, n2, c2, Y2, Yi2, bl2, idn, he, h1, h2, h3, h4⟩ => ⟨er, q2, n2, c2, Y2, Yi2, bl2, _, he, ⟨idn, by rw [← hV]; exact h1, rfl⟩, h2, h3, form_out (O := [bx (γ1 2) (#[.slice none 0 0]) 36, bx (γ1 0) (#[.slice q m capq]) 36]) h4⟩)).mono fun e w' ⟨er, q_, n_, c_, Y_, Z_, bl_, X_, he, h1, h2, hX, h3⟩ => by obtain ⟨idn, hx, hv⟩ := form_post (f := (fun idn => [bx (γ1 1) (#[.slice p n cap]) 27, bx (γ2 0) (#[.int .i64 idn]) 3, bx (γ1 2) (#[.slice none 0 0]) 36, bx (γ1 0) (#[.slice q m capq]) 36])) h3; subst hx; exact ⟨_, _, he, ⟨er, q_, n_, c_, Y_, Z_, bl_, idn, rfl, rfl, h1, h2, hv⟩, form_out2 hX⟩) ?_)))))))))))
  rintro v4 L4 ⟨er4, q4, n4, c4, Y4, Yz4, bl4, id4, rfl, rfl, hO4, hG4, hV4⟩
  refine mo0 6 [(7, .go (owns 0 0 1))] [4, 7] (fun γ5 => [(8, .pointer (some ⟨γ5 0, 0, none⟩)), (9, .int .i64 er4)]) (fun γ5 L => bx (γ5 0) (#[.slice q4 n4 c4]) 36 :: L) (fun γ5 => on_ (ds_ (sq_ ?_)))
  refine at_any (by kernel_rfl) ?_
  refine tk (m := 5) [2] [] [4, 7, 8] [(18, .int .i64 er4)] ([]) #[false, false, true, false, false, false] al0 ?_
  refine any_cutX (V := Unit) (fun _ => True) 0 #[true, true, true, true, true, true] (fun _ => [(4, .pointer (some ⟨γ1 2, 0, none⟩)), (5, .int .i64 id4), (6, .int .i64 er4)]) (fun _ => bx (γ5 0) (#[.slice q4 n4 c4]) 36 :: bx (γ1 1) (#[.slice p n cap]) 27 :: bx (γ2 0) (#[.int .i64 id4]) 3 :: bx (γ1 2) (#[.slice q4 n4 c4]) 36 :: bx (γ1 0) (#[.slice q m capq]) 36 :: (Y4 ++ (Yz4 ++ []))) ?_ (fun hmx5 => ?_)
  rotate_left
  ·
    refine any_cutX (V := Unit) (fun _ => True) 3 #[true, false, true, true, false, false] (fun _ => [(4, .pointer (some ⟨γ1 2, 0, none⟩)), (7, .pointer (some ⟨γ2 0, 0, none⟩)), (18, .int .i64 er4)]) (fun _ => bx (γ5 0) (#[.slice q4 n4 c4]) 36 :: bx (γ1 1) (#[.slice p n cap]) 27 :: bx (γ2 0) (#[.int .i64 id4]) 3 :: bx (γ1 2) (#[.slice q4 n4 c4]) 36 :: bx (γ1 0) (#[.slice q m capq]) 36 :: (Y4 ++ (Yz4 ++ []))) ?_ (fun hmx4 => ?_)
    ·
      rintro _ _
      refine a1 1 rfl ?_
      refine qo0 1 [(1, .go (owns 2 0 1))] [4, 18] [(17, .int .i64 id4)] ?_
      refine od_ ?_
      refine tk (m := 0) [4, 5] [] [4] [(5, .int .i64 id4), (6, .int .i64 er4)] ([]) #[true, true, true, true, true, true] al0 ?_
      exact wk (hmx5 () trivial) [4, 5, 6] [[_], [_], [_], [_], [_], _, _] [0, 1, 2, 3, 4, 5, 6] rfl rfl
    refine any_cutX (V := Unit) (fun _ => True) 3 #[true, true, true, false, false, false] (fun _ => [(4, .pointer (some ⟨γ1 2, 0, none⟩)), (16, .agg #[.slice q4 n4 c4]), (17, .int .i64 id4), (18, .int .i64 er4)]) (fun _ => bx (γ5 0) (#[.slice q4 n4 c4]) 36 :: bx (γ1 1) (#[.slice p n cap]) 27 :: bx (γ2 0) (#[.int .i64 id4]) 3 :: bx (γ1 2) (#[.slice none 0 0]) 36 :: bx (γ1 0) (#[.slice q m capq]) 36 :: (Y4 ++ (Yz4 ++ []))) ?_ (fun hmx3 => ?_)
    ·
      rintro _ _
      refine a1 3 rfl ?_
      refine mo0 1 [(3, .go (owns 3 0 1))] [4, 17, 18] (fun _ => []) (fun _ L => (L.set 3 (bx (γ1 2) (#[.slice q4 n4 c4]) 36))) (fun _ => ?_)
      refine od_ ?_
      refine tk (m := 0) [4, 5] [] [4] [(5, .int .i64 id4), (6, .int .i64 er4)] ([]) #[true, true, true, true, true, true] al0 ?_
      exact wk (hmx5 () trivial) [4, 5, 6] [[_], [_], [_], [_], [_], _, _] [0, 1, 2, 3, 4, 5, 6] rfl rfl
    refine any_cutX (V := Unit) (fun _ => True) 4 #[false, true, true, false, false, false] (fun _ => [(4, .pointer (some ⟨γ1 2, 0, none⟩)), (8, .pointer (some ⟨γ5 0, 0, none⟩)), (17, .int .i64 id4), (18, .int .i64 er4)]) (fun _ => bx (γ5 0) (#[.slice q4 n4 c4]) 36 :: bx (γ1 1) (#[.slice p n cap]) 27 :: bx (γ2 0) (#[.int .i64 id4]) 3 :: bx (γ1 2) (#[.slice none 0 0]) 36 :: bx (γ1 0) (#[.slice q m capq]) 36 :: (Y4 ++ (Yz4 ++ []))) ?_ (fun hmx2 => ?_)
    ·
      rintro _ _
      refine a1 0 rfl ?_
      refine qo0 1 [(0, .go (owns 0 0 1))] [4, 17, 18] [(16, .agg #[.slice q4 n4 c4])] ?_
      refine od_ ?_
      exact wk (hmx3 () trivial) [4, 16, 17, 18] [[_], [_], [_], [_], [_], _, _] [0, 1, 2, 3, 4, 5, 6] rfl rfl
    refine any_cutX (V := Unit) (fun _ => True) 4 #[true, false, true, false, false, false] (fun _ => [(4, .pointer (some ⟨γ1 2, 0, none⟩)), (7, .pointer (some ⟨γ2 0, 0, none⟩)), (16, .agg #[.slice q4 n4 c4]), (18, .int .i64 er4)]) (fun _ => bx (γ5 0) (#[.slice q4 n4 c4]) 36 :: bx (γ1 1) (#[.slice p n cap]) 27 :: bx (γ2 0) (#[.int .i64 id4]) 3 :: bx (γ1 2) (#[.slice none 0 0]) 36 :: bx (γ1 0) (#[.slice q m capq]) 36 :: (Y4 ++ (Yz4 ++ []))) ?_ (fun hmx1 => ?_)
    ·
      rintro _ _
      refine any_fork [1, 3] (by kernel_rfl) (by simp) (each_cons _ rfl ?_ (each_cons _ rfl ?_ (each_nil)))
      ·
        refine qo0 1 [(1, .go (owns 2 0 1))] [4, 16, 18] [(17, .int .i64 id4)] ?_
        refine od_ ?_
        exact wk (hmx3 () trivial) [4, 16, 17, 18] [[_], [_], [_], [_], [_], _, _] [0, 1, 2, 3, 4, 5, 6] rfl rfl
      ·
        refine mo0 1 [(3, .go (owns 3 0 1))] [4, 7, 18] (fun _ => []) (fun _ L => (L.set 3 (bx (γ1 2) (#[.slice q4 n4 c4]) 36))) (fun _ => ?_)
        refine od_ ?_
        exact wk (hmx4 () trivial) [4, 7, 18] [[_], [_], [_], [_], [_], _, _] [0, 1, 2, 3, 4, 5, 6] rfl rfl
    refine any_fork [0, 1] (by kernel_rfl) (by simp) (each_cons _ rfl ?_ (each_cons _ rfl ?_ (each_nil)))
    ·
      refine qo0 1 [(0, .go (owns 0 0 1))] [4, 7, 18] [(16, .agg #[.slice q4 n4 c4])] ?_
      refine od_ ?_
      exact wk (hmx1 () trivial) [4, 7, 16, 18] [[_], [_], [_], [_], [_], _, _] [0, 1, 2, 3, 4, 5, 6] rfl rfl
    ·
      refine qo0 1 [(1, .go (owns 2 0 1))] [4, 8, 18] [(17, .int .i64 id4)] ?_
      refine od_ ?_
      exact wk (hmx2 () trivial) [4, 8, 17, 18] [[_], [_], [_], [_], [_], _, _] [0, 1, 2, 3, 4, 5, 6] rfl rfl
  rintro _ _
  refine any_nil (by kernel_rfl) ?_
  refine ds_ (rt (owns 3 0 1) (.tuple #[.agg #[.slice q4 n4 c4], .int .i64 id4, .int .i64 er4]) ?_)
  exact fun w' hw => ⟨_, _, _, _, _, _, _, _, rfl, hV4, hO4, hG4, hw.below, two_tails14 (Hs.pick [[bx (γ5 0) (#[.slice q4 n4 c4]) 36], [bx (γ1 1) (#[.slice p n cap]) 27], [bx (γ2 0) (#[.int .i64 id4]) 3], [bx (γ1 2) (#[.slice q4 n4 c4]) 36], [bx (γ1 0) (#[.slice q m capq]) 36], Y4, Yz4] [5, 6] [0, 1, 2, 3, 4] (by kernel_rfl) hw)⟩
end Go.Proofs.YtahccegfahghfaaDoor

/-! The layer does something. -/
namespace Go.Proofs.YtahccegfahghfaaDoor
open Go Go.RowKit
theorem bool_eqRun (op : BinOp) (hop : op = .eql ∨ op = .neq) (x y : Operand) (a b r : Bool) (hr : r = (if op = .eql then a == b else !(a == b))) : EqRun Tryd.prog op 4 x y (.bool a) (.bool b) r := by
 intro w
 subst hr
 have hg : Tryd.prog.eqGuardType Tryd.prog.depth 4 = false := by kernel_rfl
 have key : (Op.equal 4 (.bool a) (.bool b)).run Tryd.prog w = .ok (a == b) w := by
  unfold Op.equal
  rw [show Op.maxDepth = 9999 + 1 from rfl]
  exact run_equalIn_bool' w 9999 4 a b Tryd.underlying4
 have guard : (eqGuard op 4 x y (.bool a) (.bool b)).run Tryd.prog w = .ok () w := by
  unfold eqGuard
  rcases hop with rfl | rfl <;> simp [hg]
 rw [Sem.run_bind, guard]
 simp only [Result.andThen_ok]
 rcases hop with rfl | rfl <;> simp [binOp, Sem.run_bind, key]
theorem bool_same {x y : Operand} (a : Bool) : EqRun Tryd.prog .neq 4 x y (.bool a) (.bool a) false := bool_eqRun _ (.inr rfl) x y a a _ (by simp)
theorem hs_re {w0 w : World} {A Y Z B : List Ob} (h : Hs w0 (A ++ ((Y ++ Z) ++ B)) w) : Hs w0 (A ++ (Y ++ (Z ++ B))) w := by rwa [← List.append_assoc Y Z B]

set_option maxRecDepth 100000 in
theorem wakes_t  (w : World)
 : Calls Tryd.prog 5 #[] w fun e w' => e = .returned (.bool true) ∧ Below w.heap.size w w' := by
 refine enter (Hs.start w) Tryd.func5 rfl Tryd.ntmps5 rfl (sq_ (qa0 [] [] [] (ds_ (sq_ (ao_ (mo0 2 [] [] (fun γ2 => [(10, .agg #[.slice none 0 0]), (11, .slice (some ⟨γ2 0, 0, none⟩) 2 2)]) (fun γ2 L => bx (γ2 0) (#[.int .i64 1, .int .i64 3]) 3 :: L) (fun γ2 => cP (fun v L' => ∃ q_ n_ c_ Y_ Z_ bl_, v = .tuple #[.agg #[.slice q_ n_ c_], .int .i64 1, .int .i64 0] ∧ L' = List.take 1 ([bx (γ2 0) (#[.int .i64 1, .int .i64 3]) 3]) ++ (Y_ ++ (Z_ ++ List.drop 1 ([bx (γ2 0) (#[.int .i64 1, .int .i64 3]) 3]))) ∧ SlO 62 Y_ q_ n_ c_ bl_ ∧ GotG 3 Z_ bl_ ∧ bl_.map GngA.val = [(1, [1, 3])]) (fun args w => Tryd.call13 args w) (fun w hw => (form_t none 0 0 [] (some ⟨γ2 0, 0, none⟩) 2 2 [1, 3] w Sv.nil rfl (by decide) (fun x hx => nomatch hx) (fun x hx => nomatch hx) (sv_row (hw.row 0 rfl) rfl) rfl (by decide)).mono fun e w' ⟨er, q_, n_, c_, Y_, Z_, bl_, idn, he, hv, hO, hG, hb, hY⟩ => by have hq := hv.trans (show _ = ([(1, [1, 3])], (1 : Int), (0 : Int)) from by kernel_rfl); simp only [Prod.mk.injEq] at hq; obtain ⟨hq1, rfl, rfl⟩ := hq; exact ⟨_, _, he, ⟨q_, n_, c_, Y_, Z_, bl_, rfl, rfl, hO, hG, hq1⟩, hs_re (hw.join hb hY 1)⟩) ?_)))))))
 rintro v3 L3 ⟨q3, n3, c3, Y3, Yz3, bl3, rfl, rfl, hO3, hG3, hV3⟩
 have hbl3 : bl3.length = 1 := by have := congrArg List.length hV3; simpa using this
 refine mo0 8 [(8, .go (owns 0 0 1))] [] (fun γ4 => [(1, .pointer (some ⟨γ4 0, 0, none⟩)), (2, .int .i64 1), (3, .int .i64 0)]) (fun γ4 L => bx (γ4 0) (#[.slice q3 n3 c3]) 36 :: L) (fun γ4 => on_ (ds_ (sq_ (ao_ (mo0 2 [(0, .go (owns 0 0 1))] [2, 3] (fun γ5 => [(17, .agg #[.slice q3 n3 c3]), (18, .slice (some ⟨γ5 0, 0, none⟩) 2 2)]) (fun γ5 L => bx (γ5 0) (#[.int .i64 3, .int .i64 4]) 3 :: L) (fun γ5 => cP (fun v L' => ∃ q_ n_ c_ Y_ Z_ bl_, v = .tuple #[.agg #[.slice q_ n_ c_], .int .i64 0, .int .i64 5] ∧ L' = List.take 3 (bx (γ5 0) (#[.int .i64 3, .int .i64 4]) 3 :: bx (γ4 0) (#[.slice q3 n3 c3]) 36 :: bx (γ2 0) (#[.int .i64 1, .int .i64 3]) 3 :: (Y3 ++ (Yz3 ++ []))) ++ (Y_ ++ (Z_ ++ List.drop 3 (bx (γ5 0) (#[.int .i64 3, .int .i64 4]) 3 :: bx (γ4 0) (#[.slice q3 n3 c3]) 36 :: bx (γ2 0) (#[.int .i64 1, .int .i64 3]) 3 :: (Y3 ++ (Yz3 ++ []))))) ∧ SlO 62 Y_ q_ n_ c_ bl_ ∧ GotG 3 Z_ bl_ ∧ bl_.map GngA.val = []) (fun args w => Tryd.call13 args w) (fun w hw => (form_t q3 n3 c3 bl3 (some ⟨γ5 0, 0, none⟩) 2 2 [3, 4] w (SlO.sub hO3 hw (List.Sublist.cons _ (List.Sublist.cons _ (List.Sublist.cons _ (List.sublist_append_left Y3 _))))) hO3.len (by have := hO3.len; omega) (GotG.reads hG3 hw (List.Sublist.cons _ (List.Sublist.cons _ (List.Sublist.cons _ (List.Sublist.trans (List.sublist_append_left Yz3 _) (List.sublist_append_right Y3 _)))))) (got_small hG3 (by rw [hV3]; kernel_rfl)) (sv_row (hw.row 0 rfl) rfl) rfl (by decide)).mono fun e w' ⟨er, q_, n_, c_, Y_, Z_, bl_, idn, he, hv, hO, hG, hb, hY⟩ => by have hq := hv.trans (show _ = ([], (0 : Int), (5 : Int)) from by rw [hV3]; kernel_rfl); simp only [Prod.mk.injEq] at hq; obtain ⟨hq1, rfl, rfl⟩ := hq; exact ⟨_, _, he, ⟨q_, n_, c_, Y_, Z_, bl_, rfl, rfl, hO, hG, hq1⟩, hs_re (hw.join hb hY 3)⟩) ?_))))))
 rintro v6 L6 ⟨q6, n6, c6, Y6, Yz6, bl6, rfl, rfl, hO6, hG6, hV6⟩
 have hbl6 : bl6.length = 0 := by have := congrArg List.length hV6; simpa using this
 refine mo0 8 [(8, .go (owns 0 0 1))] [2, 3] (fun γ7 => [(6, .int .i64 5)]) (fun γ7 L => bx (γ7 0) (#[.slice q6 n6 c6]) 36 :: L) (fun γ7 => on_ (ds_ (sq_ (ao_ (mo0 3 [] [2, 3, 6] (fun γ8 => [(26, .slice (some ⟨γ8 2, 0, none⟩) 2 2)]) (fun γ8 L => bx (γ8 2) (#[.slice (some ⟨γ8 0, 0, none⟩) 2 2, .slice (some ⟨γ8 1, 0, none⟩) 1 1]) 27 :: bx (γ8 1) (#[.int .i64 0]) 3 :: bx (γ8 0) (#[.int .i64 0, .int .i64 1]) 3 :: L) (fun γ8 => cP (fun v L' => ∃ q_ c_ Y_, v = .tuple #[.slice q_ 2 c_, .bool true] ∧ L' = List.take 7 (bx (γ8 2) (#[.slice (some ⟨γ8 0, 0, none⟩) 2 2, .slice (some ⟨γ8 1, 0, none⟩) 1 1]) 27 :: bx (γ8 1) (#[.int .i64 0]) 3 :: bx (γ8 0) (#[.int .i64 0, .int .i64 1]) 3 :: bx (γ7 0) (#[.slice q6 n6 c6]) 36 :: bx (γ5 0) (#[.int .i64 3, .int .i64 4]) 3 :: bx (γ4 0) (#[.slice q3 n3 c3]) 36 :: bx (γ2 0) (#[.int .i64 1, .int .i64 3]) 3 :: (Y6 ++ (Yz6 ++ (Y3 ++ (Yz3 ++ []))))) ++ (Y_ ++ List.drop 7 (bx (γ8 2) (#[.slice (some ⟨γ8 0, 0, none⟩) 2 2, .slice (some ⟨γ8 1, 0, none⟩) 1 1]) 27 :: bx (γ8 1) (#[.int .i64 0]) 3 :: bx (γ8 0) (#[.int .i64 0, .int .i64 1]) 3 :: bx (γ7 0) (#[.slice q6 n6 c6]) 36 :: bx (γ5 0) (#[.int .i64 3, .int .i64 4]) 3 :: bx (γ4 0) (#[.slice q3 n3 c3]) 36 :: bx (γ2 0) (#[.int .i64 1, .int .i64 3]) 3 :: (Y6 ++ (Yz6 ++ (Y3 ++ (Yz3 ++ [])))))) ∧ SlO 3 Y_ q_ 2 c_ ([1, 0] : List Int)) (fun args w => Tryd.call14 args w) (fun w hw => (match_t (some ⟨γ8 2, 0, none⟩) 2 2 ([(⟨(some ⟨γ8 0, 0, none⟩), 2, 2, [0, 1]⟩ : IntsA), (⟨(some ⟨γ8 1, 0, none⟩), 1, 1, [0]⟩ : IntsA)]) w (sv_row (hw.row 0 rfl) rfl) rfl (by decide) (fun x hx => by simp only [List.mem_cons, List.not_mem_nil, or_false] at hx; rcases hx with rfl | rfl; exact ⟨sv_row (hw.row 2 rfl) rfl, rfl, Nat.le_refl _, (by simp)⟩; exact ⟨sv_row (hw.row 1 rfl) rfl, rfl, Nat.le_refl _, (by simp)⟩) (fun x hx => by simp only [List.mem_cons, List.not_mem_nil, or_false] at hx; rcases hx with rfl | rfl <;> simp)).mono fun e w' ⟨q_, n_, c_, Y_, he, hO, hb, hY⟩ => by rw [show matchA _ = (([1, 0] : List Int), true) from (by kernel_rfl)] at he hO; obtain rfl : n_ = 2 := hO.len; exact ⟨_, _, he, ⟨q_, c_, Y_, rfl, rfl, hO⟩, hw.join hb hY 7⟩) ?_))))))
 rintro v9 L9 ⟨q9, c9, Y9, rfl, rfl, hO9⟩
 refine qo0 5 [] [2, 3, 6] [(7, .slice q9 2 c9), (8, .bool true)] (on_ (ds_ (sq_ ?_)))
 have hln12 := hO9.len
 obtain ⟨g12, cs12, rfl, rfl, hOw12⟩ := hO9.rowOf (i := 0) (by omega)
 refine qa [(20, .at g12 0 0), (21, .go (ownps 7 (0 + 0 * 1) [.int .i64 1])), (26, .at g12 0 1), (27, .go (ownps 7 (0 + 1 * 1) [.int .i64 0]))] [] [(0, .bool true)] ([(some ⟨g12, 0, none⟩ : Option Addr) = some ⟨g12, 0, none⟩, 0 = ((0 : Nat) : Int), 0 < 2] ++ (acellsP cs12 (0 + 0 * 1) [.int .i64 1] ++ ([(some ⟨g12, 0, none⟩ : Option Addr) = some ⟨g12, 0, none⟩, 1 = ((1 : Nat) : Int), 1 < 2] ++ (acellsP cs12 (0 + 1 * 1) [.int .i64 0])))) (alA (al2 rfl (al2 rfl (al1 (by omega)))) (alA (rda_pre (hOw12.rdx hO9.len rfl) _ rfl) (alA (al2 rfl (al2 rfl (al1 (by omega)))) (rda_pre (hOw12.rdx hO9.len rfl) _ rfl)))) (ds_ (rt ([]) (.bool true) ?_))
 exact fun w' hw => ⟨rfl, hw.below⟩
end Go.Proofs.YtahccegfahghfaaDoor

/-! Whether sets have a match. -/
namespace Go.Proofs.YtahccegfahghfaaDoor
open Go Go.RowKit
theorem sets_add {rl : List IntsA} {al : List CpuA} {x : CpuA} {y : IntsA} {j : Nat} (hB : rl.map IntsA.l = ((al.take j).map CpuA.s).map listI) (hx : al[j]? = some x) (hy : y.l = listI x.s) : (rl ++ [y]).map IntsA.l = ((al.take (j + 1)).map CpuA.s).map listI := by
 rw [take_one hx, List.map_append, List.map_append, List.map_append, hB, List.map_cons, List.map_nil, hy]; rfl
/-- Whether sets have a match. -/
def mayM (ms : List Int) : Bool := rightM ms && matchV (ms.map listI)
theorem may_bad {ms : List Int} (h : rightM ms = false) : mayM ms = false := by unfold mayM; rw [h]; rfl
theorem may_ok {ms : List Int} (h : rightM ms = true) : mayM ms = matchV (ms.map listI) := by unfold mayM; rw [h]; rfl
theorem got_small14 {T : TypeId} {Yi : List Ob} {rl : List IntsA} {ms : List Int} (hG : GotR T Yi rl) (hB : rl.map IntsA.l = ms.map listI) : ∀ y ∈ rl, y.n ≤ 1000 := fun y hy => by
 obtain ⟨_, _, hz⟩ := GotR.own hG hy
 have h1 : y.l ∈ ms.map listI := by rw [← hB]; exact List.mem_map_of_mem hy
 obtain ⟨s, _, hs⟩ := List.mem_map.1 h1
 have h2 := li_len (x := s)
 have h3 := hz.facts.1
 rw [hs] at h2; omega
theorem cpu_nn {al : List CpuA} (hgd : ∀ x ∈ al, x.Good) : ∀ s ∈ al.map CpuA.s, 0 ≤ s := fun s hs => by obtain ⟨x, hx, rfl⟩ := List.mem_map.1 hs; exact (hgd x hx).1

set_option maxRecDepth 100000 in
theorem lists_t (q : Option Addr) (m capq : Nat) (al : List CpuA) (w : World)
 (hal : Sv w q al) (hma : m = al.length) (hbm : m ≤ 1000) (hgd : ∀ x ∈ al, x.Good)
 (hT : TabAt 0 Lib.deBruijn32tab w)
 : Calls Tryd.prog 15 #[.slice q m capq] w fun e w' => ∃ q' n' c' Y rl Yi, e = .returned (.tuple #[.slice q' n' c', .bool (rightM (al.map CpuA.s))]) ∧ SlO 27 Y q' n' c' rl ∧ GotR 3 Yi rl ∧ (rightM (al.map CpuA.s) = true → rl.map IntsA.l = (al.map CpuA.s).map listI) ∧ Below w.heap.size w w' ∧ Hs w (Y ++ Yi) w' := by
 refine enter (Hs.start w) Tryd.func15 rfl Tryd.ntmps15 rfl (sq_ (qa0 [] [0] [] (ds_ (sq_ (qa0 [] [0] [(4, .slice none 0 0)] (ds_ (sq_ (sq_ (qa0 [] [0, 4] [(7, .slice q m capq), (8, .int .i64 (m : Nat)), (9, .int .i64 0)] (ds_ (at_block (at_loop (α := Nat × List Ob × Option Addr × Nat × List IntsA × List Ob) [0, 4, 7, 8, 9] (fun ⟨j, Yo, po, co, rl, Yi⟩ => [(0, .slice q m capq), (4, .slice po j co), (7, .slice q m capq), (8, .int .i64 (m : Nat)), (9, .int .i64 (j : Nat))]) (fun ⟨j, Yo, po, co, rl, Yi⟩ => (Yo ++ (Yi ++ []))) (fun ⟨j, Yo, po, co, rl, Yi⟩ => j ≤ m ∧ (∀ y ∈ al.take j, y.s < 256) ∧ SlO 27 Yo po j co rl ∧ GotR 3 Yi rl ∧ rl.map IntsA.l = ((al.take j).map CpuA.s).map listI) (fun ⟨j, Yo, po, co, rl, Yi⟩ => m - j) (0, [], none, 0, [], []) (by kernel_rfl) rfl ⟨Nat.zero_le _, all_take0T, SlO.nil, GotR.nil, rfl⟩ ?_))))))))))))
 rintro ⟨j, Yo, po, co, rl, Yi⟩
 rintro ⟨hj, hI, hO, hG, hB⟩
 have hlb := hO.len
 refine sq_ ?_
 by_cases q5 : ((j : Nat) : Int) < ((m : Nat) : Int)
 ·
  refine qa [(0, .yes)] [0, 4, 7, 8, 9] [(10, .bool true)] ([((j : Nat) : Int) < ((m : Nat) : Int)]) (al1 q5) (ds_ (sq_ (t_ (at_skip (ds_ (sq_ (at_block (sq_ ?_))))))))
  obtain ⟨b8, o8, rfl⟩ := hal.pos (i := j) (by omega)
  obtain ⟨x10, hx10⟩ := get_some (l := al) (m := j) (by omega)
  have hgx10 := hgd x10 (List.mem_of_getElem? hx10)
  have hg0x10 : 0 ≤ x10.s := hgx10.1
  have hg1x10 : x10.s < 4294967296 := hgx10.2
  refine qa [(0, .at b8 o8 j), (1, .go (outs b8 (o8 + j * 1) [.int .u32 x10.s]))] [0, 4, 7, 8, 9] [(6, .int .u32 x10.s)] ([(some ⟨b8, o8, none⟩ : Option Addr) = some ⟨b8, o8, none⟩, (j : Nat) = ((j : Nat) : Int), j < m] ++ (cellsP w b8 (o8 + j * 1) [.int .u32 x10.s])) (alA (al2 rfl (al2 rfl (al1 (by omega)))) (rd_pre (hal.get hx10) _ rfl)) (ds_ (sq_ (sq_ (ao_ (qo0 1 [] [0, 4, 6, 7, 8, 9] [(13, .int .u32 x10.s)] ?_)))))
  rcases q13 : decide (x10.s < 256) with _ | _
  ·
   refine cD (.int .i64 140) (fun args w => Tryd.call36 args w) (fun w hw => by have := ccheck_t x10.s w hg0x10 hg1x10; rw [q13] at this; exact this) (qo0 1 [] [0, 4, 6, 7, 8, 9] [(15, .bool true)] (on_ (ds_ (t_ (sq_ (qa0 [] [] [(2, .slice none 0 0), (3, .bool false)] (ds_ (rt ([]) (.tuple #[.slice none 0 0, .bool false]) ?_))))))))
   have hrm := rm_bad (s_at hx10) (of_decide_eq_false q13)
   exact fun w' hw => ⟨none, 0, 0, [], [], [], by rw [hrm], SlO.nil, GotR.nil, fun h => absurd (hrm.symm.trans h) (by decide), hw.below, hw.sub (List.nil_sublist _)⟩
  ·
   refine cD (.int .i64 0) (fun args w => Tryd.call36 args w) (fun w hw => by have := ccheck_t x10.s w hg0x10 hg1x10; rw [q13] at this; exact this) (qo0 1 [] [0, 4, 6, 7, 8, 9] [(15, .bool false)] (on_ (ds_ (f_ (at_skip (ds_ (ao_ (qo0 2 [] [0, 7, 8, 9] [(16, .slice po j co), (17, .int .u32 x10.s)] (cP (fun v L' => ∃ q_ n_ c_ Y_, v = .slice q_ n_ c_ ∧ L' = List.take 0 ((Yo ++ (Yi ++ []))) ++ (Y_ ++ List.drop 0 ((Yo ++ (Yi ++ [])))) ∧ SlO 3 Y_ q_ n_ c_ (listI x10.s)) (fun args w => Tryd.call37 args w) (fun w hw => (list_t x10.s w hg0x10 (of_decide_eq_true q13) (tab_kept hT hw.below)).mono fun e w' ⟨q_, n_, c_, Y_, he, hO, hb, hY⟩ => ⟨_, _, he, ⟨q_, n_, c_, Y_, rfl, rfl, hO⟩, hw.join hb hY 0⟩) ?_)))))))))
   rintro v18 L18 ⟨q18, n18, c18, Y18, rfl, rfl, hO18⟩
   refine mo0 1 [] [0, 7, 8, 9, 16] (fun γ19 => [(19, .slice (some ⟨γ19 0, 0, none⟩) 1 1)]) (fun γ19 L => bx (γ19 0) (#[.slice q18 n18 c18]) 27 :: L) (fun γ19 => Ops.pick [[bx (γ19 0) (#[.slice q18 n18 c18]) 27], Y18, Yo, Yi] [0, 2, 1, 3] [] (bx (γ19 0) (#[.slice q18 n18 c18]) 27 :: (Yo ++ (Y18 ++ (Yi ++ [])))) (by kernel_rfl) rfl rfl (ops_append (α := IntsA) [bx (γ19 0) (#[.slice q18 n18 c18]) 27] Yo (Y18 ++ (Yi ++ [])) (.refl _) rfl (by kernel_rfl) (by kernel_rfl) (p := po) (n := j) (cap := co) (m := 1) (yv := .slice (some ⟨γ19 0, 0, none⟩) 1 1) (by kernel_rfl) (by kernel_rfl) (T := 27) (by_ := 24) (by kernel_rfl) rl ([(⟨q18, n18, c18, (listI x10.s)⟩ : IntsA)]) hO (fun w hw => src_svn Tryd.underlying42 (sv_row (hw.row 0 rfl) (by rfl)) (by rfl)) (by rfl) (by have hmx : maxLen = 9223372036854775807 := rfl; omega) (by have hmx : maxLen = 9223372036854775807 := rfl; omega) (fun Y20 p20 cap20 hO20 => qo0 1 [] [0, 7, 8, 9] [(4, .slice p20 (j + 1) cap20)] (on_ (done_block (ds_ (qa [(0, .fit)] [0, 4, 7, 8] [(9, .int .i64 (j + 1 : Nat))] ([Fit .i64 ((j + 1 : Nat))]) (al1 (fit64 (by omega) (by omega))) (Done.pick [[bx (γ19 0) (#[.slice q18 n18 c18]) 27], Y20, Y18, Yi] [1, 3, 2] [0] ((Y20 ++ (Yi ++ (Y18 ++ [])))) (by kernel_rfl) rfl rfl (Done.as (L' := (Y20 ++ ((Yi ++ Y18) ++ []))) (by simp only [List.append_assoc]) ?_)))))))))
   exact dr [0, 4, 7, 8, 9] (j + 1, Y20, p20, cap20, (rl ++ [(⟨q18, n18, c18, (listI x10.s)⟩ : IntsA)]), Yi ++ Y18) ⟨by omega, all_onT hI hx10 (of_decide_eq_true q13), hO20, GotR.snoc hG hO18, sets_add hB hx10 rfl⟩
 ·
  refine qa [(0, .no)] [0, 4, 7, 8, 9] [(10, .bool false)] ([¬ (((j : Nat) : Int) < ((m : Nat) : Int))]) (al1 q5) (ds_ (sq_ (f_ (at_leave _ rfl (ds_ (sq_ ?_))))))
  by_cases q25 : ((m : Nat) : Int) ≤ (8 : Int)
  ·
   refine qa [(3, .yes)] [] [(2, .slice po j co), (3, .bool true)] ([((m : Nat) : Int) ≤ (8 : Int)]) (al1 q25) (ds_ (rt ([]) (.tuple #[.slice po j co, .bool true]) ?_))
   exact fun w' hw => ⟨_, _, _, _, _, _, by rw [rm_end hI (by omega), decide_eq_true (by omega)], hO, hG, fun _ => by rw [hB, List.take_of_length_le (by omega)], hw.below, two_tails14 (Hs.pick [Yo, Yi] [0, 1] [] (by kernel_rfl) hw)⟩
  ·
   refine qa [(3, .no)] [] [(2, .slice po j co), (3, .bool false)] ([¬ (((m : Nat) : Int) ≤ (8 : Int))]) (al1 q25) (ds_ (rt ([]) (.tuple #[.slice po j co, .bool false]) ?_))
   exact fun w' hw => ⟨_, _, _, _, _, _, by rw [rm_end hI (by omega), decide_eq_false (by omega)], hO, hG, fun _ => by rw [hB, List.take_of_length_le (by omega)], hw.below, two_tails14 (Hs.pick [Yo, Yi] [0, 1] [] (by kernel_rfl) hw)⟩

set_option maxRecDepth 100000 in
theorem gmay_t (q : Option Addr) (m capq : Nat) (al : List CpuA) (w : World)
 (hal : Sv w q al) (hma : m = al.length) (hbm : m ≤ 1000) (hgd : ∀ x ∈ al, x.Good)
 (hT : TabAt 0 Lib.deBruijn32tab w)
 : Calls Tryd.prog 6 #[.slice q m capq] w fun e w' => e = .returned (.bool (mayM (al.map CpuA.s))) ∧ Below w.heap.size w w' := by
 refine enter (Hs.start w) Tryd.func6 rfl Tryd.ntmps6 rfl (sq_ (qa0 [] [0] [] (ds_ (sq_ (ao_ (qo0 1 [] [] [(6, .slice q m capq)] ?_))))))
 rcases q3 : rightM (al.map CpuA.s) with _ | _
 ·
  refine cP (fun v L' => ∃ q_ n_ c_ Y_ Z_ rl_, v = .tuple #[.slice q_ n_ c_, .bool false] ∧ L' = List.take 0 ([]) ++ (Y_ ++ (Z_ ++ List.drop 0 ([]))) ∧ SlO 27 Y_ q_ n_ c_ rl_ ∧ GotR 3 Z_ rl_ ∧ (rightM (al.map CpuA.s) = true → rl_.map IntsA.l = (al.map CpuA.s).map listI)) (fun args w => Tryd.call15 args w) (fun w hw => (lists_t q m capq al w (hal.kept hw.below) hma hbm hgd (tab_kept hT hw.below)).mono fun e w' ⟨q_, n_, c_, Y_, rl_, Z_, he, hO, hG, hB, hb, hY⟩ => by rw [q3] at he; exact ⟨_, _, he, ⟨q_, n_, c_, Y_, Z_, rl_, rfl, rfl, hO, hG, hB⟩, hs_re (hw.join hb hY 0)⟩) ?_
  rintro v4 L4 ⟨q4, n4, c4, Y4, Yz4, rl4, rfl, rfl, hO4, hG4, hB4⟩
  refine qo0 5 [] [] [(3, .slice q4 n4 c4), (4, .bool false)] (on_ (ds_ (sq_ (qa0 [] [] [(2, .bool false)] (ds_ (rt ([]) (.bool false) ?_))))))
  exact fun w' hw => ⟨by rw [may_bad q3], hw.below⟩
 ·
  refine cP (fun v L' => ∃ q_ n_ c_ Y_ Z_ rl_, v = .tuple #[.slice q_ n_ c_, .bool true] ∧ L' = List.take 0 ([]) ++ (Y_ ++ (Z_ ++ List.drop 0 ([]))) ∧ SlO 27 Y_ q_ n_ c_ rl_ ∧ GotR 3 Z_ rl_ ∧ (rightM (al.map CpuA.s) = true → rl_.map IntsA.l = (al.map CpuA.s).map listI)) (fun args w => Tryd.call15 args w) (fun w hw => (lists_t q m capq al w (hal.kept hw.below) hma hbm hgd (tab_kept hT hw.below)).mono fun e w' ⟨q_, n_, c_, Y_, rl_, Z_, he, hO, hG, hB, hb, hY⟩ => by rw [q3] at he; exact ⟨_, _, he, ⟨q_, n_, c_, Y_, Z_, rl_, rfl, rfl, hO, hG, hB⟩, hs_re (hw.join hb hY 0)⟩) ?_
  rintro v7 L7 ⟨q7, n7, c7, Y7, Yz7, rl7, rfl, rfl, hO7, hG7, hB7⟩
  replace hB7 := hB7 q3
  have hlr7 : rl7.length = al.length := by have := congrArg List.length hB7; simpa using this
  refine qo0 5 [] [] [(3, .slice q7 n7 c7), (4, .bool true)] (on_ (ds_ (sq_ (ao_ (qo0 3 [] [] [(11, .bool true), (12, .slice q7 n7 c7)] ?_)))))
  rcases q10 : matchV ((al.map CpuA.s).map listI) with _ | _
  ·
   refine cD (.bool false) (fun args w => Tryd.call16 args w) (fun w hw => by have := matching_t q7 n7 c7 rl7 w (SlO.sub hO7 hw (List.sublist_append_left Y7 _)) hO7.len (by have := hO7.len; have := hlr7; omega) (GotR.reads hG7 hw (List.Sublist.trans (List.sublist_append_left Yz7 _) (List.sublist_append_right Y7 _))) (by rw [hB7]; exact rows_in _); rw [hB7, q10] at this; exact this) (qo0 2 [] [] [(2, .bool false)] (on_ (ds_ (rt ([]) (.bool false) ?_))))
   exact fun w' hw => ⟨by rw [may_ok q3, q10], hw.below⟩
  ·
   refine cD (.bool true) (fun args w => Tryd.call16 args w) (fun w hw => by have := matching_t q7 n7 c7 rl7 w (SlO.sub hO7 hw (List.sublist_append_left Y7 _)) hO7.len (by have := hO7.len; have := hlr7; omega) (GotR.reads hG7 hw (List.Sublist.trans (List.sublist_append_left Yz7 _) (List.sublist_append_right Y7 _))) (by rw [hB7]; exact rows_in _); rw [hB7, q10] at this; exact this) (qo0 2 [] [] [(2, .bool true)] (on_ (ds_ (rt ([]) (.bool true) ?_))))
   exact fun w' hw => ⟨by rw [may_ok q3, q10], hw.below⟩
theorem ma_two {rows : List (List Int)} (h : choB rows = true) : (matchA rows).2 = matchV rows := by
 cases e : matchV rows with
 | false => rw [ma_no e]
 | true => rw [ma_yes h e]

set_option maxRecDepth 100000 in
theorem rmay_t14 (q : Option Addr) (m capq : Nat) (al : List CpuA) (w : World)
 (hal : Sv w q al) (hma : m = al.length) (hbm : m ≤ 1000) (hgd : ∀ x ∈ al, x.Good)
 : Calls Tryd.prog 7 #[.slice q m capq] w fun e w' => e = .returned (.bool (mayM (al.map CpuA.s))) ∧ Below w.heap.size w w' := by
 refine enter (Hs.start w) Tryd.func7 rfl Tryd.ntmps7 rfl (sq_ (qa0 [] [0] [] (ds_ (sq_ (sq_ (ao_ (qo0 1 [] [0] [(8, .slice q m capq)] ?_)))))))
 rcases q3 : rightM (al.map CpuA.s) with _ | _
 ·
  refine cD (.bool false) (fun args w => Tryd.call17 args w) (fun w hw => by have := masks_t q m capq al w (hal.kept hw.below) hma hbm hgd; rw [q3] at this; exact this) (qo0 1 [] [0] [(10, .bool true)] (on_ (ds_ (t_ (sq_ (qa0 [] [] [(2, .bool false)] (ds_ (rt ([]) (.bool false) ?_))))))))
  exact fun w' hw => ⟨by rw [may_bad q3], hw.below⟩
 ·
  refine cD (.bool true) (fun args w => Tryd.call17 args w) (fun w hw => by have := masks_t q m capq al w (hal.kept hw.below) hma hbm hgd; rw [q3] at this; exact this) (qo0 1 [] [0] [(10, .bool false)] (on_ (ds_ (f_ (at_skip (ds_ (sq_ (qa0 [] [0] [(3, .slice none 0 0)] (ds_ (sq_ (sq_ (qa0 [] [3] [(11, .slice q m capq), (12, .int .i64 (m : Nat)), (13, .int .i64 0)] (ds_ (at_block (at_loop (α := Nat × List Ob × Option Addr × Nat × List IntsA × List Ob) [3, 11, 12, 13] (fun ⟨j, Yo, po, co, rl, Yi⟩ => [(3, .slice po j co), (11, .slice q m capq), (12, .int .i64 (m : Nat)), (13, .int .i64 (j : Nat))]) (fun ⟨j, Yo, po, co, rl, Yi⟩ => (Yo ++ (Yi ++ []))) (fun ⟨j, Yo, po, co, rl, Yi⟩ => j ≤ m ∧ (∀ y ∈ al.take j, y.s < 256) ∧ SlO 27 Yo po j co rl ∧ GotR 3 Yi rl ∧ rl.map IntsA.l = ((al.take j).map CpuA.s).map listI) (fun ⟨j, Yo, po, co, rl, Yi⟩ => m - j) (0, [], none, 0, [], []) (by kernel_rfl) rfl ⟨Nat.zero_le _, all_take0T, SlO.nil, GotR.nil, rfl⟩ ?_)))))))))))))))
  rintro ⟨j, Yo, po, co, rl, Yi⟩
  rintro ⟨hj, hI, hO, hG, hB⟩
  have hlb := hO.len
  refine sq_ ?_
  by_cases q10 : ((j : Nat) : Int) < ((m : Nat) : Int)
  ·
   refine qa [(0, .yes)] [3, 11, 12, 13] [(14, .bool true)] ([((j : Nat) : Int) < ((m : Nat) : Int)]) (al1 q10) (ds_ (sq_ (t_ (at_skip (ds_ (sq_ (at_block (sq_ ?_))))))))
   obtain ⟨b13, o13, rfl⟩ := hal.pos (i := j) (by omega)
   obtain ⟨x15, hx15⟩ := get_some (l := al) (m := j) (by omega)
   have hgx15 := hgd x15 (List.mem_of_getElem? hx15)
   have hg0x15 : 0 ≤ x15.s := hgx15.1
   have hg1x15 : x15.s < 4294967296 := hgx15.2
   refine qa [(0, .at b13 o13 j), (1, .go (outs b13 (o13 + j * 1) [.int .u32 x15.s]))] [3, 11, 12, 13] [(5, .int .u32 x15.s)] ([(some ⟨b13, o13, none⟩ : Option Addr) = some ⟨b13, o13, none⟩, (j : Nat) = ((j : Nat) : Int), j < m] ++ (cellsP w b13 (o13 + j * 1) [.int .u32 x15.s])) (alA (al2 rfl (al2 rfl (al1 (by omega)))) (rd_pre (hal.get hx15) _ rfl)) (ds_ (ao_ (qo0 2 [] [11, 12, 13] [(17, .slice po j co), (18, .int .u32 x15.s)] (cP (fun v L' => ∃ q_ n_ c_ Y_, v = .slice q_ n_ c_ ∧ L' = List.take 0 ((Yo ++ (Yi ++ []))) ++ (Y_ ++ List.drop 0 ((Yo ++ (Yi ++ [])))) ∧ SlO 3 Y_ q_ n_ c_ (listI x15.s)) (fun args w => Tryd.call18 args w) (fun w hw => (rlist_t x15.s w hg0x15 ((all_right q3 (cpu_nn hgd)).1 _ (List.mem_of_getElem? (s_at hx15))).2).mono fun e w' ⟨q_, n_, c_, Y_, he, hO, hb, hY⟩ => ⟨_, _, he, ⟨q_, n_, c_, Y_, rfl, rfl, hO⟩, hw.join hb hY 0⟩) ?_))))
   rintro v18 L18 ⟨q18, n18, c18, Y18, rfl, rfl, hO18⟩
   refine mo0 1 [] [11, 12, 13, 17] (fun γ19 => [(20, .slice (some ⟨γ19 0, 0, none⟩) 1 1)]) (fun γ19 L => bx (γ19 0) (#[.slice q18 n18 c18]) 27 :: L) (fun γ19 => Ops.pick [[bx (γ19 0) (#[.slice q18 n18 c18]) 27], Y18, Yo, Yi] [0, 2, 1, 3] [] (bx (γ19 0) (#[.slice q18 n18 c18]) 27 :: (Yo ++ (Y18 ++ (Yi ++ [])))) (by kernel_rfl) rfl rfl (ops_append (α := IntsA) [bx (γ19 0) (#[.slice q18 n18 c18]) 27] Yo (Y18 ++ (Yi ++ [])) (.refl _) rfl (by kernel_rfl) (by kernel_rfl) (p := po) (n := j) (cap := co) (m := 1) (yv := .slice (some ⟨γ19 0, 0, none⟩) 1 1) (by kernel_rfl) (by kernel_rfl) (T := 27) (by_ := 24) (by kernel_rfl) rl ([(⟨q18, n18, c18, (listI x15.s)⟩ : IntsA)]) hO (fun w hw => src_svn Tryd.underlying42 (sv_row (hw.row 0 rfl) (by rfl)) (by rfl)) (by rfl) (by have hmx : maxLen = 9223372036854775807 := rfl; omega) (by have hmx : maxLen = 9223372036854775807 := rfl; omega) (fun Y20 p20 cap20 hO20 => qo0 1 [] [11, 12, 13] [(3, .slice p20 (j + 1) cap20)] (on_ (done_block (ds_ (qa [(0, .fit)] [3, 11, 12] [(13, .int .i64 (j + 1 : Nat))] ([Fit .i64 ((j + 1 : Nat))]) (al1 (fit64 (by omega) (by omega))) (Done.pick [[bx (γ19 0) (#[.slice q18 n18 c18]) 27], Y20, Y18, Yi] [1, 3, 2] [0] ((Y20 ++ (Yi ++ (Y18 ++ [])))) (by kernel_rfl) rfl rfl (Done.as (L' := (Y20 ++ ((Yi ++ Y18) ++ []))) (by simp only [List.append_assoc]) ?_)))))))))
   exact dr [3, 11, 12, 13] (j + 1, Y20, p20, cap20, (rl ++ [(⟨q18, n18, c18, (listI x15.s)⟩ : IntsA)]), Yi ++ Y18) ⟨by omega, all_onT hI hx15 ((all_right q3 (cpu_nn hgd)).1 _ (List.mem_of_getElem? (s_at hx15))).2, hO20, GotR.snoc hG hO18, sets_add hB hx15 rfl⟩
  ·
   refine qa [(0, .no)] [3, 11, 12, 13] [(14, .bool false)] ([¬ (((j : Nat) : Int) < ((m : Nat) : Int))]) (al1 q10) (ds_ (sq_ (f_ (at_leave _ rfl (ds_ (sq_ ?_))))))
   have hBl : rl.map IntsA.l = (al.map CpuA.s).map listI := by rw [hB, List.take_of_length_le (by omega)]
   refine ao_ (qo0 1 [] [] [(24, .slice po j co)] (cP (fun v L' => ∃ q_ n_ c_ Y_, v = .tuple #[.slice q_ n_ c_, .bool (matchV ((al.map CpuA.s).map listI))] ∧ L' = List.take 0 ((Yo ++ (Yi ++ []))) ++ (Y_ ++ List.drop 0 ((Yo ++ (Yi ++ []))))) (fun args w => Tryd.call19 args w) (fun w hw => (rmatch_t ((al.map CpuA.s).map listI) po j co rl hBl hO.len (by omega) w (SlO.sub hO hw (List.sublist_append_left Yo _)) (GotR.reads hG hw (List.Sublist.trans (List.sublist_append_left Yi _) (List.sublist_append_right Yo _))) (got_small14 hG hBl) ((al.map CpuA.s).map listI).length [] [] [] none 0 0 w SlO.nil (Nat.zero_add _) (Hs.start w)).mono fun e w' ⟨q_, n_, c_, Y_, he, hO, hY⟩ => by rw [ma_ref (rows_cho (all_right q3 (cpu_nn hgd)).2), ma_two (rows_cho (all_right q3 (cpu_nn hgd)).2)] at he; exact ⟨_, _, he, ⟨q_, n_, c_, Y_, rfl, rfl⟩, hw.join hY.below (one_tail14 hY) 0⟩) ?_))
   rintro v25 L25 ⟨q25, n25, c25, Y25, rfl, rfl⟩
   refine qo0 5 [] [] [(7, .bool (matchV ((al.map CpuA.s).map listI)))] (on_ (ds_ (sq_ (qa0 [] [] [(2, .bool (matchV ((al.map CpuA.s).map listI)))] (ds_ (rt ([]) (.bool (matchV ((al.map CpuA.s).map listI))) ?_))))))
   exact fun w' hw => ⟨by rw [may_ok q3], hw.below⟩
end Go.Proofs.YtahccegfahghfaaDoor

/-! The fewest sets that are stuck. -/
namespace Go.Proofs.YtahccegfahghfaaDoor
open Go Go.RowKit
/-- What Stuck answers. -/
def StuckR (ms r : List Int) : Prop := (rightM ms = true → Best ms r) ∧ (rightM ms = false → r = [])
theorem stuckR_uniq {ms q r : List Int} (h1 : StuckR ms q) (h2 : StuckR ms r) : q = r := by
  cases h : rightM ms with
  | true => exact best_uniq (h1.1 h) (h2.1 h)
  | false => rw [h1.2 h, h2.2 h]
theorem slo_none {α : Type} [Enc α] {T : TypeId} {Y : List Ob} {n cap : Nat} {l : List α} (h : SlO T Y none n cap l) : l = [] := by
  rcases h with ⟨_, _, _, _, h⟩ | ⟨g, cs, _, h, _, _⟩
  · exact h
  · cases h
theorem lt_pow {k p m : Nat} (h : k < p) (hp : p = 2 ^ m) : ((k : Nat) : Int) < 2 ^ m := by
  subst hp
  have : ((k : Nat) : Int) < ((2 ^ m : Nat) : Int) := Int.ofNat_lt.2 h
  simpa using this
theorem shl_fin64 : ∀ m : Fin 9, IntKind.u64.wrap (1 * 2 ^ (min (m.val : Int).toNat IntKind.u64.bits)) = ((2 ^ m.val : Nat) : Int) ∧ 2 ^ m.val ≤ 256 := by decide +kernel
theorem shl_pow {m : Nat} (h : m ≤ 8) : IntKind.u64.wrap (1 * 2 ^ (min ((m : Nat) : Int).toNat IntKind.u64.bits)) = ((2 ^ m : Nat) : Int) := (shl_fin64 ⟨m, by omega⟩).1
theorem pow_le {m : Nat} (h : m ≤ 8) : 2 ^ m ≤ 256 := (shl_fin64 ⟨m, by omega⟩).2
theorem un_yes {al : List CpuA} {x : CpuA} {k i : Nat} (hx : al[i]? = some x) (hi : i < 8) (h : hasV ((k : Nat) : Int) ((i : Nat) : Int) = true) : orV (unionL (al.map CpuA.s) (upTo ((k : Nat) : Int) i)) x.s = unionL (al.map CpuA.s) (upTo ((k : Nat) : Int) (i + 1)) := by
  rw [ut_yes hi h, union_on, Int.toNat_natCast, s_getD hx]
theorem un_no {al : List CpuA} {k i : Nat} (h : hasV ((k : Nat) : Int) ((i : Nat) : Int) = false) : unionL (al.map CpuA.s) (upTo ((k : Nat) : Int) i) = unionL (al.map CpuA.s) (upTo ((k : Nat) : Int) (i + 1)) := by rw [ut_no h]
theorem stk_yes {ms : List Int} {k : Nat} {u : Int} (hk : ((k : Nat) : Int) < 256) (hu : u = unionL ms (listI (k : Int))) (h : ¬ Lib.pop8 u ≥ Lib.pop8 (k : Int)) : stk ms (listI (k : Int)) = true := by
  have := list_len (s := (k : Int)) (by omega) hk
  subst hu
  exact decide_eq_true (by omega)
theorem stk_not {ms : List Int} {k : Nat} {u : Int} (hk : ((k : Nat) : Int) < 256) (hu : u = unionL ms (listI (k : Int))) (h : Lib.pop8 u ≥ Lib.pop8 (k : Int)) : stk ms (listI (k : Int)) = false := by
  have := list_len (s := (k : Int)) (by omega) hk
  subst hu
  exact decide_eq_false (by omega)
theorem li_pop {k : Nat} (hk : ((k : Nat) : Int) < 256) : ((listI (k : Int)).length : Int) = Lib.pop8 (k : Int) := list_len (by omega) hk

set_option maxRecDepth 100000 in
theorem gstuck_t (q : Option Addr) (m capq : Nat) (al : List CpuA) (w : World)
    (hal : Sv w q al) (hma : m = al.length) (hbm : m ≤ 1000) (hgd : ∀ x ∈ al, x.Good)
    (hT : TabAt 0 Lib.deBruijn32tab w)
    : Calls Tryd.prog 9 #[.slice q m capq] w fun e w' => ∃ q' n' c' Y r, e = .returned (.slice q' n' c') ∧ StuckR (al.map CpuA.s) r ∧ SlO 3 Y q' n' c' r ∧ Below w.heap.size w w' ∧ Hs w Y w' := by
  refine enter (Hs.start w) Tryd.func9 rfl Tryd.ntmps9 rfl (sq_ (qa0 [] [0] [] (ds_ (sq_ (sq_ (ao_ (qo0 1 [] [0] [(13, .slice q m capq)] ?_)))))))
  rcases q3 : rightM (al.map CpuA.s) with _ | _
  ·
    refine cP (fun v L' => ∃ q_ n_ c_ Y_ Z_ rl_, v = .tuple #[.slice q_ n_ c_, .bool false] ∧ L' = List.take 0 ([]) ++ (Y_ ++ (Z_ ++ List.drop 0 ([]))) ∧ SlO 27 Y_ q_ n_ c_ rl_ ∧ GotR 3 Z_ rl_ ∧ (rightM (al.map CpuA.s) = true → rl_.map IntsA.l = (al.map CpuA.s).map listI)) (fun args w => Tryd.call15 args w) (fun w hw => (lists_t q m capq al w (hal.kept hw.below) hma hbm hgd (tab_kept hT hw.below)).mono fun e w' ⟨q_, n_, c_, Y_, rl_, Z_, he, hO, hG, hB, hb, hY⟩ => by rw [q3] at he; exact ⟨_, _, he, ⟨q_, n_, c_, Y_, Z_, rl_, rfl, rfl, hO, hG, hB⟩, hs_re (hw.join hb hY 0)⟩) ?_
    rintro v4 L4 ⟨q4, n4, c4, Y4, Yz4, rl4, rfl, rfl, hO4, hG4, hB4⟩
    refine qo0 5 [] [0] [(4, .bool false)] (on_ (ds_ (sq_ (qa0 [] [0] [(18, .bool true)] (ds_ (t_ (sq_ (qa0 [] [] [(2, .slice none 0 0)] (ds_ (rt ([]) (.slice none 0 0) ?_))))))))))
    exact fun w' hw => ⟨none, 0, 0, [], [], rfl, ⟨fun h => absurd (q3.symm.trans h) (by decide), fun _ => rfl⟩, SlO.nil, hw.below, hw.sub (List.nil_sublist _)⟩
  ·
    refine cP (fun v L' => ∃ q_ n_ c_ Y_ Z_ rl_, v = .tuple #[.slice q_ n_ c_, .bool true] ∧ L' = List.take 0 ([]) ++ (Y_ ++ (Z_ ++ List.drop 0 ([]))) ∧ SlO 27 Y_ q_ n_ c_ rl_ ∧ GotR 3 Z_ rl_ ∧ (rightM (al.map CpuA.s) = true → rl_.map IntsA.l = (al.map CpuA.s).map listI)) (fun args w => Tryd.call15 args w) (fun w hw => (lists_t q m capq al w (hal.kept hw.below) hma hbm hgd (tab_kept hT hw.below)).mono fun e w' ⟨q_, n_, c_, Y_, rl_, Z_, he, hO, hG, hB, hb, hY⟩ => by rw [q3] at he; exact ⟨_, _, he, ⟨q_, n_, c_, Y_, Z_, rl_, rfl, rfl, hO, hG, hB⟩, hs_re (hw.join hb hY 0)⟩) ?_
    rintro v8 L8 ⟨q8, n8, c8, Y8, Yz8, rl8, rfl, rfl, hO8, hG8, hB8⟩
    replace hB8 := hB8 q3
    have hlr8 : rl8.length = al.length := by have := congrArg List.length hB8; simpa using this
    refine qo0 5 [] [0] [(4, .bool true)] (on_ (ds_ (sq_ (qa0 [] [0] [(18, .bool false)] (ds_ (f_ (at_skip (ds_ (sq_ (qa0 [] [0] [(5, .slice none 0 0)] (ds_ (sq_ (sq_ ?_)))))))))))))
    have hmr := all_right q3 (cpu_nn hgd)
    have hm8 : m ≤ 8 := by have := hmr.2; rw [List.length_map] at this; omega
    obtain ⟨P2, hP2⟩ : ∃ p, p = 2 ^ m := ⟨_, rfl⟩
    have hP8 : P2 ≤ 256 := by rw [hP2]; exact pow_le hm8
    refine ao_ (qo0 2 [] [0, 5] [(20, .int .i64 (m : Nat))] (ops_opv (.int .u64 (P2 : Nat)) (by kernel_rfl) (by kernel_rfl) (by kernel_rfl) (fun w => run_shl (kd := .u64) (kd' := .i64) (a := 1) (n := ((m : Nat) : Int)) ((P2 : Nat) : Int) rfl (by kernel_rfl) (by kernel_rfl) (by omega) (by rw [hP2]; exact shl_pow hm8) w) (qo0 1 [] [0, 5, 21] [(22, .int .u64 0)] (on_ (ds_ (at_block (At.pick [Y8, Yz8] [] [0, 1] ([]) (by kernel_rfl) rfl rfl (at_loop (α := Nat × List Int × List Ob × Option Addr × Nat × Nat) [0, 5, 21, 22] (fun ⟨k, bb, Yb, pb, nb, cb⟩ => [(0, .slice q m capq), (5, .slice pb nb cb), (21, .int .u64 (P2 : Nat)), (22, .int .u64 (k : Nat))]) (fun ⟨k, bb, Yb, pb, nb, cb⟩ => (Yb ++ [])) (fun ⟨k, bb, Yb, pb, nb, cb⟩ => k ≤ P2 ∧ BestK (al.map CpuA.s) bb k ∧ (bb = [] → pb = none) ∧ bb.length ≤ 8 ∧ SlO 3 Yb pb nb cb bb) (fun ⟨k, bb, Yb, pb, nb, cb⟩ => P2 - k) (0, [], [], none, 0, 0) (by kernel_rfl) rfl ⟨Nat.zero_le _, bk_zero, fun _ => rfl, Nat.zero_le _, SlO.nil⟩ ?_))))))))
    rintro ⟨k, bb, Yb, pb, nb, cb⟩
    rintro ⟨hk, hBK, hpn, hbl, hb⟩
    have hlb := hb.len
    refine sq_ ?_
    by_cases q15 : ((k : Nat) : Int) < ((P2 : Nat) : Int)
    ·
      refine qa [(0, .yes)] [0, 5, 21, 22] [(23, .bool true)] ([((k : Nat) : Int) < ((P2 : Nat) : Int)]) (al1 q15) (ds_ (sq_ (t_ (at_skip (ds_ (sq_ (at_block (sq_ (qa0 [] [0, 5, 21, 22] [(6, .int .u64 (k : Nat))] (ds_ (sq_ (ao_ (qo0 1 [] [0, 5, 6, 21, 22] [(25, .int .u64 (k : Nat))] (cD (.int .i64 (Lib.pop8 ((k : Nat) : Int))) (fun args w => Tryd.call20 args w) (fun w hw => onesu_t ((k : Nat) : Int) w (by omega) (by omega)) (qo0 1 [] [0, 5, 6, 21, 22] [(7, .int .i64 (Lib.pop8 ((k : Nat) : Int)))] (on_ (ds_ (sq_ (qa0 [] [0, 5, 6, 7, 21, 22] [(8, .int .u32 0)] (ds_ (sq_ (qa0 [] [0, 5, 6, 7, 8, 21, 22] [(9, .slice none 0 0)] (ds_ (sq_ (sq_ (qa0 [] [0, 5, 6, 7, 8, 9, 21, 22] [(27, .slice q m capq), (28, .int .i64 (m : Nat)), (29, .int .i64 0)] (ds_ (at_block (at_loop (α := Nat × Int × List Ob × Option Addr × Nat × Nat) [0, 5, 6, 7, 8, 9, 21, 22, 27, 28, 29] (fun ⟨i, u, Yp, pp, np, cp⟩ => [(0, .slice q m capq), (5, .slice pb nb cb), (6, .int .u64 (k : Nat)), (7, .int .i64 (Lib.pop8 ((k : Nat) : Int))), (8, .int .u32 u), (9, .slice pp np cp), (21, .int .u64 (P2 : Nat)), (22, .int .u64 (k : Nat)), (27, .slice q m capq), (28, .int .i64 (m : Nat)), (29, .int .i64 (i : Nat))]) (fun ⟨i, u, Yp, pp, np, cp⟩ => (Yp ++ (Yb ++ []))) (fun ⟨i, u, Yp, pp, np, cp⟩ => i ≤ m ∧ u = unionL (al.map CpuA.s) (upTo ((k : Nat) : Int) i) ∧ SlO 3 Yp pp np cp (upTo ((k : Nat) : Int) i)) (fun ⟨i, u, Yp, pp, np, cp⟩ => m - i) (0, 0, [], none, 0, 0) (by kernel_rfl) rfl ⟨Nat.zero_le _, by rw [ut_zero]; rfl, SlO.as14 SlO.nil ut_zero.symm⟩ ?_)))))))))))))))))))))))))))))
      rintro ⟨i, u, Yp, pp, np, cp⟩
      rintro ⟨hi, hu, hp⟩
      have hlp := hp.len
      have hle := ut_le (s := ((k : Nat) : Int)) (k := i)
      refine sq_ ?_
      by_cases q24 : ((i : Nat) : Int) < ((m : Nat) : Int)
      ·
        refine qa [(0, .yes)] [0, 5, 6, 7, 8, 9, 21, 22, 27, 28, 29] [(30, .bool true)] ([((i : Nat) : Int) < ((m : Nat) : Int)]) (al1 q24) (ds_ (sq_ (t_ (at_skip (ds_ (sq_ (at_block (sq_ ?_))))))))
        obtain ⟨b27, o27, rfl⟩ := hal.pos (i := i) (by omega)
        obtain ⟨x29, hx29⟩ := get_some (l := al) (m := i) (by omega)
        have hgx29 := hgd x29 (List.mem_of_getElem? hx29)
        have hg0x29 : 0 ≤ x29.s := hgx29.1
        have hg1x29 : x29.s < 4294967296 := hgx29.2
        refine qa [(1, .at b27 o27 i), (2, .go (outs b27 (o27 + i * 1) [.int .u32 x29.s]))] [0, 5, 6, 7, 8, 9, 21, 22, 27, 28, 29] [(10, .int .i64 (i : Nat)), (11, .int .u32 x29.s)] ([(some ⟨b27, o27, none⟩ : Option Addr) = some ⟨b27, o27, none⟩, (i : Nat) = ((i : Nat) : Int), i < m] ++ (cellsP w b27 (o27 + i * 1) [.int .u32 x29.s])) (alA (al2 rfl (al2 rfl (al1 (by omega)))) (rd_pre (hal.get hx29) _ rfl)) (ds_ (sq_ ?_))
        rcases q31 : hasV ((k : Nat) : Int) ((i : Nat) : Int) with _ | _
        ·
          refine ao_ (qo0 2 [] [0, 5, 6, 7, 8, 9, 10, 11, 21, 22, 27, 28, 29] [(34, .int .u64 (k : Nat)), (35, .int .i64 (i : Nat))] (ops_opv (.int .u64 ((((k : Nat) : Int)).fdiv (2 ^ (min ((i : Nat) : Int).toNat IntKind.u64.bits)))) (by kernel_rfl) (by kernel_rfl) (by kernel_rfl) (fun w => run_shr (kd := .u64) (kd' := .i64) (a := ((k : Nat) : Int)) (n := ((i : Nat) : Int)) ((((k : Nat) : Int)).fdiv (2 ^ (min ((i : Nat) : Int).toNat IntKind.u64.bits))) rfl (by kernel_rfl) (by kernel_rfl) (by omega) rfl w) (ops_opv (.int .u64 0) (by kernel_rfl) (by kernel_rfl) (by kernel_rfl) (fun w => run_and64 (a := ((((k : Nat) : Int)).fdiv (2 ^ (min ((i : Nat) : Int).toNat IntKind.u64.bits)))) (b := 1) 0 rfl (by kernel_rfl) (by kernel_rfl) ((shr_bit (by omega) (by omega) (by omega) (by omega)).trans (by rw [q31]; rfl)) w) (qo0 1 [] [0, 5, 6, 7, 8, 9, 10, 11, 21, 22, 27, 28, 29] [(38, .bool false)] (on_ (ds_ (f_ (at_skip (done_block (ds_ (qa [(0, .fit)] [0, 5, 6, 7, 8, 9, 21, 22, 27, 28] [(29, .int .i64 (i + 1 : Nat))] ([Fit .i64 ((i + 1 : Nat))]) (al1 (fit64 (by omega) (by omega))) ?_)))))))))))
          exact dr [0, 5, 6, 7, 8, 9, 21, 22, 27, 28, 29] (i + 1, u, Yp, pp, np, cp) ⟨by omega, by rw [hu]; exact un_no q31, SlO.as14 hp (ut_no q31).symm⟩
        ·
          refine ao_ (qo0 2 [] [0, 5, 6, 7, 8, 9, 10, 11, 21, 22, 27, 28, 29] [(34, .int .u64 (k : Nat)), (35, .int .i64 (i : Nat))] (ops_opv (.int .u64 ((((k : Nat) : Int)).fdiv (2 ^ (min ((i : Nat) : Int).toNat IntKind.u64.bits)))) (by kernel_rfl) (by kernel_rfl) (by kernel_rfl) (fun w => run_shr (kd := .u64) (kd' := .i64) (a := ((k : Nat) : Int)) (n := ((i : Nat) : Int)) ((((k : Nat) : Int)).fdiv (2 ^ (min ((i : Nat) : Int).toNat IntKind.u64.bits))) rfl (by kernel_rfl) (by kernel_rfl) (by omega) rfl w) (ops_opv (.int .u64 1) (by kernel_rfl) (by kernel_rfl) (by kernel_rfl) (fun w => run_and64 (a := ((((k : Nat) : Int)).fdiv (2 ^ (min ((i : Nat) : Int).toNat IntKind.u64.bits)))) (b := 1) 1 rfl (by kernel_rfl) (by kernel_rfl) ((shr_bit (by omega) (by omega) (by omega) (by omega)).trans (by rw [q31]; rfl)) w) (qo0 1 [] [0, 5, 6, 7, 8, 9, 10, 11, 21, 22, 27, 28, 29] [(38, .bool true)] (on_ (ds_ (t_ (sq_ (ao_ (qo0 2 [] [0, 5, 6, 7, 9, 10, 21, 22, 27, 28, 29] [(39, .int .u32 u), (40, .int .u32 x29.s)] (ops_opv (.int .u32 (orV u x29.s)) (by kernel_rfl) (by kernel_rfl) (by kernel_rfl) (fun w => run_or (a := u) (b := x29.s) (orV u x29.s) rfl (by kernel_rfl) (by kernel_rfl) rfl w) (qo0 1 [] [0, 5, 6, 7, 9, 10, 21, 22, 27, 28, 29] [(8, .int .u32 (orV u x29.s))] (on_ (ds_ (ao_ (mo0 3 [] [0, 5, 6, 7, 8, 21, 22, 27, 28, 29] (fun γ41 => [(42, .slice pp np cp), (44, .slice (some ⟨γ41 0, 0, none⟩) 1 1)]) (fun γ41 L => bx (γ41 0) (#[.int .i64 (i : Nat)]) 3 :: L) (fun γ41 => ops_append (α := Int) [bx (γ41 0) (#[.int .i64 (i : Nat)]) 3] Yp (Yb ++ []) (.refl _) rfl (by kernel_rfl) (by kernel_rfl) (p := pp) (n := np) (cap := cp) (m := 1) (yv := .slice (some ⟨γ41 0, 0, none⟩) 1 1) (by kernel_rfl) (by kernel_rfl) (T := 3) (by_ := 8) (by kernel_rfl) (upTo ((k : Nat) : Int) i) ([((i : Nat) : Int)]) hp (fun w hw => src_svn Tryd.underlying27 (sv_row (hw.row 0 rfl) (by rfl)) (by rfl)) (by rfl) (by have hmx : maxLen = 9223372036854775807 := rfl; omega) (by have hmx : maxLen = 9223372036854775807 := rfl; omega) (fun Y42 p42 cap42 hO42 => qo0 1 [] [0, 5, 6, 7, 8, 21, 22, 27, 28, 29] [(9, .slice p42 (np + 1) cap42)] (on_ (done_block (ds_ (qa [(0, .fit)] [0, 5, 6, 7, 8, 9, 21, 22, 27, 28] [(29, .int .i64 (i + 1 : Nat))] ([Fit .i64 ((i + 1 : Nat))]) (al1 (fit64 (by omega) (by omega))) (Done.pick [[bx (γ41 0) (#[.int .i64 (i : Nat)]) 3], Y42, Yb] [1, 2] [0] ((Y42 ++ (Yb ++ []))) (by kernel_rfl) rfl rfl ?_)))))))))))))))))))))))
          exact dr [0, 5, 6, 7, 8, 9, 21, 22, 27, 28, 29] (i + 1, (orV u x29.s), Y42, p42, (np + 1), cap42) ⟨by omega, by rw [hu]; exact un_yes hx29 (by omega) q31, SlO.as14 hO42 (ut_yes (by omega) q31).symm⟩
      ·
        refine qa [(0, .no)] [0, 5, 6, 7, 8, 9, 21, 22, 27, 28, 29] [(30, .bool false)] ([¬ (((i : Nat) : Int) < ((m : Nat) : Int))]) (al1 q24) (ds_ (sq_ (f_ (at_leave _ rfl (ds_ (sq_ (sq_ ?_)))))))
        have hka : upTo ((k : Nat) : Int) i = listI ((k : Nat) : Int) := by rw [show i = m by omega]; exact ut_all (by omega) (by omega) hm8 (lt_pow (by omega) hP2)
        rw [hka] at hu hp
        have hul := hu
        have hus := union_spec hmr.1 (listI ((k : Nat) : Int))
        rw [← hu] at hus
        have hu0 := hus.1
        have hu1 := hus.2.1
        have hlp2 := hp.len
        have hpk := li_pop (k := k) (by omega)
        refine ao_ (qo0 1 [] [0, 5, 7, 9, 21, 22] [(47, .int .u32 u)] (cD (.int .i64 (Lib.pop8 u)) (fun args w => Tryd.call11 args w) (fun w hw => count_t u w hu0 hu1) ?_))
        by_cases q48 : ((Lib.pop8 u) : Int) ≥ ((Lib.pop8 ((k : Nat) : Int)) : Int)
        ·
          refine qo 12 [(3, .yes)] [0, 5, 7, 9, 21, 22] [(60, .bool true)] ([((Lib.pop8 u) : Int) ≥ ((Lib.pop8 ((k : Nat) : Int)) : Int)]) (al1 q48) (on_ (ds_ (t_ (at_leave _ rfl (ds_ (qa [(0, .fit)] [0, 5, 21] [(22, .int .u64 (k + 1 : Nat))] ([Fit .u64 ((k + 1 : Nat))]) (al1 (fitU (by omega) (by omega))) (Done.pick [Yp, Yb] [1] [0] ((Yb ++ [])) (by kernel_rfl) rfl rfl ?_)))))))
          exact dr [0, 5, 21, 22] (k + 1, bb, Yb, pb, nb, cb) ⟨by omega, bk_not hBK (stk_not (by omega) hul q48), hpn, hbl, hb⟩
        ·
          rcases pb with _ | a52
          ·
            refine qo 12 [(3, .no)] [0, 5, 7, 9, 21, 22] [(60, .bool false)] ([¬ (((Lib.pop8 u) : Int) ≥ ((Lib.pop8 ((k : Nat) : Int)) : Int))]) (al1 q48) (on_ (ds_ (f_ (at_skip (ds_ (sq_ (qa0 [] [0, 5, 9, 21, 22] [(74, .bool true)] (ds_ (t_ (qa0 [] [0, 21, 22] [(5, .slice pp np cp)] (done_block (ds_ (qa [(0, .fit)] [0, 5, 21] [(22, .int .u64 (k + 1 : Nat))] ([Fit .u64 ((k + 1 : Nat))]) (al1 (fitU (by omega) (by omega))) (Done.pick [Yp, Yb] [0] [1] ((Yp ++ [])) (by kernel_rfl) rfl rfl ?_))))))))))))))
            have hsp := stk_pos (stk_yes (by omega) hul q48) hmr.1
            exact dr [0, 5, 21, 22] (k + 1, listI ((k : Nat) : Int), Yp, pp, np, cp) ⟨by omega, bk_first (by rw [slo_none hb] at hBK; exact hBK) (stk_yes (by omega) hul q48), fun e => by rw [e] at hsp; exact absurd hsp (by decide), li_len, hp⟩
          ·
            by_cases q58 : ((Lib.pop8 ((k : Nat) : Int)) : Int) > ((nb : Nat) : Int)
            ·
              refine qo 12 [(3, .no), (11, .yes)] [0, 5, 7, 9, 21, 22] [(60, .bool true)] ([¬ (((Lib.pop8 u) : Int) ≥ ((Lib.pop8 ((k : Nat) : Int)) : Int))] ++ ([((Lib.pop8 ((k : Nat) : Int)) : Int) > ((nb : Nat) : Int)])) (alA (al1 q48) (al1 q58)) (on_ (ds_ (t_ (at_leave _ rfl (ds_ (qa [(0, .fit)] [0, 5, 21] [(22, .int .u64 (k + 1 : Nat))] ([Fit .u64 ((k + 1 : Nat))]) (al1 (fitU (by omega) (by omega))) (Done.pick [Yp, Yb] [1] [0] ((Yb ++ [])) (by kernel_rfl) rfl rfl ?_)))))))
              exact dr [0, 5, 21, 22] (k + 1, bb, Yb, (some a52), nb, cb) ⟨by omega, bk_keep hBK (List.length_pos_iff.2 fun e => nomatch hpn e) (bet_no.2 (fun e => by rcases e with e | ⟨e, e2⟩; (have := li_pop (k := k) (by omega); omega); (have := li_pop (k := k) (by omega); omega))), hpn, hbl, hb⟩
            ·
              refine qo 12 [(3, .no), (11, .no)] [0, 5, 7, 9, 21, 22] [(60, .bool false)] ([¬ (((Lib.pop8 u) : Int) ≥ ((Lib.pop8 ((k : Nat) : Int)) : Int))] ++ ([¬ (((Lib.pop8 ((k : Nat) : Int)) : Int) > ((nb : Nat) : Int))])) (alA (al1 q48) (al1 q58)) (on_ (ds_ (f_ (at_skip (ds_ (sq_ ?_))))))
              by_cases q63 : ((Lib.pop8 ((k : Nat) : Int)) : Int) < ((nb : Nat) : Int)
              ·
                refine qa [(6, .yes)] [0, 5, 9, 21, 22] [(74, .bool true)] ([((Lib.pop8 ((k : Nat) : Int)) : Int) < ((nb : Nat) : Int)]) (al1 q63) (ds_ (t_ (qa0 [] [0, 21, 22] [(5, .slice pp np cp)] (done_block (ds_ (qa [(0, .fit)] [0, 5, 21] [(22, .int .u64 (k + 1 : Nat))] ([Fit .u64 ((k + 1 : Nat))]) (al1 (fitU (by omega) (by omega))) (Done.pick [Yp, Yb] [0] [1] ((Yp ++ [])) (by kernel_rfl) rfl rfl ?_)))))))
                have hsp := stk_pos (stk_yes (by omega) hul q48) hmr.1
                exact dr [0, 5, 21, 22] (k + 1, listI ((k : Nat) : Int), Yp, pp, np, cp) ⟨by omega, bk_new hBK (stk_yes (by omega) hul q48) (bet_iff.2 (.inl (by have := li_pop (k := k) (by omega); omega))), fun e => by rw [e] at hsp; exact absurd hsp (by decide), li_len, hp⟩
              ·
                refine ao_ (qo 11 [(6, .no)] [0, 5, 9, 21, 22] [(69, .bool false), (70, .slice pp np cp), (71, .slice (some a52) nb cb)] ([¬ (((Lib.pop8 ((k : Nat) : Int)) : Int) < ((nb : Nat) : Int))]) (al1 q63) (cD (.int .i64 (cmpL (listI ((k : Nat) : Int)) bb)) (fun args w => Tryd.call21 args w) (fun w hw => by have := scompare_t pp np cp (listI ((k : Nat) : Int)) (some a52) nb cb bb w (hp.atN (A := []) hw) hp.len (by have := hp.len; have := li_len (x := ((k : Nat) : Int)); omega) (hb.atN (A := (Yp)) hw) hb.len (by have := hb.len; have := hbl; omega); exact this) ?_))
                by_cases q69 : ((cmpL (listI ((k : Nat) : Int)) bb) : Int) < (0 : Int)
                ·
                  refine qo 2 [(12, .yes)] [0, 5, 9, 21, 22] [(74, .bool true)] ([((cmpL (listI ((k : Nat) : Int)) bb) : Int) < (0 : Int)]) (al1 q69) (on_ (ds_ (t_ (qa0 [] [0, 21, 22] [(5, .slice pp np cp)] (done_block (ds_ (qa [(0, .fit)] [0, 5, 21] [(22, .int .u64 (k + 1 : Nat))] ([Fit .u64 ((k + 1 : Nat))]) (al1 (fitU (by omega) (by omega))) (Done.pick [Yp, Yb] [0] [1] ((Yp ++ [])) (by kernel_rfl) rfl rfl ?_))))))))
                  have hsp := stk_pos (stk_yes (by omega) hul q48) hmr.1
                  exact dr [0, 5, 21, 22] (k + 1, listI ((k : Nat) : Int), Yp, pp, np, cp) ⟨by omega, bk_new hBK (stk_yes (by omega) hul q48) (bet_iff.2 (.inr ⟨by have := li_pop (k := k) (by omega); omega, cmpL_lex.1 q69⟩)), fun e => by rw [e] at hsp; exact absurd hsp (by decide), li_len, hp⟩
                ·
                  refine qo 2 [(12, .no)] [0, 5, 9, 21, 22] [(74, .bool false)] ([¬ (((cmpL (listI ((k : Nat) : Int)) bb) : Int) < (0 : Int))]) (al1 q69) (on_ (ds_ (f_ (at_skip (done_block (ds_ (qa [(0, .fit)] [0, 5, 21] [(22, .int .u64 (k + 1 : Nat))] ([Fit .u64 ((k + 1 : Nat))]) (al1 (fitU (by omega) (by omega))) (Done.pick [Yp, Yb] [1] [0] ((Yb ++ [])) (by kernel_rfl) rfl rfl ?_))))))))
                  exact dr [0, 5, 21, 22] (k + 1, bb, Yb, (some a52), nb, cb) ⟨by omega, bk_keep hBK (List.length_pos_iff.2 fun e => nomatch hpn e) (bet_no.2 (fun e => by rcases e with e | ⟨e, e2⟩; (have := li_pop (k := k) (by omega); omega); exact q69 (cmpL_lex.2 e2))), hpn, hbl, hb⟩
    ·
      refine qa [(0, .no)] [0, 5, 21, 22] [(23, .bool false)] ([¬ (((k : Nat) : Int) < ((P2 : Nat) : Int))]) (al1 q15) (ds_ (sq_ (f_ (at_leave _ rfl (ds_ (sq_ (qa0 [] [] [(2, .slice pb nb cb)] (ds_ (rt ([]) (.slice pb nb cb) ?_)))))))))
      have hBF := bk_best (bb := bb) hmr.2 (by rw [List.length_map, ← hma, ← hP2, show P2 = k by omega]; exact hBK)
      exact fun w' hw => ⟨_, _, _, _, bb, rfl, ⟨fun _ => hBF, fun h => absurd (h.symm.trans q3) (by decide)⟩, hb, hw.below, one_tail14 (Hs.pick [Yb] [0] [] (by kernel_rfl) hw)⟩
end Go.Proofs.YtahccegfahghfaaDoor

/-! The document: the fewest sets that are stuck. -/
namespace Go.Proofs.YtahccegfahghfaaDoor
open Go Go.RowKit
theorem un_on {al : List CpuA} {p : List Int} {x : CpuA} {c : Int} {j : Nat} (hp : p[j]? = some c) (hx : al[c.toNat]? = some x) : orV (unionL (al.map CpuA.s) (p.take j)) x.s = unionL (al.map CpuA.s) (p.take (j + 1)) := by
 rw [take_one hp, union_on, s_getD hx]
theorem from_le {n : Nat} {p : List Int} (hp : Pl n p) : fromV p ≤ (n : Int) := by
 unfold fromV
 cases h : p.getLast? with
 | none => show (0 : Int) ≤ n; omega
 | some c => have := hp.bnd c (List.mem_of_getLast? h); show c + 1 ≤ (n : Int); omega
theorem pl_nil {n : Nat} : Pl n [] := ⟨List.Pairwise.nil, fun _ h => nomatch h⟩

set_option maxRecDepth 100000 in
theorem rstuck_t (q : Option Addr) (m capq : Nat) (al : List CpuA) (hma : m = al.length) (hbm : m ≤ 1000) (hgd : ∀ x ∈ al, x.Good) (hmr : ∀ s ∈ (al.map CpuA.s), 0 ≤ s ∧ s < 256) (many : Nat) (hm0 : 0 < many) (hm9 : many ≤ 1000) (w0 : World) (hal : Sv w0 q al) :
 ∀ (d : Nat) (p : List Int) (Yt YX : List Ob) (pt : Option Addr) (nt ct : Nat) (w : World), SlO 3 Yt pt nt ct p → Pl m p → p.length + d = many → Hs w0 (Yt ++ YX) w →
 Calls Tryd.prog 22 #[.slice q m capq, .slice pt nt ct, .int .i64 (many : Nat)] w fun e w' => ∃ r p' n' c' Y', e = .returned (.slice p' n' c') ∧ StkF (al.map CpuA.s) p many r ∧ (r = [] → p' = none) ∧ SlO 3 Y' p' n' c' r ∧ Hs w0 (Y' ++ YX) w' := by
 have hml : (al.map CpuA.s).length = m := by rw [List.length_map, hma]
 intro d
 induction d with
 | zero =>
  intro p Yt YX pt nt ct w hT hPl hl hH
  have hnt := hT.len
  rw [show Yt ++ YX = Yt ++ (YX ++ []) from by rw [List.append_nil]] at hH
  refine enter hH Tryd.func22 rfl Tryd.ntmps22 rfl (sq_ (qa0 [] [0, 1, 2] [] (ds_ (sq_ (sq_ (qa [(3, .yes)] [0, 1, 2] [(17, .bool true)] ([((nt : Nat) : Int) = ((many : Nat) : Int)]) (al1 (by omega)) (ds_ (t_ (sq_ (qa0 [] [0, 1, 2] [(7, .int .u32 0)] (ds_ (sq_ (sq_ (qa0 [] [0, 1, 2, 7] [(18, .slice pt nt ct), (19, .int .i64 (nt : Nat)), (20, .int .i64 0)] (ds_ (at_block (at_loop (α := Nat × Int) [0, 1, 2, 7, 18, 19, 20] (fun ⟨j, u⟩ => [(0, .slice q m capq), (1, .slice pt nt ct), (2, .int .i64 (many : Nat)), (7, .int .u32 u), (18, .slice pt nt ct), (19, .int .i64 (nt : Nat)), (20, .int .i64 (j : Nat))]) (fun ⟨j, u⟩ => (Yt ++ (YX ++ []))) (fun ⟨j, u⟩ => j ≤ nt ∧ u = unionL (al.map CpuA.s) (p.take j)) (fun ⟨j, u⟩ => nt - j) (0, 0) (by kernel_rfl) rfl ⟨Nat.zero_le _, rfl⟩ ?_)))))))))))))))))
  rintro ⟨j, u⟩
  rintro ⟨hj, hu⟩
  refine sq_ ?_
  by_cases q6 : ((j : Nat) : Int) < ((nt : Nat) : Int)
  ·
   refine qa [(0, .yes)] [0, 1, 2, 7, 18, 19, 20] [(21, .bool true)] ([((j : Nat) : Int) < ((nt : Nat) : Int)]) (al1 q6) (ds_ (sq_ (t_ (at_skip (ds_ (sq_ (at_block (sq_ ?_))))))))
   have hln9 := hT.len
   obtain ⟨g9, cs9, rfl, rfl, hOw9⟩ := hT.rowOf (i := j) (by omega)
   obtain ⟨x11, hx11⟩ := get_some (l := p) (m := j) (by omega)
   have hbx11 := hPl.bnd x11 (List.mem_of_getElem? hx11)
   refine qa [(0, .at g9 0 j), (1, .go (ownps 0 (0 + j * 1) [.int .i64 x11]))] [0, 1, 2, 7, 18, 19, 20] [(9, .int .i64 x11)] ([(some ⟨g9, 0, none⟩ : Option Addr) = some ⟨g9, 0, none⟩, (j : Nat) = ((j : Nat) : Int), j < nt] ++ (acellsP cs9 (0 + j * 1) [.int .i64 x11])) (alA (al2 rfl (al2 rfl (al1 (by omega)))) (rda_pre (hOw9.rdx hT.len hx11) _ rfl)) (ds_ ?_)
   obtain ⟨b14, o14, rfl⟩ := hal.pos (i := (x11).toNat) (by omega)
   obtain ⟨x16, hx16⟩ := get_some (l := al) (m := (x11).toNat) (by omega)
   have hgx16 := hgd x16 (List.mem_of_getElem? hx16)
   have hg0x16 : 0 ≤ x16.s := hgx16.1
   have hg1x16 : x16.s < 4294967296 := hgx16.2
   refine ao_ (qo 5 [(3, .at b14 o14 ((x11).toNat)), (4, .go (outs b14 (o14 + ((x11).toNat) * 1) [.int .u32 x16.s]))] [0, 1, 2, 18, 19, 20] [(24, .int .u32 u), (28, .int .u32 x16.s)] ([(some ⟨b14, o14, none⟩ : Option Addr) = some ⟨b14, o14, none⟩, x11 = (((x11).toNat : Nat) : Int), (x11).toNat < m] ++ (cellsP w0 b14 (o14 + ((x11).toNat) * 1) [.int .u32 x16.s])) (alA (al2 rfl (al2 (by omega) (al1 (by omega)))) (rd_pre (hal.get hx16) _ rfl)) (ops_opv (.int .u32 (orV u x16.s)) (by kernel_rfl) (by kernel_rfl) (by kernel_rfl) (fun w => run_or (a := u) (b := x16.s) (orV u x16.s) rfl (by kernel_rfl) (by kernel_rfl) rfl w) (qo0 1 [] [0, 1, 2, 18, 19, 20] [(7, .int .u32 (orV u x16.s))] (on_ (done_block (ds_ (qa [(0, .fit)] [0, 1, 2, 7, 18, 19] [(20, .int .i64 (j + 1 : Nat))] ([Fit .i64 ((j + 1 : Nat))]) (al1 (fit64 (by omega) (by omega))) ?_)))))))
   exact dr [0, 1, 2, 7, 18, 19, 20] (j + 1, (orV u x16.s)) ⟨by omega, by rw [hu]; exact un_on hx11 hx16⟩
  ·
   refine qa [(0, .no)] [0, 1, 2, 7, 18, 19, 20] [(21, .bool false)] ([¬ (((j : Nat) : Int) < ((nt : Nat) : Int))]) (al1 q6) (ds_ (sq_ (f_ (at_leave _ rfl (ds_ (sq_ (sq_ ?_)))))))
   rw [List.take_of_length_le (by omega)] at hu
   have hus := union_spec hmr p
   rw [← hu] at hus
   have hus1 := list_len hus.1 hus.2.1
   refine ao_ (qo0 1 [] [1, 2] [(31, .int .u32 u)] (cP (fun v L' => ∃ q_ n_ c_ Y_, v = .slice q_ n_ c_ ∧ L' = List.take 0 ((Yt ++ (YX ++ []))) ++ (Y_ ++ List.drop 0 ((Yt ++ (YX ++ [])))) ∧ SlO 3 Y_ q_ n_ c_ (listI u)) (fun args w => Tryd.call18 args w) (fun w hw => (rlist_t u w hus.1 hus.2.1).mono fun e w' ⟨q_, n_, c_, Y_, he, hO, hb, hY⟩ => ⟨_, _, he, ⟨q_, n_, c_, Y_, rfl, rfl, hO⟩, hw.join hb hY 0⟩) ?_))
   rintro v22 L22 ⟨q22, n22, c22, Y22, rfl, rfl, hO22⟩
   have hl22 := hO22.len
   by_cases q24 : ((n22 : Nat) : Int) < ((many : Nat) : Int)
   ·
    refine qo 3 [(4, .yes)] [1] [(35, .bool true)] ([((n22 : Nat) : Int) < ((many : Nat) : Int)]) (al1 q24) (on_ (ds_ (t_ (sq_ (qa0 [] [] [(6, .slice pt nt ct)] (ds_ (rt ([]) (.slice pt nt ct) ?_)))))))
    have hst : stk (al.map CpuA.s) p = true := decide_eq_true (by rw [← hu]; omega)
    exact fun w' hw => ⟨p, _, _, _, _, rfl, sf_yes (by rw [hml]; exact hPl) (by omega) hst, fun e => (by rw [e] at hl; simp only [List.length_nil] at hl; omega), hT, two_tails14 (Hs.pick [Y22, Yt, YX] [1, 2] [0] (by kernel_rfl) hw)⟩
   ·
    refine qo 3 [(4, .no)] [1] [(35, .bool false)] ([¬ (((n22 : Nat) : Int) < ((many : Nat) : Int))]) (al1 q24) (on_ (ds_ (f_ (at_skip (ds_ (sq_ (qa0 [] [] [(6, .slice none 0 0)] (ds_ (rt ([]) (.slice none 0 0) ?_)))))))))
    have hst : stk (al.map CpuA.s) p = false := decide_eq_false (by rw [← hu]; omega)
    exact fun w' hw => ⟨[], none, 0, 0, [], rfl, sf_no (by omega) hst, fun _ => rfl, SlO.nil, one_tail14 (Hs.pick [Y22, Yt, YX] [2] [0, 1] (by kernel_rfl) hw)⟩
 | succ d ih =>
  intro p Yt YX pt nt ct w hT hPl hl hH
  have hnt := hT.len
  rw [show Yt ++ YX = Yt ++ (YX ++ []) from by rw [List.append_nil]] at hH
  refine enter hH Tryd.func22 rfl Tryd.ntmps22 rfl (sq_ (qa0 [] [0, 1, 2] [] (ds_ (sq_ (sq_ (qa [(3, .no)] [0, 1, 2] [(17, .bool false)] ([¬ (((nt : Nat) : Int) = ((many : Nat) : Int))]) (al1 (by omega)) (ds_ (f_ (at_skip (ds_ (sq_ (qa0 [] [0, 1, 2] [(10, .int .i64 0)] (ds_ (sq_ (sq_ (qa0 [] [0, 1, 2, 10] [(11, .int .i64 (nt : Nat))] (ds_ (sq_ ?_))))))))))))))))))
  by_cases q6 : ((nt : Nat) : Int) > (0 : Int)
  ·
   refine qa [(1, .yes)] [0, 1, 2, 10, 11] [(40, .bool true)] ([((nt : Nat) : Int) > (0 : Int)]) (al1 q6) (ds_ (t_ ?_))
   have hln9 := hT.len
   obtain ⟨g9, cs9, rfl, rfl, hOw9⟩ := hT.rowOf (i := (nt - 1)) (by omega)
   obtain ⟨x11, hx11⟩ := get_some (l := p) (m := (nt - 1)) (by omega)
   have hbx11 := hPl.bnd x11 (List.mem_of_getElem? hx11)
   refine qa [(2, .is [] (.int .i64 ((nt - 1) : Nat))), (3, .at g9 0 (nt - 1)), (4, .go (ownps 0 (0 + (nt - 1) * 1) [.int .i64 x11])), (5, .fit)] [0, 1, 2] [(10, .int .i64 (x11 + 1))] ([Value.int .i64 (IntKind.i64.wrap (((nt : Nat) : Int) - 1)) = .int .i64 ((nt - 1) : Nat)] ++ ([(some ⟨g9, 0, none⟩ : Option Addr) = some ⟨g9, 0, none⟩, ((nt - 1) : Nat) = (((nt - 1) : Nat) : Int), (nt - 1) < nt] ++ (acellsP cs9 (0 + (nt - 1) * 1) [.int .i64 x11] ++ ([Fit .i64 (x11 + 1)])))) (alA (al1 (by rw [wrap_fit (fit64 (by omega) (by omega))]; congr 1; omega)) (alA (al2 rfl (al2 rfl (al1 (by omega)))) (alA (rda_pre (hOw9.rdx hT.len hx11) _ rfl) (al1 (fit64 (by omega) (by omega)))))) (ds_ (sq_ (sq_ (qa0 [] [0, 1, 2] [(12, .int .i64 (x11 + 1))] (ds_ (at_block (At.pick [[bx g9 cs9 3], YX] [0, 1] [] (([bx g9 cs9 3] ++ (YX ++ []))) (by kernel_rfl) rfl rfl ?_)))))))
   have hfr : fromV p = x11 + 1 := from_at (p := p) (by omega) (by rw [← hnt]; exact hx11)
   have hfl := from_le hPl
   have hfp := from_pos hPl
   refine at_loop (α := Int) [0, 1, 2, 12] (fun i => [(0, .slice q m capq), (1, .slice (some ⟨g9, 0, none⟩) nt ct), (2, .int .i64 (many : Nat)), (12, .int .i64 i)]) (fun i => ([bx g9 cs9 3] ++ (YX ++ []))) (fun i => fromV p ≤ i ∧ i ≤ (m : Int) ∧ NoneTo (al.map CpuA.s) p many i) (fun i => ((m : Int) - i).toNat) (x11 + 1) (by kernel_rfl) rfl ⟨by omega, by omega, by rw [← hfr]; exact nt_start⟩ ?_
   rintro i
   rintro ⟨hi0, him, hNT⟩
   refine sq_ (sq_ ?_)
   by_cases q15 : (i : Int) < ((m : Nat) : Int)
   ·
    refine qa [(3, .yes)] [0, 1, 2, 12] [(51, .bool true)] ([(i : Int) < ((m : Nat) : Int)]) (al1 q15) (ds_ (t_ (at_skip (ds_ (sq_ (at_block (sq_ (ao_ (mo0 3 [] [0, 1, 2, 12] (fun γ17 => [(54, .slice q m capq), (55, .slice (some ⟨γ17 0, 0, none⟩) 0 0), (56, .slice (some ⟨g9, 0, none⟩) nt ct)]) (fun γ17 L => bx (γ17 0) (#[]) 3 :: L) (fun γ17 => ops_append (α := Int) [] ([bx (γ17 0) (#[]) 3]) ([bx g9 cs9 3] ++ (YX ++ [])) (mvE rfl) rfl (by kernel_rfl) (by kernel_rfl) (p := (some ⟨γ17 0, 0, none⟩)) (n := 0) (cap := 0) (m := nt) (yv := .slice (some ⟨g9, 0, none⟩) nt ct) (by kernel_rfl) (by kernel_rfl) (T := 3) (by_ := 8) (by kernel_rfl) ([]) p (SlO.lit (by rfl) (by rfl) (by simp [maxLen])) (fun w hw => src_svn Tryd.underlying27 (hT.atN (A := [_]) hw) hT.len) hT.len (by have hmx : maxLen = 9223372036854775807 := rfl; omega) (by have hmx : maxLen = 9223372036854775807 := rfl; omega) (fun Y18 p18 cap18 hO18 => mo0 2 [] [0, 1, 2, 12, 54, 57] (fun γ19 => [(59, .slice (some ⟨γ19 0, 0, none⟩) 1 1)]) (fun γ19 L => bx (γ19 0) (#[.int .i64 i]) 3 :: L) (fun γ19 => ops_append (α := Int) [bx (γ19 0) (#[.int .i64 i]) 3] Y18 ([bx g9 cs9 3] ++ (YX ++ [])) (.refl _) rfl (by kernel_rfl) (by kernel_rfl) (p := p18) (n := (0 + nt)) (cap := cap18) (m := 1) (yv := .slice (some ⟨γ19 0, 0, none⟩) 1 1) (by kernel_rfl) (by kernel_rfl) (T := 3) (by_ := 8) (by kernel_rfl) ([] ++ p) ([i]) hO18 (fun w hw => src_svn Tryd.underlying27 (sv_row (hw.row 0 rfl) (by rfl)) (by rfl)) (by rfl) (by have hmx : maxLen = 9223372036854775807 := rfl; omega) (by have hmx : maxLen = 9223372036854775807 := rfl; omega) (fun Y20 p20 cap20 hO20 => qo0 1 [] [0, 1, 2, 12, 54, 60] [(61, .int .i64 (many : Nat))] (cP (fun v L' => ∃ r_ q_ m_ c_ Y_, v = .slice q_ m_ c_ ∧ L' = [bx (γ19 0) (#[.int .i64 i]) 3] ++ (Y_ ++ ([bx g9 cs9 3] ++ (YX ++ []))) ∧ StkF (al.map CpuA.s) (p ++ [i]) many r_ ∧ (r_ = [] → q_ = none) ∧ SlO 3 Y_ q_ m_ c_ r_) (fun args w => Tryd.call22 args w) (fun w hw => (ih (p ++ [i]) Y20 ([bx (γ19 0) (#[.int .i64 i]) 3] ++ ([bx g9 cs9 3] ++ (YX ++ []))) p20 ((0 + nt) + 1) cap20 w (SlO.as14 hO20 (show _ = p ++ [i] from by rw [List.nil_append])) (pl_on hPl hi0 (by omega)) (by rw [List.length_append, List.length_singleton]; omega) (Hs.front (A := [bx (γ19 0) (#[.int .i64 i]) 3]) (Y := Y20) (R := ([bx g9 cs9 3] ++ (YX ++ []))) hw)).mono fun e w' ⟨r_, q_, m_, c_, Y_, he, h1, h2, h3, hX⟩ => ⟨_, _, he, ⟨r_, q_, m_, c_, Y_, rfl, rfl, h1, h2, h3⟩, hX.push⟩) ?_))))))))))))))
    rintro v22 L22 ⟨r22, q22, m22, cq22, Y22, rfl, rfl, hS22, hN22, hO22⟩
    refine qo0 1 [] [0, 1, 2, 12] [(13, .slice q22 m22 cq22)] (on_ (ds_ (sq_ ?_)))
    rcases q22 with _ | a25
    ·
     refine qa0 [] [0, 1, 2, 12, 13] [(64, .bool false)] (ds_ (f_ (at_skip (done_block (ds_ (qa [(1, .fit)] [0, 1, 2] [(12, .int .i64 (i + 1))] ([Fit .i64 (i + 1)]) (al1 (fit64 (by omega) (by omega))) (Done.pick [[bx (γ19 0) (#[.int .i64 i]) 3], Y22, [bx g9 cs9 3], YX] [2, 3] [0, 1] (([bx g9 cs9 3] ++ (YX ++ []))) (by kernel_rfl) rfl rfl ?_)))))))
     exact dr [0, 1, 2, 12] (i + 1) ⟨by omega, by omega, nt_on hNT (by rw [slo_none hO22] at hS22; exact hS22) hm0⟩
    ·
     refine qa0 [] [0, 1, 2, 12, 13] [(64, .bool true)] (ds_ (t_ (sq_ (qa0 [] [] [(6, .slice (some a25) m22 cq22)] (ds_ (rt ([]) (.slice (some a25) m22 cq22) ?_))))))
     have hpos : 0 < r22.length := List.length_pos_iff.2 fun e => nomatch hN22 e
     exact fun w' hw => ⟨r22, _, _, _, _, rfl, nt_hit hNT (by omega) hS22 hpos, hN22, hO22, two_tails14 (Hs.pick [[bx (γ19 0) (#[.int .i64 i]) 3], Y22, [bx g9 cs9 3], YX] [1, 3] [0, 2] (by kernel_rfl) hw)⟩
   ·
    refine qa [(3, .no)] [0, 1, 2, 12] [(51, .bool false)] ([¬ ((i : Int) < ((m : Nat) : Int))]) (al1 q15) (ds_ (f_ (at_leave _ rfl (ds_ (sq_ (qa0 [] [] [(6, .slice none 0 0)] (ds_ (rt ([]) (.slice none 0 0) ?_))))))))
    exact fun w' hw => ⟨[], none, 0, 0, [], rfl, nt_end hNT (by rw [hml]; omega) (by omega), fun _ => rfl, SlO.nil, one_tail14 (Hs.pick [[bx g9 cs9 3], YX] [1] [0] (by kernel_rfl) hw)⟩
  ·
   refine qa [(1, .no)] [0, 1, 2, 10, 11] [(40, .bool false)] ([¬ (((nt : Nat) : Int) > (0 : Int))]) (al1 q6) (ds_ (f_ (at_skip (ds_ (sq_ (sq_ (qa0 [] [0, 1, 2] [(12, .int .i64 0)] (ds_ (at_block ?_)))))))))
   have hfr : fromV p = 0 := from_nil (p := p) (by omega)
   have hfl := from_le hPl
   have hfp := from_pos hPl
   refine at_loop (α := Int) [0, 1, 2, 12] (fun i => [(0, .slice q m capq), (1, .slice pt nt ct), (2, .int .i64 (many : Nat)), (12, .int .i64 i)]) (fun i => (Yt ++ (YX ++ []))) (fun i => fromV p ≤ i ∧ i ≤ (m : Int) ∧ NoneTo (al.map CpuA.s) p many i) (fun i => ((m : Int) - i).toNat) 0 (by kernel_rfl) rfl ⟨by omega, by omega, by rw [← hfr]; exact nt_start⟩ ?_
   rintro i
   rintro ⟨hi0, him, hNT⟩
   refine sq_ (sq_ ?_)
   by_cases q35 : (i : Int) < ((m : Nat) : Int)
   ·
    refine qa [(3, .yes)] [0, 1, 2, 12] [(51, .bool true)] ([(i : Int) < ((m : Nat) : Int)]) (al1 q35) (ds_ (t_ (at_skip (ds_ (sq_ (at_block (sq_ (ao_ (mo0 3 [] [0, 1, 2, 12] (fun γ37 => [(54, .slice q m capq), (55, .slice (some ⟨γ37 0, 0, none⟩) 0 0), (56, .slice pt nt ct)]) (fun γ37 L => bx (γ37 0) (#[]) 3 :: L) (fun γ37 => ops_append (α := Int) [] ([bx (γ37 0) (#[]) 3]) (Yt ++ (YX ++ [])) (mvE rfl) rfl (by kernel_rfl) (by kernel_rfl) (p := (some ⟨γ37 0, 0, none⟩)) (n := 0) (cap := 0) (m := nt) (yv := .slice pt nt ct) (by kernel_rfl) (by kernel_rfl) (T := 3) (by_ := 8) (by kernel_rfl) ([]) p (SlO.lit (by rfl) (by rfl) (by simp [maxLen])) (fun w hw => src_svn Tryd.underlying27 (hT.atN (A := [_]) hw) hT.len) hT.len (by have hmx : maxLen = 9223372036854775807 := rfl; omega) (by have hmx : maxLen = 9223372036854775807 := rfl; omega) (fun Y38 p38 cap38 hO38 => mo0 2 [] [0, 1, 2, 12, 54, 57] (fun γ39 => [(59, .slice (some ⟨γ39 0, 0, none⟩) 1 1)]) (fun γ39 L => bx (γ39 0) (#[.int .i64 i]) 3 :: L) (fun γ39 => ops_append (α := Int) [bx (γ39 0) (#[.int .i64 i]) 3] Y38 (Yt ++ (YX ++ [])) (.refl _) rfl (by kernel_rfl) (by kernel_rfl) (p := p38) (n := (0 + nt)) (cap := cap38) (m := 1) (yv := .slice (some ⟨γ39 0, 0, none⟩) 1 1) (by kernel_rfl) (by kernel_rfl) (T := 3) (by_ := 8) (by kernel_rfl) ([] ++ p) ([i]) hO38 (fun w hw => src_svn Tryd.underlying27 (sv_row (hw.row 0 rfl) (by rfl)) (by rfl)) (by rfl) (by have hmx : maxLen = 9223372036854775807 := rfl; omega) (by have hmx : maxLen = 9223372036854775807 := rfl; omega) (fun Y40 p40 cap40 hO40 => qo0 1 [] [0, 1, 2, 12, 54, 60] [(61, .int .i64 (many : Nat))] (cP (fun v L' => ∃ r_ q_ m_ c_ Y_, v = .slice q_ m_ c_ ∧ L' = [bx (γ39 0) (#[.int .i64 i]) 3] ++ (Y_ ++ (Yt ++ (YX ++ []))) ∧ StkF (al.map CpuA.s) (p ++ [i]) many r_ ∧ (r_ = [] → q_ = none) ∧ SlO 3 Y_ q_ m_ c_ r_) (fun args w => Tryd.call22 args w) (fun w hw => (ih (p ++ [i]) Y40 ([bx (γ39 0) (#[.int .i64 i]) 3] ++ (Yt ++ (YX ++ []))) p40 ((0 + nt) + 1) cap40 w (SlO.as14 hO40 (show _ = p ++ [i] from by rw [List.nil_append])) (pl_on hPl hi0 (by omega)) (by rw [List.length_append, List.length_singleton]; omega) (Hs.front (A := [bx (γ39 0) (#[.int .i64 i]) 3]) (Y := Y40) (R := (Yt ++ (YX ++ []))) hw)).mono fun e w' ⟨r_, q_, m_, c_, Y_, he, h1, h2, h3, hX⟩ => ⟨_, _, he, ⟨r_, q_, m_, c_, Y_, rfl, rfl, h1, h2, h3⟩, hX.push⟩) ?_))))))))))))))
    rintro v42 L42 ⟨r42, q42, m42, cq42, Y42, rfl, rfl, hS42, hN42, hO42⟩
    refine qo0 1 [] [0, 1, 2, 12] [(13, .slice q42 m42 cq42)] (on_ (ds_ (sq_ ?_)))
    rcases q42 with _ | a45
    ·
     refine qa0 [] [0, 1, 2, 12, 13] [(64, .bool false)] (ds_ (f_ (at_skip (done_block (ds_ (qa [(1, .fit)] [0, 1, 2] [(12, .int .i64 (i + 1))] ([Fit .i64 (i + 1)]) (al1 (fit64 (by omega) (by omega))) (Done.pick [[bx (γ39 0) (#[.int .i64 i]) 3], Y42, Yt, YX] [2, 3] [0, 1] ((Yt ++ (YX ++ []))) (by kernel_rfl) rfl rfl ?_)))))))
     exact dr [0, 1, 2, 12] (i + 1) ⟨by omega, by omega, nt_on hNT (by rw [slo_none hO42] at hS42; exact hS42) hm0⟩
    ·
     refine qa0 [] [0, 1, 2, 12, 13] [(64, .bool true)] (ds_ (t_ (sq_ (qa0 [] [] [(6, .slice (some a45) m42 cq42)] (ds_ (rt ([]) (.slice (some a45) m42 cq42) ?_))))))
     have hpos : 0 < r42.length := List.length_pos_iff.2 fun e => nomatch hN42 e
     exact fun w' hw => ⟨r42, _, _, _, _, rfl, nt_hit hNT (by omega) hS42 hpos, hN42, hO42, two_tails14 (Hs.pick [[bx (γ39 0) (#[.int .i64 i]) 3], Y42, Yt, YX] [1, 3] [0, 2] (by kernel_rfl) hw)⟩
   ·
    refine qa [(3, .no)] [0, 1, 2, 12] [(51, .bool false)] ([¬ ((i : Int) < ((m : Nat) : Int))]) (al1 q35) (ds_ (f_ (at_leave _ rfl (ds_ (sq_ (qa0 [] [] [(6, .slice none 0 0)] (ds_ (rt ([]) (.slice none 0 0) ?_))))))))
    exact fun w' hw => ⟨[], none, 0, 0, [], rfl, nt_end hNT (by rw [hml]; omega) (by omega), fun _ => rfl, SlO.nil, one_tail14 (Hs.pick [Yt, YX] [1] [0] (by kernel_rfl) hw)⟩

set_option maxRecDepth 100000 in
theorem rstuckA_t (q : Option Addr) (m capq : Nat) (al : List CpuA) (w : World)
 (hal : Sv w q al) (hma : m = al.length) (hbm : m ≤ 1000) (hgd : ∀ x ∈ al, x.Good)
 : Calls Tryd.prog 10 #[.slice q m capq] w fun e w' => ∃ q' n' c' Y r, e = .returned (.slice q' n' c') ∧ StuckR (al.map CpuA.s) r ∧ SlO 3 Y q' n' c' r ∧ Below w.heap.size w w' ∧ Hs w Y w' := by
 refine enter (Hs.start w) Tryd.func10 rfl Tryd.ntmps10 rfl (sq_ (qa0 [] [0] [] (ds_ (sq_ (sq_ (ao_ (qo0 1 [] [0] [(5, .slice q m capq)] ?_)))))))
 rcases q3 : rightM (al.map CpuA.s) with _ | _
 ·
  refine cD (.bool false) (fun args w => Tryd.call17 args w) (fun w hw => by have := masks_t q m capq al w (hal.kept hw.below) hma hbm hgd; rw [q3] at this; exact this) (qo0 1 [] [0] [(7, .bool true)] (on_ (ds_ (t_ (sq_ (qa0 [] [] [(2, .slice none 0 0)] (ds_ (rt ([]) (.slice none 0 0) ?_))))))))
  exact fun w' hw => ⟨none, 0, 0, [], [], rfl, ⟨fun h => absurd (q3.symm.trans h) (by decide), fun _ => rfl⟩, SlO.nil, hw.below, hw.sub (List.nil_sublist _)⟩
 ·
  refine cD (.bool true) (fun args w => Tryd.call17 args w) (fun w hw => by have := masks_t q m capq al w (hal.kept hw.below) hma hbm hgd; rw [q3] at this; exact this) (qo0 1 [] [0] [(7, .bool false)] (on_ (ds_ (f_ (at_skip (ds_ (sq_ (sq_ ?_))))))))
  have hmr := all_right q3 (cpu_nn hgd)
  have hml : (al.map CpuA.s).length = m := by rw [List.length_map, hma]
  have hm8 : m ≤ 8 := by have := hmr.2; omega
  refine qa0 [] [0] [(3, .int .i64 1)] (ds_ (at_block (at_loop (α := Nat) [0, 3] (fun k => [(0, .slice q m capq), (3, .int .i64 (k : Nat))]) (fun k => []) (fun k => 1 ≤ k ∧ k ≤ m + 1 ∧ LowN (al.map CpuA.s) k) (fun k => m + 2 - k) 1 (by kernel_rfl) rfl ⟨Nat.le_refl _, by omega, low_one hmr.1⟩ ?_)))
  rintro k
  rintro ⟨hk, hkm, hLo⟩
  refine sq_ (sq_ ?_)
  by_cases q9 : ((k : Nat) : Int) ≤ ((m : Nat) : Int)
  ·
   refine qa [(3, .yes)] [0, 3] [(11, .bool true)] ([((k : Nat) : Int) ≤ ((m : Nat) : Int)]) (al1 q9) (ds_ (t_ (at_skip (ds_ (sq_ (at_block (sq_ (ao_ (qo0 2 [] [0, 3] [(14, .slice q m capq), (15, .int .i64 (k : Nat))] (cP (fun v L' => ∃ r_ q_ m_ c_ Y_, v = .slice q_ m_ c_ ∧ L' = List.take 0 ([]) ++ (Y_ ++ List.drop 0 ([])) ∧ StkF (al.map CpuA.s) [] k r_ ∧ (r_ = [] → q_ = none) ∧ SlO 3 Y_ q_ m_ c_ r_) (fun args w => Tryd.call22 args w) (fun w hw => (rstuck_t q m capq al hma hbm hgd hmr.1 k (by omega) (by omega) w (hal.kept hw.below) k [] [] [] none 0 0 w SlO.nil pl_nil (Nat.zero_add _) (Hs.start w)).mono fun e w' ⟨r_, q_, m_, c_, Y_, he, h1, h2, h3, hX⟩ => ⟨_, _, he, ⟨r_, q_, m_, c_, Y_, rfl, rfl, h1, h2, h3⟩, hw.join hX.below (one_tail14 hX) 0⟩) ?_))))))))))
   rintro v12 L12 ⟨r12, q12, m12, cq12, Y12, rfl, rfl, hS12, hN12, hO12⟩
   refine qo0 1 [] [0, 3] [(4, .slice q12 m12 cq12)] (on_ (ds_ (sq_ ?_)))
   rcases q12 with _ | a15
   ·
    refine qa0 [] [0, 3, 4] [(18, .bool false)] (ds_ (f_ (at_skip (done_block (ds_ (qa [(1, .fit)] [0] [(3, .int .i64 (k + 1 : Nat))] ([Fit .i64 ((k + 1 : Nat))]) (al1 (fit64 (by omega) (by omega))) (Done.drop (L' := []) ?_ (List.sublist_append_right _ _))))))))
    exact dr [0, 3] (k + 1) ⟨by omega, by omega, low_on hLo (by rw [slo_none hO12] at hS12; exact hS12) (by omega)⟩
   ·
    refine qa0 [] [0, 3, 4] [(18, .bool true)] (ds_ (t_ (sq_ (qa0 [] [] [(2, .slice (some a15) m12 cq12)] (ds_ (rt ([]) (.slice (some a15) m12 cq12) ?_))))))
    have hpos : 0 < r12.length := List.length_pos_iff.2 fun e => nomatch hN12 e
    exact fun w' hw => ⟨_, _, _, _, r12, rfl, ⟨fun _ => low_hit hLo hS12 hpos, fun h => absurd (h.symm.trans q3) (by decide)⟩, hO12, hw.below, one_tail14 (Hs.pick [Y12] [0] [] (by kernel_rfl) hw)⟩
  ·
   refine qa [(3, .no)] [0, 3] [(11, .bool false)] ([¬ (((k : Nat) : Int) ≤ ((m : Nat) : Int))]) (al1 q9) (ds_ (f_ (at_leave _ rfl (ds_ (sq_ (qa0 [] [] [(2, .slice none 0 0)] (ds_ (rt ([]) (.slice none 0 0) ?_))))))))
   exact fun w' hw => ⟨none, 0, 0, [], [], rfl, ⟨fun _ => low_end hLo (by omega), fun h => absurd (h.symm.trans q3) (by decide)⟩, SlO.nil, hw.below, hw.sub (List.nil_sublist _)⟩
end Go.Proofs.YtahccegfahghfaaDoor

/-! The statement GangRoom, walked. -/
namespace Go.Proofs.YtahccegfahghfaaDoor
open Go Go.RowKit
theorem stuckR_len {ms r : List Int} (h : StuckR ms r) (hl : ms.length ≤ 9) : r.length ≤ 9 := by
  cases e : rightM ms with
  | true =>
    rcases h.1 e with ⟨rfl, _⟩ | ⟨h1, _, _⟩
    · exact Nat.zero_le _
    · have := pl_len h1; omega
  | false => rw [h.2 e]; exact Nat.zero_le _

set_option maxRecDepth 100000 in
theorem room_law (p : Option Addr) (n cap : Nat) (xl : List MasksA) (w : World)
    (hxl : Sv w p xl) (hn : n = xl.length) (hcp : n ≤ cap) (hbg : cap ≤ 9223372036854775807) (hnm : ∀ x ∈ xl, x.Reads w)
    (hT : TabAt 0 Lib.deBruijn32tab w)
    : Calls Tryd.prog 3 #[.slice p n cap] w fun e w' => e = .returned (.bool true) ∧ Below w.heap.size w w' := by
  refine enter (Hs.start w) Tryd.func3 rfl Tryd.ntmps3 rfl (sq_ (qa0 [] [0] [] (ds_ (sq_ (sq_ (ao_ (cD (.bool true) (fun args w => Tryd.call5 args w) (fun w hw => wakes_t w) (qo0 1 [] [0] [(7, .bool false)] (on_ (ds_ (f_ (at_skip (ds_ (sq_ (sq_ (qa0 [] [] [(8, .slice p n cap), (9, .int .i64 (n : Nat)), (10, .int .i64 0)] (ds_ (at_block (at_loop (α := Nat) [8, 9, 10] (fun j => [(8, .slice p n cap), (9, .int .i64 (n : Nat)), (10, .int .i64 (j : Nat))]) (fun j => []) (fun j => j ≤ n) (fun j => n - j) 0 (by kernel_rfl) rfl (Nat.zero_le _) ?_)))))))))))))))))))
  rintro j
  rintro hj
  refine sq_ ?_
  by_cases q6 : ((j : Nat) : Int) < ((n : Nat) : Int)
  ·
    refine qa [(0, .yes)] [8, 9, 10] [(11, .bool true)] ([((j : Nat) : Int) < ((n : Nat) : Int)]) (al1 q6) (ds_ (sq_ (t_ (at_skip (ds_ (sq_ (at_block (sq_ ?_))))))))
    obtain ⟨b9, o9, rfl⟩ := hxl.pos (i := j) (by omega)
    obtain ⟨x11, hx11⟩ := get_some (l := xl) (m := j) (by omega)
    have hrx11 := hnm x11 (List.mem_of_getElem? hx11)
    have hsx11 : Sv w x11.p x11.l := hrx11.sv
    have hnx11 : x11.n = x11.l.length := hrx11.hn
    have hcx11 := hrx11.hc
    have hbx11 := hrx11.hb
    refine qa [(1, .at b9 o9 j), (2, .go (outs b9 (o9 + j * 1) [.slice x11.p x11.n x11.cap]))] [8, 9, 10] [(3, .int .i64 (j : Nat)), (4, .slice x11.p x11.n x11.cap)] ([(some ⟨b9, o9, none⟩ : Option Addr) = some ⟨b9, o9, none⟩, (j : Nat) = ((j : Nat) : Int), j < n] ++ (cellsP w b9 (o9 + j * 1) [.slice x11.p x11.n x11.cap])) (alA (al2 rfl (al2 rfl (al1 (by omega)))) (rd_pre (hxl.get hx11) _ rfl)) (ds_ (sq_ (sq_ ?_)))
    by_cases q14 : ((j : Nat) : Int) = (6 : Int)
    ·
      refine qa [(1, .yes)] [4, 8, 9, 10] [(16, .bool true)] ([((j : Nat) : Int) = (6 : Int)]) (al1 q14) (ds_ (t_ (at_leave _ rfl (ds_ (sq_ (qa0 [] [] [(2, .bool true)] (ds_ (rt ([]) (.bool true) ?_))))))))
      exact fun w' hw => ⟨rfl, hw.below⟩
    ·
      refine qa [(1, .no)] [4, 8, 9, 10] [(16, .bool false)] ([¬ (((j : Nat) : Int) = (6 : Int))]) (al1 q14) (ds_ (f_ (at_skip (ds_ (sq_ (ao_ (mo 6 [(5, .sl (.slice x11.p (min x11.n 9) x11.cap))] [8, 9, 10] (fun γ18 => [(17, .slice (some ⟨γ18 0, 0, none⟩) 0 0), (22, .slice x11.p (min x11.n 9) x11.cap)]) (fun γ18 L => bx (γ18 0) (#[]) 31 :: L) (fun γ18 => [SlRun Tryd.prog 24 (.slice x11.p x11.n x11.cap) none (some (.int .i64 (if (9 : Int) < ((x11.n : Nat) : Int) then 9 else (x11.n : Nat)))) none (.slice x11.p (min x11.n 9) x11.cap)]) (fun γ18 => (al1 (by rw [min_if9]; exact slE_hi (P := Tryd.prog) (h := (min x11.n 9)) (T := 24) (e := 31) (k := 1) (by_ := 4) (by kernel_rfl) (by omega)))) (fun γ18 => ops_append (α := CpuA) [] ([bx (γ18 0) (#[]) 31]) ([]) (mvE rfl) rfl (by kernel_rfl) (by kernel_rfl) (p := (some ⟨γ18 0, 0, none⟩)) (n := 0) (cap := 0) (m := (min x11.n 9)) (yv := .slice x11.p (min x11.n 9) x11.cap) (by kernel_rfl) (by kernel_rfl) (T := 31) (by_ := 4) (by kernel_rfl) ([]) (x11.l.take (min x11.n 9)) (SlO.lit (by rfl) (by rfl) (by simp [maxLen])) (fun w hw => src_svn Tryd.underlying24 ((hsx11.kept hw.below).take (min x11.n 9)) (by rw [List.length_take]; omega)) (by rw [List.length_take]; omega) (by have hmx : maxLen = 9223372036854775807 := rfl; omega) (by have hmx : maxLen = 9223372036854775807 := rfl; omega) (fun Y19 p19 cap19 hO19 => qo0 1 [] [8, 9, 10] [(5, .slice p19 (0 + (min x11.n 9)) cap19)] (on_ (ds_ (sq_ ?_))))))))))))
      obtain ⟨sl, hse⟩ : ∃ sl, sl = ([] ++ (x11.l.take (min x11.n 9))) := ⟨_, rfl⟩
      have hsO := SlO.as14 hO19 hse.symm
      have hsl9 : sl.length ≤ 9 := by rw [hse, List.nil_append, List.length_take]; omega
      have hgs : ∀ y ∈ sl, y.Good := fun y hy => hrx11.hi y (by rw [hse, List.nil_append] at hy; exact List.mem_of_mem_take hy)
      refine ao_ (qo0 1 [] [5, 8, 9, 10] [(24, .slice p19 (0 + (min x11.n 9)) cap19)] (cD (.bool (mayM (sl.map CpuA.s))) (fun args w => Tryd.call6 args w) (fun w hw => gmay_t p19 (0 + (min x11.n 9)) cap19 sl w (SlO.sub hsO hw (List.sublist_append_left Y19 _)) hsO.len (by have := hsO.len; have := hsl9; omega) hgs (tab_kept hT hw.below)) (qo0 1 [] [5, 8, 9, 10, 25] [(26, .slice p19 (0 + (min x11.n 9)) cap19)] (cD (.bool (mayM (sl.map CpuA.s))) (fun args w => Tryd.call7 args w) (fun w hw => rmay_t14 p19 (0 + (min x11.n 9)) cap19 sl w (SlO.sub hsO hw (List.sublist_append_left Y19 _)) hsO.len (by have := hsO.len; have := hsl9; omega) hgs) (qo 3 [(4, .eqs false)] [5, 8, 9, 10] [(29, .bool false), (30, .slice p19 (0 + (min x11.n 9)) cap19)] ([EqRun Tryd.prog .neq 4 (.tmp 25) (.tmp 27) (.bool (mayM (sl.map CpuA.s))) (.bool (mayM (sl.map CpuA.s))) false]) (al1 (bool_same _)) (cP (fun v L' => ∃ q_ n_ c_ Y_ r_, v = .slice q_ n_ c_ ∧ L' = List.take 0 ((Y19 ++ [])) ++ (Y_ ++ List.drop 0 ((Y19 ++ []))) ∧ StuckR (sl.map CpuA.s) r_ ∧ SlO 3 Y_ q_ n_ c_ r_) (fun args w => Tryd.call9 args w) (fun w hw => (gstuck_t p19 (0 + (min x11.n 9)) cap19 sl w (SlO.sub hsO hw (List.sublist_append_left Y19 _)) hsO.len (by have := hsO.len; have := hsl9; omega) hgs (tab_kept hT hw.below)).mono fun e w' ⟨q_, n_, c_, Y_, r_, he, hS, hO, hb, hY⟩ => ⟨_, _, he, ⟨q_, n_, c_, Y_, r_, rfl, rfl, hS, hO⟩, hw.join hb hY 0⟩) ?_))))))
      rintro v24 L24 ⟨q24, n24, c24, Y24, r24, rfl, rfl, hS24, hO24⟩
      have hl24 := hO24.len
      have hrl24 := stuckR_len hS24 (by rw [List.length_map]; omega)
      refine qo0 1 [] [8, 9, 10, 29, 31] [(32, .slice p19 (0 + (min x11.n 9)) cap19)] (cP (fun v L' => ∃ q_ n_ c_ Y_ r_, v = .slice q_ n_ c_ ∧ L' = List.take 0 ((Y24 ++ (Y19 ++ []))) ++ (Y_ ++ List.drop 0 ((Y24 ++ (Y19 ++ [])))) ∧ StuckR (sl.map CpuA.s) r_ ∧ SlO 3 Y_ q_ n_ c_ r_) (fun args w => Tryd.call10 args w) (fun w hw => (rstuckA_t p19 (0 + (min x11.n 9)) cap19 sl w (SlO.sub hsO hw (List.Sublist.trans (List.sublist_append_left Y19 _) (List.sublist_append_right Y24 _))) hsO.len (by have := hsO.len; have := hsl9; omega) hgs).mono fun e w' ⟨q_, n_, c_, Y_, r_, he, hS, hO, hb, hY⟩ => ⟨_, _, he, ⟨q_, n_, c_, Y_, r_, rfl, rfl, hS, hO⟩, hw.join hb hY 0⟩) ?_)
      rintro v26 L26 ⟨q26, n26, c26, Y26, r26, rfl, rfl, hS26, hO26⟩
      have hl26 := hO26.len
      have hrl26 := stuckR_len hS26 (by rw [List.length_map]; omega)
      refine cD (.bool true) (fun args w => Tryd.call8 args w) (fun w hw => by have := samei_t q24 n24 c24 r24 q26 n26 c26 r26 w (SlO.sub hO24 hw (List.Sublist.trans (List.sublist_append_left Y24 _) (List.sublist_append_right Y26 _))) hO24.len (by omega) (SlO.sub hO26 hw (List.sublist_append_left Y26 _)) hO26.len (by omega); rw [decide_eq_true (stuckR_uniq hS24 hS26)] at this; exact this) (qo0 2 [] [8, 9, 10] [(36, .bool false)] (on_ (ds_ (f_ (at_skip (done_block (ds_ (qa [(0, .fit)] [8, 9] [(10, .int .i64 (j + 1 : Nat))] ([Fit .i64 ((j + 1 : Nat))]) (al1 (fit64 (by omega) (by omega))) (Done.drop (L' := []) ?_ (((List.sublist_append_right _ _).trans (List.sublist_append_right _ _)).trans (List.sublist_append_right _ _)))))))))))
      exact done_round [8, 9, 10] (j + 1) (by kernel_rfl) rfl (by omega) (by first | omega | (simp only; omega))
  ·
    refine qa [(0, .no)] [8, 9, 10] [(11, .bool false)] ([¬ (((j : Nat) : Int) < ((n : Nat) : Int))]) (al1 q6) (ds_ (sq_ (f_ (at_leave _ rfl (ds_ (sq_ (qa0 [] [] [(2, .bool true)] (ds_ (rt ([]) (.bool true) ?_)))))))))
    exact fun w' hw => ⟨rfl, hw.below⟩
end Go.Proofs.YtahccegfahghfaaDoor

/-! The walker: what a row's inputs are: slices and structs, opened into lists. -/
namespace Go.Proofs.YtahccegfahghfaaDoor
open Go Go.RowKit

section
variable {H : Type} {enc : TypeId × Value → H} {P : Program} {w : World} {base : Nat} {spare : Nat → Bool} {held : Bool}
theorem spot_none {a : Addr} (h : a.spot = none) : a = ⟨a.block, a.off, none⟩ := by
  cases a
  simp at h
  simp [h]
theorem trod_sv {α : Type} [Enc α] {t e : TypeId} {fuel : Nat} {cs : List Value} {x : DataW H × List MemPlace} {Good : α → Prop} (ht : P.underlying t = some (.slice e)) (hc : P.cellsOf e = Enc.k α)
    (hopen : ∀ (fuel : Nat) (cs : List Value) (x : DataW H × List MemPlace), DataW.trod enc P w base spare held fuel e cs = some x → ∃ a : α, cs = Enc.enc a ∧ Good a) (h : DataW.trod enc P w base spare held fuel t cs = some x) :
    ∃ (p : Option Addr) (n cap : Nat) (l : List α), cs = [.slice p n cap] ∧ Sv w p l ∧ n = l.length ∧ n ≤ cap ∧ cap ≤ maxLen ∧ ∀ y ∈ l, Good y := by
  rcases Deep.open_slice ht h with ⟨hcs, _⟩ | ⟨a, len, cap, m, n', D, Pl, hcs, _, hle, hmx, hm, _, hi⟩
  · exact ⟨none, 0, 0, [], hcs, Sv.nil, rfl, Nat.le_refl _, Nat.zero_le _, fun y hy => by cases hy⟩
  · have key : ∀ i, i < len → ∃ y : α, w.cells? base (a.add (i * Enc.k α)) (Enc.k α) = some (Enc.enc y) ∧ Good y := fun i hin => by
      have him : i < m := by rw [hm]; split <;> omega
      obtain ⟨cs', h1, h2⟩ := hi i him
      obtain ⟨y, rfl, hy⟩ := hopen _ _ _ h2
      rw [hc] at h1
      exact ⟨y, h1, hy⟩
    rcases Nat.eq_zero_or_pos len with h0 | h0
    · subst h0
      exact ⟨some a, 0, cap, [], hcs, Sv.nil, rfl, hle, hmx, fun y hy => by cases hy⟩
    · obtain ⟨y0, hy0, _⟩ := key 0 h0
      haveI : Inhabited α := ⟨y0⟩
      obtain ⟨f, hf⟩ := Deep.choose_lt key
      obtain ⟨_, _, hcell⟩ := World.cells?_some hy0
      have h00 := hcell 0 Enc.pos
      have hlen0 : 0 < (Enc.enc y0).length := by rw [Enc.len]; exact Enc.pos
      rw [List.getElem?_eq_getElem hlen0, Nat.zero_mul, show (a.add 0).add 0 = a by simp [Addr.add]] at h00
      have hsp := spot_none (World.cell?_spot h00)
      refine ⟨some a, len, cap, (List.range len).map f, hcs, ⟨fun _ => ⟨a.block, a.off, by rw [← hsp]⟩, fun b o hbo i hil => ?_⟩, by simp, hle, hmx, fun y hy => ?_⟩
      · have hil' : i < len := by simpa using hil
        obtain ⟨_, _, hc2⟩ := World.cells?_some (hf i hil').1
        have ha : a = ⟨b, o, none⟩ := by simpa using hbo
        subst ha
        intro j v hj
        have hjk : j < Enc.k α := by rw [← Enc.len (f i)]; have := (List.getElem?_eq_some_iff.1 hj).1; simpa using this
        have h3 := hc2 j hjk
        rw [Deep.add_add] at h3
        have h4 : (Enc.enc (f i))[j]? = some v := by simpa using hj
        rw [h4] at h3
        have h5 : (⟨b, o, none⟩ : Addr).add (i * Enc.k α + j) = ⟨b, o + i * Enc.k α + j, none⟩ := by
          unfold Addr.add; split <;> simp_all <;> omega
        rw [h5] at h3
        exact h3
      · obtain ⟨i, hir, rfl⟩ := List.mem_map.1 hy
        exact (hf i (List.mem_range.1 hir)).2
end
end Go.Proofs.YtahccegfahghfaaDoor

/-! Sets, opened; what the listed table holds. -/
namespace Go.Proofs.YtahccegfahghfaaDoor
open Go Go.RowKit Go.ChangeShapes Go.WideShapes Go.ChangeAt
section
variable {H : Type} {enc : TypeId × Value → H} {w : World} {base : Nat} {spare : Nat → Bool} {held : Bool}
theorem cCpuT : Tryd.prog.cellsOf 31 = 1 := by kernel_rfl
theorem cMaskT : Tryd.prog.cellsOf 24 = 1 := by kernel_rfl
set_option maxRecDepth 100000 in
theorem cpu_open {fuel : Nat} {cs : List Value} {x : DataW H × List MemPlace} (h : DataW.trod enc Tryd.prog w base spare held fuel 31 cs = some x) : ∃ a : CpuA, cs = Enc.enc a ∧ a.Good := by
  obtain ⟨n, e, _, hf⟩ := DataW.trod_int Tryd.underlying31 h
  simp only [Lit.wf, Bool.and_eq_true, decide_eq_true_eq] at hf
  have h1 : (0 : Int) ≤ n := hf.1
  have h2 : n ≤ 4294967295 := hf.2
  exact ⟨⟨n⟩, e, ⟨h1, by show n < 4294967296; omega⟩⟩
set_option maxRecDepth 100000 in
theorem masksA_open {fuel : Nat} {cs : List Value} {x : DataW H × List MemPlace} (h : DataW.trod enc Tryd.prog w base spare held fuel 24 cs = some x) : ∃ a : MasksA, cs = Enc.enc a ∧ a.Reads w := by
  obtain ⟨p, m, cap, l, he, hs, hn, hle, hmx, hg⟩ := trod_sv (α := CpuA) (Good := fun x => x.Good) Tryd.underlying24 cCpuT (fun _ _ _ h => cpu_open h) h
  exact ⟨⟨p, m, cap, l⟩, he, ⟨hs, hn, hle, hmx, hg⟩⟩
set_option maxRecDepth 100000 in
theorem maskss_open {v : Value} {d : DataW H} {pl : List MemPlace} (hv : Value.okWide Tryd.prog w .any base 22 v) (h : DataW.Trod enc Tryd.prog w 0 spare held 22 v d pl) :
    ∃ (q : Option Addr) (m cap : Nat) (l : List MasksA), v = .slice q m cap ∧ Sv w q l ∧ m = l.length ∧ m ≤ cap ∧ cap ≤ 9223372036854775807 ∧ ∀ x ∈ l, x.Reads w := by
  obtain ⟨a, n, c, rfl⟩ := okWide_slice Tryd.underlying22 hv
  obtain ⟨fuel, hf⟩ := h
  obtain ⟨p, m, cap, l, he, hs, hn, hle, hmx, hg⟩ := trod_sv (α := MasksA) Tryd.underlying22 cMaskT (fun _ _ _ h => masksA_open h) hf
  have : a = p ∧ n = m ∧ c = cap := by simpa [Value.cells] using he
  obtain ⟨rfl, rfl, rfl⟩ := this
  exact ⟨a, n, c, l, rfl, hs, hn, hle, hmx, hg⟩
end
abbrev laidTab : List (String × DataW Unit) := [("math/bits.deBruijn32tab", Rows.laid_math_bits_deBruijn32tab)]
theorem gTab : Tryd.prog.globalNamed "math/bits.deBruijn32tab" = some 0 := by kernel_rfl
theorem tTab : (Tryd.prog.globals[0]?).map (·.type) = some 95 := by kernel_rfl
theorem cU8T : Tryd.prog.cellsOf 5 = 1 := by kernel_rfl
theorem door_met (os : Os) (args : Array Value) : laidMetH Tryd.prog laidTab ((World.doorLaid Tryd.prog 400 os).forCall (fun _ _ => 0) ⟨#[], args, []⟩).memory :=
  laidMetH_of_parts3 (fuel := 8) (laidMet_of_run' 8 (by kernel_rfl) (by kernel_rfl)) (by kernel_rfl) (by kernel_rfl)
/-- What the condition gives the walks. -/
theorem tab_of_laid {W : World} (h : laidMetH Tryd.prog laidTab W) : Go.Proofs.TabAt 0 Lib.deBruijn32tab W := by
  rw [MakeChecks.laidMetH_plain _ _ _ (by kernel_rfl)] at h
  obtain ⟨ps, ⟨g0, t0, cs0, f0, p0, q0, hg0, ht0, hv0, hd0, _, _⟩, _, _⟩ := h
  obtain rfl := Option.some.inj (gTab.symm.trans hg0)
  obtain rfl := Option.some.inj (tTab.symm.trans ht0)
  intro j hj
  have hj32 : j < 32 := hj
  obtain ⟨xs, m1, rfl, hx1, hlen, hn3, hel⟩ := DataW.trod_array Tryd.underlying95 hd0
  have h0 := hel j hj32
  rw [cU8T, Nat.mul_one] at h0
  have hjx : j < xs.length := by omega
  rw [List.getElem?_eq_getElem hjx] at h0
  obtain ⟨k, e1, e2, _⟩ := DataW.trod_int Tryd.underlying5 h0
  have e3 : (xs.map (·.1))[j]? = some (.lit (.int .u8 k)) := by rw [List.getElem?_map, List.getElem?_eq_getElem hjx, e2]; rfl
  have e4 : xs.map (·.1) = Lib.deBruijn32tab.map fun n : Nat => (.lit (.int .u8 n) : DataW Unit) := by
    have := congrArg Prod.fst hx1
    have h5 : DataW.agg (Lib.deBruijn32tab.map fun n : Nat => (.lit (.int .u8 n) : DataW Unit)) = .agg (xs.map (·.1)) := this
    injection h5 with h5
    exact h5.symm
  rw [e4, List.getElem?_map] at e3
  have e5 : (k : Int) = ((Lib.deBruijn32tab.getD j 0 : Nat) : Int) := by
    rw [List.getElem?_eq_getElem (show j < Lib.deBruijn32tab.length from hj)] at e3
    simp only [Option.map_some, Option.some.injEq, DataW.lit.injEq, Lit.int.injEq] at e3
    rw [List.getD_eq_getElem?_getD, List.getElem?_eq_getElem (show j < Lib.deBruijn32tab.length from hj)]
    exact e3.2.symm
  have e6 : cs0.toList[j]? = some (.int .u8 k) := by
    have := congrArg (fun l : List Value => l[0]?) e1
    simpa [List.getElem?_take, List.getElem?_drop] using this
  rw [World.var?_cell gTab hv0 j, ← Array.getElem?_toList, e6, e5]
end Go.Proofs.YtahccegfahghfaaDoor
