/- Texts of this proof, one behind the other. -/
import Derived.Test.YtnhkecfapohlgaaZc
import Derived.Test.YtnhkecfapohlgaaZb
/-! Queues: the top; where one is. -/
namespace Go.Proofs.Ytnhkecfapohlgaa
open Go Go.RowKit

set_option maxRecDepth 100000 in
theorem top_t (p : Option Addr) (n cap : Nat) (ts : List Rn) (w : World)
 (hts : Sv w p ts) (hn : n = ts.length) (hb : n ≤ 1000)
 (hU : ∀ r ∈ ts, r.U)
 : Calls Try.prog 49 #[.agg #[.slice p n cap]] w fun e w' => e = .returned (.tuple #[.agg #[.int .u64 (topV ts).1.hi, .int .u64 (topV ts).1.lo, .int .u64 (topV ts).1.w], .bool (topV ts).2]) ∧ Below w.heap.size w w' := by
 refine enter (Hs.start w) Try.func49 rfl Try.ntmps49 rfl (sq_ (ma0 [] [] (fun γ1 => [(1, .pointer (some ⟨γ1 0, 0, none⟩)), (2, .pointer (some ⟨γ1 1, 0, none⟩)), (3, .bool false)]) (fun γ1 L => bx (γ1 1) (#[.int .u64 0, .int .u64 0, .int .u64 0]) 33 :: bx (γ1 0) (#[.slice p n cap]) 24 :: L) (fun γ1 => ds_ (sq_ (sq_ (qa0 [(1, .go (owns 1 0 1))] [2, 3] [(7, .slice p n cap), (8, .int .i64 (n : Nat)), (9, .int .i64 0)] (ds_ (at_block (at_loop (α := Nat × Fq × Bool) [2, 3, 7, 8, 9] (fun ⟨j, f, b⟩ => [(2, .pointer (some ⟨γ1 1, 0, none⟩)), (3, .bool b), (7, .slice p n cap), (8, .int .i64 (n : Nat)), (9, .int .i64 (j : Nat))]) (fun ⟨j, f, b⟩ => [bx (γ1 1) (#[.int .u64 f.hi, .int .u64 f.lo, .int .u64 f.w]) 33, bx (γ1 0) (#[.slice p n cap]) 24]) (fun ⟨j, f, b⟩ => j ≤ n ∧ (f, b) = ((ts.take j).foldl topS (zF, false))) (fun ⟨j, f, b⟩ => n - j) (0, zF, false) (by kernel_rfl) rfl ⟨Nat.zero_le _, rfl⟩ ?_)))))))))
 rintro ⟨j, f, b⟩
 rintro ⟨hj, hs⟩
 have hUs : f.U := by have := foldT_U (j := j) hU; rw [← hs] at this; exact this
 refine sq_ ?_
 by_cases q4 : ((j : Nat) : Int) < ((n : Nat) : Int)
 ·
  refine qa [(0, .yes)] [2, 3, 7, 8, 9] [(10, .bool true)] ([((j : Nat) : Int) < ((n : Nat) : Int)]) (al1 q4) (ds_ (sq_ (t_ (at_skip (ds_ (sq_ (at_block (sq_ ?_))))))))
  obtain ⟨b7, o7, rfl⟩ := hts.pos (i := j) (by omega)
  obtain ⟨x9, hx9⟩ := get_some (l := ts) (m := j) (by omega)
  have hUx9 := hU x9 (List.mem_of_getElem? hx9)
  refine ma [(0, .at b7 o7 j), (1, .go (outs b7 (o7 + j * 5) [.int .i64 x9.id, .int .i64 x9.each, .int .u64 x9.th, .int .u64 x9.tl, .int .u64 x9.tw])), (3, .go (owns 0 0 5))] [2, 3, 7, 8, 9] (fun γ10 => [(5, .pointer (some ⟨γ10 0, 0, none⟩))]) (fun γ10 L => bx (γ10 0) (#[.int .i64 x9.id, .int .i64 x9.each, .int .u64 x9.th, .int .u64 x9.tl, .int .u64 x9.tw]) 35 :: L) (fun γ10 => [(some ⟨b7, o7, none⟩ : Option Addr) = some ⟨b7, o7, none⟩, (j : Nat) = ((j : Nat) : Int), j < n] ++ (cellsP w b7 (o7 + j * 5) [.int .i64 x9.id, .int .i64 x9.each, .int .u64 x9.th, .int .u64 x9.tl, .int .u64 x9.tw])) (fun γ10 => (alA (al2 rfl (al2 rfl (al1 (by omega)))) (rd_pre (hts.get hx9) _ rfl))) (fun γ10 => ds_ (sq_ ?_))
  rcases q12 : b with _ | _
  ·
   refine qa0 [] [2, 3, 5, 7, 8, 9] [(21, .bool true)] (ds_ (t_ (ma0 [(1, .go (owns 0 2 3)), (2, .go (owns 1 0 3))] [2, 7, 8, 9] (fun _ => [(3, .bool true)]) (fun _ L => (L.set 1 (bx (γ1 1) (#[.int .u64 x9.th, .int .u64 x9.tl, .int .u64 x9.tw]) 33))) (fun _ => done_block (ds_ (qa [(0, .fit)] [2, 3, 7, 8] [(9, .int .i64 (j + 1 : Nat))] ([Fit .i64 ((j + 1 : Nat))]) (al1 (fit64 (by omega) (by omega))) (Done.drop (L' := [bx (γ1 1) (#[.int .u64 x9.th, .int .u64 x9.tl, .int .u64 x9.tw]) 33, bx (γ1 0) (#[.slice (some ⟨b7, o7, none⟩) n cap]) 24]) ?_ (List.Sublist.cons _ (List.Sublist.cons_cons _ (List.Sublist.cons_cons _ (List.Sublist.refl _)))))))))))
   exact dr [2, 3, 7, 8, 9] (j + 1, x9.t, true) ⟨by omega, by rw [top_on hx9, ← hs, topS_yes (.inl q12)]⟩
  ·
   refine ao_ (qo0 6 [(4, .go (owns 0 2 3)), (5, .go (owns 1 0 3))] [2, 3, 5, 7, 8, 9] [(15, .bool false), (17, .agg #[.int .u64 x9.th, .int .u64 x9.tl, .int .u64 x9.tw]), (18, .agg #[.int .u64 f.hi, .int .u64 f.lo, .int .u64 f.w])] (cD (.int .i64 (cmpF x9.t f)) Try.call13 (fun w hw => fcmp_t x9.t f w hUx9.t hUs) ?_))
   by_cases q18 : ((cmpF x9.t f) : Int) > (0 : Int)
   ·
    refine qo 2 [(7, .yes)] [2, 3, 5, 7, 8, 9] [(21, .bool true)] ([((cmpF x9.t f) : Int) > (0 : Int)]) (al1 q18) (on_ (ds_ (t_ (ma0 [(1, .go (owns 0 2 3)), (2, .go (owns 1 0 3))] [2, 7, 8, 9] (fun _ => [(3, .bool true)]) (fun _ L => (L.set 1 (bx (γ1 1) (#[.int .u64 x9.th, .int .u64 x9.tl, .int .u64 x9.tw]) 33))) (fun _ => done_block (ds_ (qa [(0, .fit)] [2, 3, 7, 8] [(9, .int .i64 (j + 1 : Nat))] ([Fit .i64 ((j + 1 : Nat))]) (al1 (fit64 (by omega) (by omega))) (Done.drop (L' := [bx (γ1 1) (#[.int .u64 x9.th, .int .u64 x9.tl, .int .u64 x9.tw]) 33, bx (γ1 0) (#[.slice (some ⟨b7, o7, none⟩) n cap]) 24]) ?_ (List.Sublist.cons _ (List.Sublist.cons_cons _ (List.Sublist.cons_cons _ (List.Sublist.refl _))))))))))))
    exact dr [2, 3, 7, 8, 9] (j + 1, x9.t, true) ⟨by omega, by rw [top_on hx9, ← hs, topS_yes (.inr (by omega))]⟩
   ·
    refine qo 2 [(7, .no)] [2, 3, 5, 7, 8, 9] [(21, .bool false)] ([¬ (((cmpF x9.t f) : Int) > (0 : Int))]) (al1 q18) (on_ (ds_ (f_ (at_skip (done_block (ds_ (qa [(0, .fit)] [2, 3, 7, 8] [(9, .int .i64 (j + 1 : Nat))] ([Fit .i64 ((j + 1 : Nat))]) (al1 (fit64 (by omega) (by omega))) (Done.drop (L' := [bx (γ1 1) (#[.int .u64 f.hi, .int .u64 f.lo, .int .u64 f.w]) 33, bx (γ1 0) (#[.slice (some ⟨b7, o7, none⟩) n cap]) 24]) ?_ (List.Sublist.cons _ (List.Sublist.cons_cons _ (List.Sublist.cons_cons _ (List.Sublist.refl _))))))))))))
    exact dr [2, 3, 7, 8, 9] (j + 1, f, true) ⟨by omega, by rw [top_on hx9, ← hs, topS_no q12 (by omega)]; exact Prod.ext rfl q12.symm⟩
 ·
  refine qa [(0, .no)] [2, 3, 7, 8, 9] [(10, .bool false)] ([¬ (((j : Nat) : Int) < ((n : Nat) : Int))]) (al1 q4) (ds_ (sq_ (f_ (at_leave _ rfl (ds_ (sq_ (qa0 [(0, .go (owns 0 0 3)), (2, .go (owns 0 0 3))] [2] [(3, .bool b)] (ds_ (rt (owns 0 0 3) (.tuple #[.agg #[.int .u64 f.hi, .int .u64 f.lo, .int .u64 f.w], .bool b]) ?_)))))))))
  exact fun w' hw => ⟨by rw [← top_end (ts := ts) (j := j) (by omega), ← hs], hw.below⟩

set_option maxRecDepth 100000 in
theorem at1_t (x : Rn) (k : Int) (w : World)
 : Calls Try.prog 67 #[.agg #[.int .i64 x.id, .int .i64 x.each, .int .u64 x.th, .int .u64 x.tl, .int .u64 x.tw], .int .i64 k] w fun e w' => e = .returned (.int .i64 (subW x.id k)) ∧ Below w.heap.size w w' := by
 refine enter (Hs.start w) Try.func67 rfl Try.ntmps67 rfl (sq_ (ma0 [] [1] (fun γ1 => [(2, .pointer (some ⟨γ1 0, 0, none⟩))]) (fun γ1 L => bx (γ1 0) (#[.int .i64 x.id, .int .i64 x.each, .int .u64 x.th, .int .u64 x.tl, .int .u64 x.tw]) 35 :: L) (fun γ1 => ds_ (sq_ (ao_ (qo0 3 [(1, .go (owns 0 0 1))] [] [(6, .int .i64 x.id), (7, .int .i64 k)] (ops_opv (.int .i64 (subW x.id k)) (by kernel_rfl) (by kernel_rfl) (by kernel_rfl) (fun w => run_subW (a := x.id) (b := k) (subW x.id k) rfl (by kernel_rfl) (by kernel_rfl) rfl w) (qo0 1 [] [] [(4, .int .i64 (subW x.id k))] (on_ (ds_ (rt ([]) (.int .i64 (subW x.id k)) ?_)))))))))))
 exact fun w' hw => ⟨rfl, hw.below⟩

set_option maxRecDepth 100000 in
theorem bst (g : FuncId) (cb : Array Value) (p : Option Addr) (n cap : Nat) (l : List Rn) (f c : Rn → Int) (k : Int) (w : World)
 (hg : ∀ args w, (callFunc g args).run Try.prog w = .ok (.enter g args) w)
 (hsl : Sv w p l) (hn : n = l.length) (hb : n ≤ 4611686018427387903)
 (hc : ∀ x ∈ l, ∀ w', Below w.heap.size w w' → Calls Try.prog g (#[.agg #[.int .i64 x.id, .int .i64 x.each, .int .u64 x.th, .int .u64 x.tl, .int .u64 x.tw], .int .i64 k] ++ cb) w' fun e w1 => e = .returned (.int .i64 (c x)) ∧ Below w'.heap.size w' w1)
 (hs : ∀ x ∈ l, (c x < 0 ↔ f x < k) ∧ (c x = 0 ↔ f x = k)) (ha : AscK f l)
 : Calls Try.prog 66 #[.slice p n cap, .int .i64 k, .func (.func g) #[] cb] w fun e w' => e = .returned (.tuple #[.int .i64 (posK f l k : Nat), .bool (hasK f l k)]) ∧ Below w.heap.size w w' := by
 refine enter (Hs.start w) Try.func66 rfl Try.ntmps66 rfl (sq_ (qa0 [] [0, 1, 2] [] (ds_ (sq_ (qa0 [] [0, 1, 2] [(8, .int .i64 (n : Nat))] (ds_ (sq_ (qa0 [] [0, 1, 2, 8] [(9, .int .i64 0), (10, .int .i64 (n : Nat))] (ds_ (sq_ (at_block (at_loop (α := Nat × Nat) [0, 1, 2, 8, 9, 10] (fun ⟨lo, hi⟩ => [(0, .slice p n cap), (1, .int .i64 k), (2, .func (.func g) #[] cb), (8, .int .i64 (n : Nat)), (9, .int .i64 (lo : Nat)), (10, .int .i64 (hi : Nat))]) (fun ⟨lo, hi⟩ => []) (fun ⟨lo, hi⟩ => lo ≤ hi ∧ hi ≤ n ∧ BsK f l k lo hi) (fun ⟨lo, hi⟩ => hi - lo) (0, n) (by kernel_rfl) rfl ⟨Nat.zero_le _, Nat.le_refl _, by subst hn; exact bsk_start⟩ ?_))))))))))))
 rintro ⟨lo, hi⟩
 rintro ⟨h1, h2, hI⟩
 refine sq_ (sq_ ?_)
 by_cases q5 : ((lo : Nat) : Int) < ((hi : Nat) : Int)
 ·
  refine qa [(2, .yes)] [0, 1, 2, 8, 9, 10] [(17, .bool true)] ([((lo : Nat) : Int) < ((hi : Nat) : Int)]) (al1 q5) (ds_ (t_ (at_skip (ds_ (at_block (sq_ (qa [(2, .fit), (3, .fit), (4, .is [] (.int .u64 ((lo + hi) / 2 : Nat))), (5, .fit)] [0, 1, 2, 8, 9, 10] [(11, .int .i64 ((lo + hi) / 2 : Nat))] ([Fit .i64 ((lo + hi : Nat))] ++ ([Fit .u64 ((lo + hi : Nat))] ++ ([Value.int .u64 (Int.fdiv ((lo : Nat) + (hi : Nat)) (2 ^ 1)) = .int .u64 (((lo + hi) / 2 : Nat) : Int)] ++ ([Fit .i64 (((lo + hi) / 2 : Nat))])))) (alA (al1 (fit64 (by omega) (by omega))) (alA (al1 (fitU (by omega) (by omega))) (alA (al1 (half lo hi)) (al1 (fit64 (by omega) (by omega)))))) (ds_ (sq_ ?_)))))))))
  obtain ⟨b9, o9, rfl⟩ := hsl.pos (i := (lo + hi) / 2) (by omega)
  obtain ⟨x11, hx11⟩ := get_some (l := l) (m := (lo + hi) / 2) (by omega)
  refine ao_ (qo 6 [(3, .at b9 o9 ((lo + hi) / 2)), (4, .go (outs b9 (o9 + ((lo + hi) / 2) * 5) [.int .i64 x11.id, .int .i64 x11.each, .int .u64 x11.th, .int .u64 x11.tl, .int .u64 x11.tw]))] [0, 1, 2, 8, 9, 10, 11] [(24, .func (.func g) #[] cb), (28, .agg #[.int .i64 x11.id, .int .i64 x11.each, .int .u64 x11.th, .int .u64 x11.tl, .int .u64 x11.tw]), (29, .int .i64 k)] ([(some ⟨b9, o9, none⟩ : Option Addr) = some ⟨b9, o9, none⟩, ((lo + hi) / 2 : Nat) = (((lo + hi) / 2 : Nat) : Int), (lo + hi) / 2 < n] ++ (cellsP w b9 (o9 + ((lo + hi) / 2) * 5) [.int .i64 x11.id, .int .i64 x11.each, .int .u64 x11.th, .int .u64 x11.tl, .int .u64 x11.tw])) (alA (al2 rfl (al2 rfl (al1 (by omega)))) (rd_pre (hsl.get hx11) _ rfl)) (cD (.int .i64 (c x11)) hg (fun w hw => hc x11 (List.mem_of_getElem? hx11) w hw.below) ?_))
  by_cases q14 : (c x11 : Int) < (0 : Int)
  ·
   refine qo 1 [(7, .yes)] [0, 1, 2, 8, 9, 10, 11] [(31, .bool true)] ([(c x11 : Int) < (0 : Int)]) (al1 q14) (on_ (ds_ (t_ (qa [(1, .fit)] [0, 1, 2, 8, 10] [(9, .int .i64 ((lo + hi) / 2 + 1 : Nat))] ([Fit .i64 (((lo + hi) / 2 + 1 : Nat))]) (al1 (fit64 (by omega) (by omega))) (done_block ?_)))))
   exact dr [0, 1, 2, 8, 9, 10] ((lo + hi) / 2 + 1, hi) ⟨by omega, by omega, bsk_low hI ha hx11 ((hs x11 (List.mem_of_getElem? hx11)).1.1 q14)⟩
  ·
   refine qo 1 [(7, .no)] [0, 1, 2, 8, 9, 10, 11] [(31, .bool false)] ([¬ ((c x11 : Int) < (0 : Int))]) (al1 q14) (on_ (ds_ (f_ (qa0 [] [0, 1, 2, 8, 9] [(10, .int .i64 ((lo + hi) / 2 : Nat))] (done_block ?_)))))
   exact dr [0, 1, 2, 8, 9, 10] (lo, (lo + hi) / 2) ⟨by omega, by omega, bsk_high hI ha hx11 (fun h => q14 ((hs x11 (List.mem_of_getElem? hx11)).1.2 h))⟩
 ·
  refine qa [(2, .no)] [0, 1, 2, 8, 9, 10] [(17, .bool false)] ([¬ (((lo : Nat) : Int) < ((hi : Nat) : Int))]) (al1 q5) (ds_ (f_ (at_leave _ rfl (ds_ (sq_ ?_)))))
  by_cases q21 : ((lo : Nat) : Int) < ((n : Nat) : Int)
  ·
   obtain ⟨b23, o23, rfl⟩ := hsl.pos (i := lo) (by omega)
   obtain ⟨x25, hx25⟩ := get_some (l := l) (m := lo) (by omega)
   refine ao_ (qo 11 [(3, .yes), (8, .at b23 o23 lo), (9, .go (outs b23 (o23 + lo * 5) [.int .i64 x25.id, .int .i64 x25.each, .int .u64 x25.th, .int .u64 x25.tl, .int .u64 x25.tw]))] [] [(35, .int .i64 (lo : Nat)), (39, .bool true), (40, .func (.func g) #[] cb), (44, .agg #[.int .i64 x25.id, .int .i64 x25.each, .int .u64 x25.th, .int .u64 x25.tl, .int .u64 x25.tw]), (45, .int .i64 k)] ([((lo : Nat) : Int) < ((n : Nat) : Int)] ++ ([(some ⟨b23, o23, none⟩ : Option Addr) = some ⟨b23, o23, none⟩, (lo : Nat) = ((lo : Nat) : Int), lo < n] ++ (cellsP w b23 (o23 + lo * 5) [.int .i64 x25.id, .int .i64 x25.each, .int .u64 x25.th, .int .u64 x25.tl, .int .u64 x25.tw]))) (alA (al1 q21) (alA (al2 rfl (al2 rfl (al1 (by omega)))) (rd_pre (hsl.get hx25) _ rfl))) (cD (.int .i64 (c x25)) hg (fun w hw => hc x25 (List.mem_of_getElem? hx25) w hw.below) ?_))
   by_cases q28 : (c x25 : Int) = (0 : Int)
   ·
    refine qo 4 [(12, .yes)] [] [(6, .int .i64 (lo : Nat)), (7, .bool true)] ([(c x25 : Int) = (0 : Int)]) (al1 q28) (on_ (ds_ (rt ([]) (.tuple #[.int .i64 (lo : Nat), .bool true]) ?_)))
    exact fun w' hw => ⟨by rw [bsk_end hI (by omega) h1 (by omega), hask_found hx25 ((hs x25 (List.mem_of_getElem? hx25)).2.1 q28)], hw.below⟩
   ·
    refine qo 4 [(12, .no)] [] [(6, .int .i64 (lo : Nat)), (7, .bool false)] ([¬ ((c x25 : Int) = (0 : Int))]) (al1 q28) (on_ (ds_ (rt ([]) (.tuple #[.int .i64 (lo : Nat), .bool false]) ?_)))
    exact fun w' hw => ⟨by rw [bsk_end hI (by omega) h1 (by omega), hask_other hI (by omega) h1 ha hx25 (fun h => q28 ((hs x25 (List.mem_of_getElem? hx25)).2.2 h))], hw.below⟩
  ·
   refine qa [(3, .no)] [] [(6, .int .i64 (lo : Nat)), (7, .bool false)] ([¬ (((lo : Nat) : Int) < ((n : Nat) : Int))]) (al1 q21) (ds_ (rt ([]) (.tuple #[.int .i64 (lo : Nat), .bool false]) ?_))
   exact fun w' hw => ⟨by rw [bsk_end hI (by omega) h1 (by omega), hask_none hI (by omega) h1 (by omega)], hw.below⟩

set_option maxRecDepth 100000 in
theorem bswt (g : FuncId) (cb : Array Value) (p : Option Addr) (n cap : Nat) (l : List Rn) (c : Rn → Int) (k : Int) (w : World)
 (hg : ∀ args w, (callFunc g args).run Try.prog w = .ok (.enter g args) w)
 (hsl : Sv w p l) (hn : n = l.length) (hb : n ≤ 4611686018427387903)
 (hc : ∀ x ∈ l, ∀ w', Below w.heap.size w w' → Calls Try.prog g (#[.agg #[.int .i64 x.id, .int .i64 x.each, .int .u64 x.th, .int .u64 x.tl, .int .u64 x.tw], .int .i64 k] ++ cb) w' fun e w1 => e = .returned (.int .i64 (c x)) ∧ Below w'.heap.size w' w1)
 : Calls Try.prog 66 #[.slice p n cap, .int .i64 k, .func (.func g) #[] cb] w fun e w' => ∃ (i : Nat) (b : Bool), e = .returned (.tuple #[.int .i64 (i : Nat), .bool b]) ∧ i ≤ n ∧ (b = true → ∃ x, l[i]? = some x ∧ c x = 0) ∧ Below w.heap.size w w' := by
 refine enter (Hs.start w) Try.func66 rfl Try.ntmps66 rfl (sq_ (qa0 [] [0, 1, 2] [] (ds_ (sq_ (qa0 [] [0, 1, 2] [(8, .int .i64 (n : Nat))] (ds_ (sq_ (qa0 [] [0, 1, 2, 8] [(9, .int .i64 0), (10, .int .i64 (n : Nat))] (ds_ (sq_ (at_block (at_loop (α := Nat × Nat) [0, 1, 2, 8, 9, 10] (fun ⟨lo, hi⟩ => [(0, .slice p n cap), (1, .int .i64 k), (2, .func (.func g) #[] cb), (8, .int .i64 (n : Nat)), (9, .int .i64 (lo : Nat)), (10, .int .i64 (hi : Nat))]) (fun ⟨lo, hi⟩ => []) (fun ⟨lo, hi⟩ => lo ≤ hi ∧ hi ≤ n) (fun ⟨lo, hi⟩ => hi - lo) (0, n) (by kernel_rfl) rfl ⟨Nat.zero_le _, Nat.le_refl _⟩ ?_))))))))))))
 rintro ⟨lo, hi⟩
 rintro ⟨h1, h2⟩
 refine sq_ (sq_ ?_)
 by_cases q5 : ((lo : Nat) : Int) < ((hi : Nat) : Int)
 ·
  refine qa [(2, .yes)] [0, 1, 2, 8, 9, 10] [(17, .bool true)] ([((lo : Nat) : Int) < ((hi : Nat) : Int)]) (al1 q5) (ds_ (t_ (at_skip (ds_ (at_block (sq_ (qa [(2, .fit), (3, .fit), (4, .is [] (.int .u64 ((lo + hi) / 2 : Nat))), (5, .fit)] [0, 1, 2, 8, 9, 10] [(11, .int .i64 ((lo + hi) / 2 : Nat))] ([Fit .i64 ((lo + hi : Nat))] ++ ([Fit .u64 ((lo + hi : Nat))] ++ ([Value.int .u64 (Int.fdiv ((lo : Nat) + (hi : Nat)) (2 ^ 1)) = .int .u64 (((lo + hi) / 2 : Nat) : Int)] ++ ([Fit .i64 (((lo + hi) / 2 : Nat))])))) (alA (al1 (fit64 (by omega) (by omega))) (alA (al1 (fitU (by omega) (by omega))) (alA (al1 (half lo hi)) (al1 (fit64 (by omega) (by omega)))))) (ds_ (sq_ ?_)))))))))
  obtain ⟨b9, o9, rfl⟩ := hsl.pos (i := (lo + hi) / 2) (by omega)
  obtain ⟨x11, hx11⟩ := get_some (l := l) (m := (lo + hi) / 2) (by omega)
  refine ao_ (qo 6 [(3, .at b9 o9 ((lo + hi) / 2)), (4, .go (outs b9 (o9 + ((lo + hi) / 2) * 5) [.int .i64 x11.id, .int .i64 x11.each, .int .u64 x11.th, .int .u64 x11.tl, .int .u64 x11.tw]))] [0, 1, 2, 8, 9, 10, 11] [(24, .func (.func g) #[] cb), (28, .agg #[.int .i64 x11.id, .int .i64 x11.each, .int .u64 x11.th, .int .u64 x11.tl, .int .u64 x11.tw]), (29, .int .i64 k)] ([(some ⟨b9, o9, none⟩ : Option Addr) = some ⟨b9, o9, none⟩, ((lo + hi) / 2 : Nat) = (((lo + hi) / 2 : Nat) : Int), (lo + hi) / 2 < n] ++ (cellsP w b9 (o9 + ((lo + hi) / 2) * 5) [.int .i64 x11.id, .int .i64 x11.each, .int .u64 x11.th, .int .u64 x11.tl, .int .u64 x11.tw])) (alA (al2 rfl (al2 rfl (al1 (by omega)))) (rd_pre (hsl.get hx11) _ rfl)) (cD (.int .i64 (c x11)) hg (fun w hw => hc x11 (List.mem_of_getElem? hx11) w hw.below) ?_))
  by_cases q14 : (c x11 : Int) < (0 : Int)
  ·
   refine qo 1 [(7, .yes)] [0, 1, 2, 8, 9, 10, 11] [(31, .bool true)] ([(c x11 : Int) < (0 : Int)]) (al1 q14) (on_ (ds_ (t_ (qa [(1, .fit)] [0, 1, 2, 8, 10] [(9, .int .i64 ((lo + hi) / 2 + 1 : Nat))] ([Fit .i64 (((lo + hi) / 2 + 1 : Nat))]) (al1 (fit64 (by omega) (by omega))) (done_block ?_)))))
   exact dr [0, 1, 2, 8, 9, 10] ((lo + hi) / 2 + 1, hi) ⟨by omega, by omega⟩
  ·
   refine qo 1 [(7, .no)] [0, 1, 2, 8, 9, 10, 11] [(31, .bool false)] ([¬ ((c x11 : Int) < (0 : Int))]) (al1 q14) (on_ (ds_ (f_ (qa0 [] [0, 1, 2, 8, 9] [(10, .int .i64 ((lo + hi) / 2 : Nat))] (done_block ?_)))))
   exact dr [0, 1, 2, 8, 9, 10] (lo, (lo + hi) / 2) ⟨by omega, by omega⟩
 ·
  refine qa [(2, .no)] [0, 1, 2, 8, 9, 10] [(17, .bool false)] ([¬ (((lo : Nat) : Int) < ((hi : Nat) : Int))]) (al1 q5) (ds_ (f_ (at_leave _ rfl (ds_ (sq_ ?_)))))
  by_cases q21 : ((lo : Nat) : Int) < ((n : Nat) : Int)
  ·
   obtain ⟨b23, o23, rfl⟩ := hsl.pos (i := lo) (by omega)
   obtain ⟨x25, hx25⟩ := get_some (l := l) (m := lo) (by omega)
   refine ao_ (qo 11 [(3, .yes), (8, .at b23 o23 lo), (9, .go (outs b23 (o23 + lo * 5) [.int .i64 x25.id, .int .i64 x25.each, .int .u64 x25.th, .int .u64 x25.tl, .int .u64 x25.tw]))] [] [(35, .int .i64 (lo : Nat)), (39, .bool true), (40, .func (.func g) #[] cb), (44, .agg #[.int .i64 x25.id, .int .i64 x25.each, .int .u64 x25.th, .int .u64 x25.tl, .int .u64 x25.tw]), (45, .int .i64 k)] ([((lo : Nat) : Int) < ((n : Nat) : Int)] ++ ([(some ⟨b23, o23, none⟩ : Option Addr) = some ⟨b23, o23, none⟩, (lo : Nat) = ((lo : Nat) : Int), lo < n] ++ (cellsP w b23 (o23 + lo * 5) [.int .i64 x25.id, .int .i64 x25.each, .int .u64 x25.th, .int .u64 x25.tl, .int .u64 x25.tw]))) (alA (al1 q21) (alA (al2 rfl (al2 rfl (al1 (by omega)))) (rd_pre (hsl.get hx25) _ rfl))) (cD (.int .i64 (c x25)) hg (fun w hw => hc x25 (List.mem_of_getElem? hx25) w hw.below) ?_))
   by_cases q28 : (c x25 : Int) = (0 : Int)
   ·
    refine qo 4 [(12, .yes)] [] [(6, .int .i64 (lo : Nat)), (7, .bool true)] ([(c x25 : Int) = (0 : Int)]) (al1 q28) (on_ (ds_ (rt ([]) (.tuple #[.int .i64 (lo : Nat), .bool true]) ?_)))
    exact fun w' hw => ⟨lo, true, rfl, by omega, fun _ => ⟨x25, hx25, q28⟩, hw.below⟩
   ·
    refine qo 4 [(12, .no)] [] [(6, .int .i64 (lo : Nat)), (7, .bool false)] ([¬ ((c x25 : Int) = (0 : Int))]) (al1 q28) (on_ (ds_ (rt ([]) (.tuple #[.int .i64 (lo : Nat), .bool false]) ?_)))
    exact fun w' hw => ⟨lo, false, rfl, by omega, fun h => (by cases h), hw.below⟩
  ·
   refine qa [(3, .no)] [] [(6, .int .i64 (lo : Nat)), (7, .bool false)] ([¬ (((lo : Nat) : Int) < ((n : Nat) : Int))]) (al1 q21) (ds_ (rt ([]) (.tuple #[.int .i64 (lo : Nat), .bool false]) ?_))
   exact fun w' hw => ⟨lo, false, rfl, by omega, fun h => (by cases h), hw.below⟩

set_option maxRecDepth 100000 in
theorem at_t (p : Option Addr) (n cap : Nat) (ts : List Rn) (k : Int) (w : World)
 (hts : Sv w p ts) (hn : n = ts.length) (hb : n ≤ 1000)
 (hg : GoodQ ts) (hk : idV k = true)
 : Calls Try.prog 34 #[.slice p n cap, .int .i64 k] w fun e w' => e = .returned (.tuple #[.int .i64 (posK Rn.id ts k : Nat), .bool (hasK Rn.id ts k)]) ∧ Below w.heap.size w w' := by
 refine enter (Hs.start w) Try.func34 rfl Try.ntmps34 rfl (sq_ (qa0 [] [0, 1] [] (ds_ (sq_ (ao_ (qo0 2 [] [] [(6, .slice p n cap), (7, .int .i64 k)] (cD (.tuple #[.int .i64 (posK Rn.id ts k : Nat), .bool (hasK Rn.id ts k)]) Try.call66 (fun w hw => bst 67 #[] p n cap ts Rn.id (fun x => subW x.id k) k w Try.call67 (hts.kept hw.below) hn (by omega) (fun x hx w' hb' => at1_t x k w') (fun x hx => subW_iff (hg.bnd hx).1 (hg.bnd hx).2.1 (idV_iff.1 hk).1 (idV_iff.1 hk).2) hg.rs.asc) (qo0 4 [] [] [(4, .int .i64 (posK Rn.id ts k : Nat)), (5, .bool (hasK Rn.id ts k))] (on_ (ds_ (rt ([]) (.tuple #[.int .i64 (posK Rn.id ts k : Nat), .bool (hasK Rn.id ts k)]) ?_)))))))))))
 exact fun w' hw => ⟨rfl, hw.below⟩

set_option maxRecDepth 100000 in
theorem atw_t (p : Option Addr) (n cap : Nat) (ts : List Rn) (k : Int) (w : World)
 (hts : Sv w p ts) (hn : n = ts.length) (hb : n ≤ 1000)
 (hU : ∀ r ∈ ts, r.U)
 (hk0 : -9223372036854775808 ≤ k) (hk1 : k ≤ 9223372036854775807)
 : Calls Try.prog 34 #[.slice p n cap, .int .i64 k] w fun e w' => ∃ (i : Nat) (b : Bool), e = .returned (.tuple #[.int .i64 (i : Nat), .bool b]) ∧ i ≤ n ∧ (b = true → ∃ x, ts[i]? = some x ∧ x.id = k) ∧ Below w.heap.size w w' := by
 refine enter (Hs.start w) Try.func34 rfl Try.ntmps34 rfl (sq_ (qa0 [] [0, 1] [] (ds_ (sq_ (ao_ (qo0 2 [] [] [(6, .slice p n cap), (7, .int .i64 k)] (cP (fun v L' => ∃ (i : Nat) (b : Bool), v = .tuple #[.int .i64 (i : Nat), .bool b] ∧ L' = [] ∧ i ≤ n ∧ (b = true → ∃ x, ts[i]? = some x ∧ subW x.id k = 0)) Try.call66 (fun w hw => (bswt 67 #[] p n cap ts (fun x => subW x.id k) k w Try.call67 (hts.kept hw.below) hn (by omega) (fun x hx w' hb' => at1_t x k w')).mono (fun e w' ⟨i, b, he, h1, h2, h3⟩ => ⟨_, _, he, ⟨i, b, rfl, rfl, h1, h2⟩, hw.kept h3⟩)) ?_)))))))
 rintro v3 L3 ⟨i3, b3, rfl, rfl, hi3, hb3⟩
 refine qo0 4 [] [] [(4, .int .i64 (i3 : Nat)), (5, .bool b3)] (on_ (ds_ (rt ([]) (.tuple #[.int .i64 (i3 : Nat), .bool b3]) ?_)))
 exact fun w' hw => ⟨i3, b3, rfl, hi3, fun h => by obtain ⟨x, hx, hc⟩ := hb3 h; exact ⟨x, hx, subW_zero hc (hU x (List.mem_of_getElem? hx)).i0 (hU x (List.mem_of_getElem? hx)).i1 hk0 hk1⟩, hw.below⟩
theorem atx_t (p : Option Addr) (n cap : Nat) (ts : List Rn) (k : Int) (w : World)
 (hts : Sv w p ts) (hn : n = ts.length) (hb : n ≤ 1000)
 (hU : ∀ r ∈ ts, r.U) (hk0 : -9223372036854775808 ≤ k) (hk1 : k ≤ 9223372036854775807) (hg : GoodQ ts) (hk : idV k = false)
 : Calls Try.prog 34 #[.slice p n cap, .int .i64 k] w fun e w' => ∃ (i : Nat), e = .returned (.tuple #[.int .i64 (i : Nat), .bool false]) ∧ Below w.heap.size w w' :=
 (atw_t p n cap ts k w hts hn hb hU hk0 hk1).mono fun e w' ⟨i, b, he, h1, h2, h3⟩ => by
  cases b with
  | false => exact ⟨i, he, h3⟩
  | true =>
   obtain ⟨x, hx, hxk⟩ := h2 rfl
   have := hg.bnd (List.mem_of_getElem? hx)
   exact absurd (idV_iff.2 ⟨by omega, by omega⟩ : idV k = true) (by rw [hk]; decide)
end Go.Proofs.Ytnhkecfapohlgaa

/-! Queues: Get. -/
namespace Go.Proofs.Ytnhkecfapohlgaa
open Go Go.RowKit

set_option maxRecDepth 100000 in
theorem getq_t (p : Option Addr) (n cap : Nat) (ts : List Rn) (k : Int) (w : World)
 (hts : Sv w p ts) (hn : n = ts.length) (hb : n ≤ 1000)
 (hU : ∀ r ∈ ts, r.U)
 (hk0 : -9223372036854775808 ≤ k) (hk1 : k ≤ 9223372036854775807)
 : Calls Try.prog 11 #[.agg #[.slice p n cap], .int .i64 k] w fun e w' => e = .returned (getO (getQ ts k)) ∧ Below w.heap.size w w' := by
 refine enter (Hs.start w) Try.func11 rfl Try.ntmps11 rfl (sq_ (ma0 [] [1] (fun γ1 => [(2, .pointer (some ⟨γ1 0, 0, none⟩)), (4, .pointer (some ⟨γ1 1, 0, none⟩))]) (fun γ1 L => bx (γ1 1) (#[.int .i64 0, .int .i64 0, .int .u64 0, .int .u64 0, .int .u64 0]) 35 :: bx (γ1 0) (#[.slice p n cap]) 24 :: L) (fun γ1 => ds_ (sq_ ?_))))
 rcases q2 : chkQ ts with _ | _
 ·
  refine ao_ (qo0 3 [(1, .go (owns 1 0 1))] [2, 4] [(10, .slice p n cap), (11, .int .i64 k)] (cP (fun v L' => ∃ (i : Nat) (b : Bool), v = .tuple #[.int .i64 (i : Nat), .bool b] ∧ L' = [bx (γ1 1) (#[.int .i64 0, .int .i64 0, .int .u64 0, .int .u64 0, .int .u64 0]) 35, bx (γ1 0) (#[.slice p n cap]) 24] ∧ i ≤ n ∧ (b = true → ∃ x, ts[i]? = some x ∧ x.id = k)) Try.call34 (fun w hw => (atw_t p n cap ts k w (hts.kept hw.below) hn (by omega) hU hk0 hk1).mono (fun e w' ⟨i, b, he, h1, h2, h3⟩ => ⟨_, _, he, ⟨i, b, rfl, rfl, h1, h2⟩, hw.kept h3⟩)) ?_))
  rintro v4 L4 ⟨i4, b4, rfl, rfl, hi4, hb4⟩
  refine qo0 5 [] [2, 4] [(6, .int .i64 (i4 : Nat)), (7, .bool b4)] (on_ (ds_ (sq_ (sq_ (ao_ (qo0 1 [(0, .go (owns 1 0 1))] [2, 4, 6, 7] [(15, .agg #[.slice p n cap])] (cD (.int .i64 200) Try.call20 (fun w hw => by have := qcheck_t p n cap ts w (hts.kept hw.below) hn (by omega); rw [q2] at this; exact this) (qo0 5 [] [2, 4, 6] [(21, .bool true)] (on_ (ds_ (t_ (sq_ (qa0 [(1, .go (owns 0 0 5))] [4] [(5, .bool false)] (ds_ (rt (owns 0 0 5) (.tuple #[.agg #[.int .i64 0, .int .i64 0, .int .u64 0, .int .u64 0, .int .u64 0], .bool false]) ?_)))))))))))))))
  exact fun w' hw => ⟨by rw [getQ_bad q2]; rfl, hw.below⟩
 ·
  rcases q9 : idV k with _ | _
  ·
   refine ao_ (qo0 3 [(1, .go (owns 1 0 1))] [2, 4] [(10, .slice p n cap), (11, .int .i64 k)] (cP (fun v L' => ∃ (i : Nat), v = .tuple #[.int .i64 (i : Nat), .bool false] ∧ L' = [bx (γ1 1) (#[.int .i64 0, .int .i64 0, .int .u64 0, .int .u64 0, .int .u64 0]) 35, bx (γ1 0) (#[.slice p n cap]) 24]) Try.call34 (fun w hw => (atx_t p n cap ts k w (hts.kept hw.below) hn (by omega) hU hk0 hk1 (chk_iff.1 q2) q9).mono (fun e w' ⟨i, he, h3⟩ => ⟨_, _, he, ⟨i, rfl, rfl⟩, hw.kept h3⟩)) ?_))
   rintro v11 L11 ⟨i11, rfl, rfl⟩
   refine qo0 5 [] [2, 4] [(6, .int .i64 (i11 : Nat)), (7, .bool false)] (on_ (ds_ (sq_ (sq_ (ao_ (qo0 1 [(0, .go (owns 1 0 1))] [2, 4, 6, 7] [(15, .agg #[.slice p n cap])] (cD (.int .i64 0) Try.call20 (fun w hw => by have := qcheck_t p n cap ts w (hts.kept hw.below) hn (by omega); rw [q2] at this; exact this) (qo0 5 [] [2, 4, 6] [(21, .bool true)] (on_ (ds_ (t_ (sq_ (qa0 [(1, .go (owns 0 0 5))] [4] [(5, .bool false)] (ds_ (rt (owns 0 0 5) (.tuple #[.agg #[.int .i64 0, .int .i64 0, .int .u64 0, .int .u64 0, .int .u64 0], .bool false]) ?_)))))))))))))))
   exact fun w' hw => ⟨by rw [getQ_ok q2, getQ_out q2 q9]; rfl, hw.below⟩
  ·
   refine ao_ (qo0 3 [(1, .go (owns 1 0 1))] [2, 4] [(10, .slice p n cap), (11, .int .i64 k)] ?_)
   rcases hg17 : getK Rn.id ts k with _ | y17
   ·
    have hpl17 := (pos_cut (k := k) (chk_iff.1 q2).rs).2.2
    refine cD (.tuple #[.int .i64 (posK Rn.id ts k : Nat), .bool false]) Try.call34 (fun w hw => by have := at_t p n cap ts k w (hts.kept hw.below) hn (by omega) (chk_iff.1 q2) q9; rw [hasK_none hg17] at this; exact this) (qo0 5 [] [2, 4] [(6, .int .i64 (posK Rn.id ts k : Nat)), (7, .bool false)] (on_ (ds_ (sq_ (sq_ (ao_ (qo0 1 [(0, .go (owns 1 0 1))] [2, 4, 6, 7] [(15, .agg #[.slice p n cap])] (cD (.int .i64 0) Try.call20 (fun w hw => by have := qcheck_t p n cap ts w (hts.kept hw.below) hn (by omega); rw [q2] at this; exact this) (qo0 5 [] [2, 4, 6] [(21, .bool true)] (on_ (ds_ (t_ (sq_ (qa0 [(1, .go (owns 0 0 5))] [4] [(5, .bool false)] (ds_ (rt (owns 0 0 5) (.tuple #[.agg #[.int .i64 0, .int .i64 0, .int .u64 0, .int .u64 0, .int .u64 0], .bool false]) ?_))))))))))))))))
    exact fun w' hw => ⟨by rw [getQ_ok q2, hg17]; rfl, hw.below⟩
   ·
    have hp_y17 := pos_getK (chk_iff.1 q2).rs hg17
    have hl_y17 := (List.getElem?_eq_some_iff.1 hp_y17).1
    refine cD (.tuple #[.int .i64 (posK Rn.id ts k : Nat), .bool true]) Try.call34 (fun w hw => by have := at_t p n cap ts k w (hts.kept hw.below) hn (by omega) (chk_iff.1 q2) q9; rw [hasK_some hg17] at this; exact this) (qo0 5 [] [2, 4] [(6, .int .i64 (posK Rn.id ts k : Nat)), (7, .bool true)] (on_ (ds_ (sq_ (sq_ (ao_ (qo0 1 [(0, .go (owns 1 0 1))] [2, 4, 6, 7] [(15, .agg #[.slice p n cap])] (cD (.int .i64 0) Try.call20 (fun w hw => by have := qcheck_t p n cap ts w (hts.kept hw.below) hn (by omega); rw [q2] at this; exact this) (qo0 5 [] [2, 4, 6] [(21, .bool false)] (on_ (ds_ (f_ (at_skip (ds_ (sq_ ?_)))))))))))))))
    obtain ⟨b26, o26, rfl⟩ := hts.pos (i := posK Rn.id ts k) (by omega)
    refine ma [(1, .go (owns 1 0 1)), (3, .at b26 o26 (posK Rn.id ts k)), (4, .go (outs b26 (o26 + (posK Rn.id ts k) * 5) [.int .i64 y17.id, .int .i64 y17.each, .int .u64 y17.th, .int .u64 y17.tl, .int .u64 y17.tw])), (5, .go (owns 0 0 5))] [4] (fun _ => [(5, .bool true)]) (fun _ L => (L.set 0 (bx (γ1 1) (#[.int .i64 y17.id, .int .i64 y17.each, .int .u64 y17.th, .int .u64 y17.tl, .int .u64 y17.tw]) 35))) (fun _ => [(some ⟨b26, o26, none⟩ : Option Addr) = some ⟨b26, o26, none⟩, (posK Rn.id ts k : Nat) = ((posK Rn.id ts k : Nat) : Int), posK Rn.id ts k < n] ++ (cellsP w b26 (o26 + (posK Rn.id ts k) * 5) [.int .i64 y17.id, .int .i64 y17.each, .int .u64 y17.th, .int .u64 y17.tl, .int .u64 y17.tw])) (fun _ => (alA (al2 rfl (al2 rfl (al1 (by omega)))) (rd_pre (hts.get hp_y17) _ rfl))) (fun _ => ds_ (rt (owns 0 0 5) (.tuple #[.agg #[.int .i64 y17.id, .int .i64 y17.each, .int .u64 y17.th, .int .u64 y17.tl, .int .u64 y17.tw], .bool true]) ?_))
    exact fun w' hw => ⟨by rw [getQ_ok q2, hg17]; rfl, hw.below⟩
end Go.Proofs.Ytnhkecfapohlgaa

/-! Queues: Join. -/
namespace Go.Proofs.Ytnhkecfapohlgaa
open Go Go.RowKit

set_option maxRecDepth 100000 in
theorem join1_t (t : Fq) (an : Bool) (r : Rn) (boost : Int) (g4 g5 : Nat) (w : World)
 (h4 : Rd w g4 (0 + 0 * 5) [.int .i64 r.id, .int .i64 r.each, .int .u64 r.th, .int .u64 r.tl, .int .u64 r.tw]) (h5 : Rd w g5 (0 + 0 * 1) [.int .u64 boost])
 (hU : t.U) (hr : r.U) (he0 : 1 ≤ r.each) (he1 : r.each ≤ 8) (hb0 : 0 ≤ boost) (hb1 : boost ≤ 10000000)
 : Calls Try.prog 60 #[.agg #[.int .u64 t.hi, .int .u64 t.lo, .int .u64 t.w], .bool an, .pointer (some ⟨g4, 0 + 0 * 5, none⟩), .pointer (some ⟨g5, 0 + 0 * 1, none⟩)] w fun e w' => e = .returned (.tuple #[.agg #[.int .u64 (timeV (t, an) r boost).1.hi, .int .u64 (timeV (t, an) r boost).1.lo, .int .u64 (timeV (t, an) r boost).1.w], .int .i64 (timeV (t, an) r boost).2]) ∧ Below w.heap.size w w' := by
 refine enter (Hs.start w) Try.func60 rfl Try.ntmps60 rfl (sq_ (ma0 [] [1, 2, 3] (fun γ1 => [(4, .pointer (some ⟨γ1 0, 0, none⟩)), (6, .pointer (some ⟨γ1 1, 0, none⟩))]) (fun γ1 L => bx (γ1 1) (#[.int .u64 0, .int .u64 0, .int .u64 0]) 33 :: bx (γ1 0) (#[.int .u64 t.hi, .int .u64 t.lo, .int .u64 t.w]) 33 :: L) (fun γ1 => ds_ (sq_ (sq_ ?_)))))
 rcases q3 : an with _ | _
 ·
  refine qa0 [] [2, 3, 4, 6] [(13, .bool true)] (ds_ (t_ (sq_ (ma [(1, .go (outs g4 (0 + 0 * 5 + 2) [.int .u64 r.th, .int .u64 r.tl, .int .u64 r.tw])), (2, .go (owns 0 0 3))] [6] (fun _ => [(7, .int .i64 0)]) (fun _ L => (L.set 0 (bx (γ1 1) (#[.int .u64 r.th, .int .u64 r.tl, .int .u64 r.tw]) 33))) (fun _ => cellsP w g4 (0 + 0 * 5 + 2) [.int .u64 r.th, .int .u64 r.tl, .int .u64 r.tw]) (fun _ => (rd_part h4 2 _ rfl)) (fun _ => ds_ (rt (owns 0 0 3) (.tuple #[.agg #[.int .u64 r.th, .int .u64 r.tl, .int .u64 r.tw], .int .i64 0]) ?_))))))
  exact fun w' hw => ⟨by rw [time_none rfl]; rfl, hw.below⟩
 ·
  refine qa0 [] [2, 3, 4, 6] [(13, .bool false)] (ds_ (f_ (at_skip (ds_ (sq_ ?_)))))
  have hmb := mul_each he0 he1 hb0 hb1
  rw [Int.mul_comm] at hmb
  refine ao_ (qo 3 [(0, .go (owns 1 0 3)), (1, .go (outs g4 (0 + 0 * 5) [.int .i64 r.id, .int .i64 r.each, .int .u64 r.th, .int .u64 r.tl, .int .u64 r.tw])), (2, .go (outs g5 (0 + 0 * 1) [.int .u64 boost]))] [2, 6] [(17, .agg #[.int .u64 t.hi, .int .u64 t.lo, .int .u64 t.w]), (18, .agg #[.int .i64 r.id, .int .i64 r.each, .int .u64 r.th, .int .u64 r.tl, .int .u64 r.tw]), (19, .int .u64 boost)] (cellsP w g4 (0 + 0 * 5) [.int .i64 r.id, .int .i64 r.each, .int .u64 r.th, .int .u64 r.tl, .int .u64 r.tw] ++ (cellsP w g5 (0 + 0 * 1) [.int .u64 boost])) (alA (rd_pre h4 _ rfl) (rd_pre h5 _ rfl)) (cD (.tuple #[.agg #[.int .u64 ((boundsV t r boost).1.hi), .int .u64 ((boundsV t r boost).1.lo), .int .u64 ((boundsV t r boost).1.w)], .agg #[.int .u64 ((boundsV t r boost).2.1.hi), .int .u64 ((boundsV t r boost).2.1.lo), .int .u64 ((boundsV t r boost).2.1.w)], .int .i64 ((boundsV t r boost).2.2)]) Try.call61 (fun w hw => bounds_t t r boost w hU hr (by omega) he1 hmb.1 hmb.2) (mo0 9 [(10, .go (owns 1 0 3)), (11, .go (owns 0 0 3))] [2, 6] (fun γ8 => [(8, .pointer (some ⟨γ8 0, 0, none⟩)), (9, .pointer (some ⟨γ8 1, 0, none⟩)), (10, .int .i64 ((boundsV t r boost).2.2))]) (fun γ8 L => bx (γ8 1) (#[.int .u64 ((boundsV t r boost).2.1.hi), .int .u64 ((boundsV t r boost).2.1.lo), .int .u64 ((boundsV t r boost).2.1.w)]) 33 :: bx (γ8 0) (#[.int .u64 ((boundsV t r boost).1.hi), .int .u64 ((boundsV t r boost).1.lo), .int .u64 ((boundsV t r boost).1.w)]) 33 :: L) (fun γ8 => on_ (ds_ (sq_ (ao_ (mo 4 [(0, .go (owns 1 0 3)), (2, .go (outs g4 (0 + 0 * 5 + 2) [.int .u64 r.th, .int .u64 r.tl, .int .u64 r.tw]))] [6, 9, 10] (fun γ9 => [(27, .slice (some ⟨γ9 0, 0, none⟩) 2 2)]) (fun γ9 L => bx (γ9 0) (#[.int .u64 ((boundsV t r boost).1.hi), .int .u64 ((boundsV t r boost).1.lo), .int .u64 ((boundsV t r boost).1.w), .int .u64 r.th, .int .u64 r.tl, .int .u64 r.tw]) 33 :: L) (fun γ9 => cellsP w g4 (0 + 0 * 5 + 2) [.int .u64 r.th, .int .u64 r.tl, .int .u64 r.tw]) (fun γ9 => (rd_part h4 2 _ rfl)) (fun γ9 => cD (.agg #[.int .u64 ((greatV ((boundsV t r boost).1) r.t).hi), .int .u64 ((greatV ((boundsV t r boost).1) r.t).lo), .int .u64 ((greatV ((boundsV t r boost).1) r.t).w)]) Try.call62 (fun w hw => great_t (some ⟨γ9 0, 0, none⟩) 2 2 [(boundsV t r boost).1, r.t] w (sv_row (hw.row 0 rfl) rfl) rfl (by decide) (by decide) (two_U (bounds_U hU hr hmb.1).1 hr.t)) (mo0 2 [(6, .go (owns 0 0 3))] [6, 9, 10] (fun γ10 => [(11, .pointer (some ⟨γ10 0, 0, none⟩))]) (fun γ10 L => bx (γ10 0) (#[.int .u64 ((greatV ((boundsV t r boost).1) r.t).hi), .int .u64 ((greatV ((boundsV t r boost).1) r.t).lo), .int .u64 ((greatV ((boundsV t r boost).1) r.t).w)]) 33 :: L) (fun γ10 => ?_)))))))))))
  refine on_ (ds_ (sq_ (sq_ (ao_ (qo0 2 [(0, .go (owns 0 0 3)), (1, .go (owns 2 0 3))] [6, 9, 10, 11] [(29, .agg #[.int .u64 ((greatV ((boundsV t r boost).1) r.t).hi), .int .u64 ((greatV ((boundsV t r boost).1) r.t).lo), .int .u64 ((greatV ((boundsV t r boost).1) r.t).w)]), (30, .agg #[.int .u64 ((boundsV t r boost).2.1.hi), .int .u64 ((boundsV t r boost).2.1.lo), .int .u64 ((boundsV t r boost).2.1.w)])] (cD (.int .i64 (cmpF (greatV ((boundsV t r boost).1) r.t) ((boundsV t r boost).2.1))) Try.call13 (fun w hw => fcmp_t (greatV ((boundsV t r boost).1) r.t) ((boundsV t r boost).2.1) w (maxS_U (bounds_U hU hr hmb.1).1 hr.t) (bounds_U hU hr hmb.1).2) ?_))))))
  by_cases q13 : ((cmpF (greatV ((boundsV t r boost).1) r.t) ((boundsV t r boost).2.1)) : Int) > (0 : Int)
  ·
   refine qo 1 [(3, .yes)] [6, 9, 10, 11] [(32, .bool true)] ([((cmpF (greatV ((boundsV t r boost).1) r.t) ((boundsV t r boost).2.1)) : Int) > (0 : Int)]) (al1 q13) (on_ (ds_ (t_ (ma0 [(0, .go (owns 2 0 3)), (1, .go (owns 0 0 3))] [6, 10, 11] (fun _ => []) (fun _ L => (L.set 0 (bx (γ10 0) (#[.int .u64 ((boundsV t r boost).2.1.hi), .int .u64 ((boundsV t r boost).2.1.lo), .int .u64 ((boundsV t r boost).2.1.w)]) 33))) (fun _ => ds_ (sq_ (ma0 [(0, .go (owns 0 0 3)), (2, .go (owns 4 0 3))] [6] (fun _ => [(7, .int .i64 ((boundsV t r boost).2.2))]) (fun _ L => (L.set 4 (bx (γ1 1) (#[.int .u64 ((boundsV t r boost).2.1.hi), .int .u64 ((boundsV t r boost).2.1.lo), .int .u64 ((boundsV t r boost).2.1.w)]) 33))) (fun _ => ds_ (rt (owns 4 0 3) (.tuple #[.agg #[.int .u64 ((boundsV t r boost).2.1.hi), .int .u64 ((boundsV t r boost).2.1.lo), .int .u64 ((boundsV t r boost).2.1.w)], .int .i64 ((boundsV t r boost).2.2)]) ?_)))))))))
   exact fun w' hw => ⟨by rw [time_hi rfl (by omega)], hw.below⟩
  ·
   refine qo 1 [(3, .no)] [6, 9, 10, 11] [(32, .bool false)] ([¬ (((cmpF (greatV ((boundsV t r boost).1) r.t) ((boundsV t r boost).2.1)) : Int) > (0 : Int))]) (al1 q13) (on_ (ds_ (f_ (at_skip (ds_ (sq_ (ma0 [(0, .go (owns 0 0 3)), (2, .go (owns 4 0 3))] [6] (fun _ => [(7, .int .i64 ((boundsV t r boost).2.2))]) (fun _ L => (L.set 4 (bx (γ1 1) (#[.int .u64 ((greatV ((boundsV t r boost).1) r.t).hi), .int .u64 ((greatV ((boundsV t r boost).1) r.t).lo), .int .u64 ((greatV ((boundsV t r boost).1) r.t).w)]) 33))) (fun _ => ds_ (rt (owns 4 0 3) (.tuple #[.agg #[.int .u64 ((greatV ((boundsV t r boost).1) r.t).hi), .int .u64 ((greatV ((boundsV t r boost).1) r.t).lo), .int .u64 ((greatV ((boundsV t r boost).1) r.t).w)], .int .i64 ((boundsV t r boost).2.2)]) ?_)))))))))
   exact fun w' hw => ⟨by rw [time_lo rfl (by omega)], hw.below⟩

set_option maxRecDepth 100000 in
theorem join_t (p : Option Addr) (n cap : Nat) (ts : List Rn) (r : Rn) (boost : Int) (w : World)
 (hts : Sv w p ts) (hn : n = ts.length) (hb : n ≤ 1000)
 (hU : ∀ r ∈ ts, r.U)
 (hr : r.U) (hbo0 : 0 ≤ boost)
 : Calls Try.prog 28 #[.agg #[.slice p n cap], .agg #[.int .i64 r.id, .int .i64 r.each, .int .u64 r.th, .int .u64 r.tl, .int .u64 r.tw], .int .u64 boost] w fun e w' => ∃ q' n' c' Y, e = .returned (.tuple #[.agg #[.slice q' n' c'], .int .i64 (joinV ts r boost).2]) ∧ SlO 35 Y q' n' c' (joinV ts r boost).1 ∧ Below w.heap.size w w' ∧ Hs w Y w' := by
 refine enter (Hs.start w) Try.func28 rfl Try.ntmps28 rfl (sq_ (ma0 [] [] (fun γ1 => [(3, .pointer (some ⟨γ1 0, 0, none⟩)), (4, .pointer (some ⟨γ1 1, 0, none⟩)), (5, .pointer (some ⟨γ1 2, 0, none⟩)), (6, .pointer (some ⟨γ1 3, 0, none⟩))]) (fun γ1 L => bx (γ1 3) (#[.slice none 0 0]) 24 :: bx (γ1 2) (#[.int .u64 boost]) 25 :: bx (γ1 1) (#[.int .i64 r.id, .int .i64 r.each, .int .u64 r.th, .int .u64 r.tl, .int .u64 r.tw]) 35 :: bx (γ1 0) (#[.slice p n cap]) 24 :: L) (fun γ1 => ds_ (sq_ (sq_ ?_)))))
 by_cases q3 : (boost : Int) > (10000000 : Int)
 ·
  refine qa [(0, .go (owns 1 0 1)), (1, .yes)] [3, 4, 5, 6] [(10, .bool true)] ([(boost : Int) > (10000000 : Int)]) (al1 q3) (ds_ (t_ (sq_ (ao_ (qo0 1 [(0, .go (owns 3 0 1))] [6] [(11, .agg #[.slice p n cap])] ?_)))))
  rcases q6 : chkQ ts with _ | _
  ·
   refine cD (.int .i64 200) Try.call20 (fun w hw => by have := qcheck_t p n cap ts w (hts.kept hw.below) hn (by omega); rw [q6] at this; exact this) (qo0 1 [] [6] [(8, .int .i64 200)] (on_ (ds_ (sq_ (sq_ (qa0 [] [6, 8] [(14, .bool false)] (ds_ (f_ (at_skip (ds_ (sq_ (qa0 [(2, .go (owns 0 0 1))] [6] [(7, .int .i64 200)] (ds_ (rt (owns 0 0 1) (.tuple #[.agg #[.slice none 0 0], .int .i64 200]) ?_))))))))))))))
   exact fun w' hw => by rw [join_big q3, if_neg (by rw [q6]; decide)]; exact ⟨none, 0, 0, [], rfl, SlO.nil, hw.below, hw.sub (List.nil_sublist _)⟩
  ·
   refine cD (.int .i64 0) Try.call20 (fun w hw => by have := qcheck_t p n cap ts w (hts.kept hw.below) hn (by omega); rw [q6] at this; exact this) (qo0 1 [] [6] [(8, .int .i64 0)] (on_ (ds_ (sq_ (sq_ (qa0 [] [6, 8] [(14, .bool true)] (ds_ (t_ (qa0 [] [6] [(8, .int .i64 2)] (ds_ (sq_ (qa0 [(2, .go (owns 0 0 1))] [6] [(7, .int .i64 2)] (ds_ (rt (owns 0 0 1) (.tuple #[.agg #[.slice none 0 0], .int .i64 2]) ?_))))))))))))))
   exact fun w' hw => by rw [join_big q3, if_pos q6]; exact ⟨none, 0, 0, [], rfl, SlO.nil, hw.below, hw.sub (List.nil_sublist _)⟩
 ·
  refine qa [(0, .go (owns 1 0 1)), (1, .no)] [3, 4, 5, 6] [(10, .bool false)] ([¬ ((boost : Int) > (10000000 : Int))]) (al1 q3) (ds_ (f_ (at_skip (ds_ (sq_ (ao_ (qo0 3 [(0, .go (owns 3 0 1)), (1, .go (owns 2 0 5))] [6] [(17, .agg #[.slice p n cap]), (18, .agg #[.int .i64 r.id, .int .i64 r.each, .int .u64 r.th, .int .u64 r.tl, .int .u64 r.tw]), (19, .func (.func 60) #[] #[.pointer (some ⟨γ1 1, 0, none⟩), .pointer (some ⟨γ1 2, 0, none⟩)])] (ops_inline (g := 59) (args := #[.agg #[.slice p n cap], .agg #[.int .i64 r.id, .int .i64 r.each, .int .u64 r.th, .int .u64 r.tl, .int .u64 r.tw], .func (.func 60) #[] #[.pointer (some ⟨γ1 1, 0, none⟩), .pointer (some ⟨γ1 2, 0, none⟩)]]) (by kernel_rfl) (by kernel_rfl) (by kernel_rfl) (fun args w => Try.call59 args w) Try.func59 rfl Try.ntmps59 rfl (sq_ (ma0 [] [] (fun γ16 => [(3, .pointer (some ⟨γ16 0, 0, none⟩)), (4, .pointer (some ⟨γ16 1, 0, none⟩)), (5, .pointer (some ⟨γ16 2, 0, none⟩)), (6, .pointer (some ⟨γ16 3, 0, none⟩))]) (fun γ16 L => bx (γ16 3) (#[.slice none 0 0]) 24 :: bx (γ16 2) (#[.func (.func 60) #[] #[.pointer (some ⟨γ1 1, 0, none⟩), .pointer (some ⟨γ1 2, 0, none⟩)]]) 98 :: bx (γ16 1) (#[.int .i64 r.id, .int .i64 r.each, .int .u64 r.th, .int .u64 r.tl, .int .u64 r.tw]) 35 :: bx (γ16 0) (#[.slice p n cap]) 24 :: L) (fun γ16 => ds_ (sq_ (ao_ (qo0 2 [(0, .go (owns 3 0 1))] [6] [(8, .agg #[.slice p n cap]), (9, .func (.func 79) #[] #[.pointer (some ⟨γ16 1, 0, none⟩), .pointer (some ⟨γ16 2, 0, none⟩)])] (ops_inline (g := 56) (args := #[.agg #[.slice p n cap], .func (.func 79) #[] #[.pointer (some ⟨γ16 1, 0, none⟩), .pointer (some ⟨γ16 2, 0, none⟩)]]) (by kernel_rfl) (by kernel_rfl) (by kernel_rfl) (fun args w => Try.call56 args w) Try.func56 rfl Try.ntmps56 rfl (sq_ (ma0 [] [1] (fun γ18 => [(2, .pointer (some ⟨γ18 0, 0, none⟩)), (4, .pointer (some ⟨γ18 1, 0, none⟩))]) (fun γ18 L => bx (γ18 1) (#[.slice none 0 0]) 24 :: bx (γ18 0) (#[.slice p n cap]) 24 :: L) (fun γ18 => ds_ (sq_ (sq_ (ao_ (qo0 1 [(0, .go (owns 1 0 1))] [1, 2, 4] [(9, .agg #[.slice p n cap])] ?_))))))))))))))))))))))
  rcases q20 : chkQ ts with _ | _
  ·
   refine cD (.int .i64 200) Try.call20 (fun w hw => by have := qcheck_t p n cap ts w (hts.kept hw.below) hn (by omega); rw [q20] at this; exact this) (qo0 1 [] [1, 2, 4] [(6, .int .i64 200)] (on_ (ds_ (sq_ (qa0 [] [1, 2, 4, 6] [(12, .bool true)] (ds_ (t_ (sq_ (qa0 [(2, .go (owns 0 0 1))] [4] [(5, .int .i64 200)] (ds_ (bk (owns 0 0 1) (.tuple #[.agg #[.slice none 0 0], .int .i64 200]) (qo0 4 [(5, .go (owns 2 0 1))] [6] [(7, .int .i64 200)] (on_ (ds_ (bk (owns 2 0 1) (.tuple #[.agg #[.slice none 0 0], .int .i64 200]) (qo0 4 [(6, .go (owns 6 0 1))] [6] [(7, .int .i64 200)] (on_ (ds_ (rt (owns 6 0 1) (.tuple #[.agg #[.slice none 0 0], .int .i64 200]) ?_)))))))))))))))))))
   exact fun w' hw => by rw [join_bad (by omega) q20]; exact ⟨none, 0, 0, [], rfl, SlO.nil, hw.below, hw.sub (List.nil_sublist _)⟩
  ·
   refine cD (.int .i64 0) Try.call20 (fun w hw => by have := qcheck_t p n cap ts w (hts.kept hw.below) hn (by omega); rw [q20] at this; exact this) (qo0 1 [] [1, 2, 4] [(6, .int .i64 0)] (on_ (ds_ (sq_ (qa0 [] [1, 2, 4, 6] [(12, .bool false)] (ds_ (f_ (at_skip (ds_ (sq_ ?_))))))))))
   have hgq := chk_iff.1 q20
   have hlq := hgq.len
   refine ao_ (qo0 2 [(1, .go (owns 1 0 1))] [1, 4] [(16, .slice p n cap)] (cP (fun v L' => ∃ q_ c_ Y_, v = .slice q_ n c_ ∧ L' = List.take 10 ([bx (γ18 1) (#[.slice none 0 0]) 24, bx (γ18 0) (#[.slice p n cap]) 24, bx (γ16 3) (#[.slice none 0 0]) 24, bx (γ16 2) (#[.func (.func 60) #[] #[.pointer (some ⟨γ1 1, 0, none⟩), .pointer (some ⟨γ1 2, 0, none⟩)]]) 98, bx (γ16 1) (#[.int .i64 r.id, .int .i64 r.each, .int .u64 r.th, .int .u64 r.tl, .int .u64 r.tw]) 35, bx (γ16 0) (#[.slice p n cap]) 24, bx (γ1 3) (#[.slice none 0 0]) 24, bx (γ1 2) (#[.int .u64 boost]) 25, bx (γ1 1) (#[.int .i64 r.id, .int .i64 r.each, .int .u64 r.th, .int .u64 r.tl, .int .u64 r.tw]) 35, bx (γ1 0) (#[.slice p n cap]) 24]) ++ (Y_ ++ List.drop 10 ([bx (γ18 1) (#[.slice none 0 0]) 24, bx (γ18 0) (#[.slice p n cap]) 24, bx (γ16 3) (#[.slice none 0 0]) 24, bx (γ16 2) (#[.func (.func 60) #[] #[.pointer (some ⟨γ1 1, 0, none⟩), .pointer (some ⟨γ1 2, 0, none⟩)]]) 98, bx (γ16 1) (#[.int .i64 r.id, .int .i64 r.each, .int .u64 r.th, .int .u64 r.tl, .int .u64 r.tw]) 35, bx (γ16 0) (#[.slice p n cap]) 24, bx (γ1 3) (#[.slice none 0 0]) 24, bx (γ1 2) (#[.int .u64 boost]) 25, bx (γ1 1) (#[.int .i64 r.id, .int .i64 r.each, .int .u64 r.th, .int .u64 r.tl, .int .u64 r.tw]) 35, bx (γ1 0) (#[.slice p n cap]) 24])) ∧ SlO 35 Y_ q_ n c_ ts) Try.call78 (fun w hw => (qclone_t p n cap ts w (hts.kept hw.below) hn (by omega)).mono fun e w' ⟨q_, c_, Y_, he, hO, hb, hY⟩ => ⟨_, _, he, ⟨q_, c_, Y_, rfl, rfl, hO⟩, hw.join hb hY 10⟩) ?_))
   rintro v29 L29 ⟨q29, cq29, Y29, rfl, rfl, hO29⟩
   refine mo0 3 [(5, .go (owns 0 0 1))] [1, 4] (fun γ30 => [(7, .pointer (some ⟨γ30 0, 0, none⟩))]) (fun γ30 L => bx (γ30 0) (#[.slice q29 n cq29]) 24 :: L) (fun γ30 => on_ (ds_ (sq_ (sq_ (ao_ (qo0 1 [] [4, 7] [(19, .func (.func 79) #[] #[.pointer (some ⟨γ16 1, 0, none⟩), .pointer (some ⟨γ16 2, 0, none⟩)])] (ops_inline (g := 79) (args := #[.pointer (some ⟨γ30 0, 0, none⟩), .pointer (some ⟨γ16 1, 0, none⟩), .pointer (some ⟨γ16 2, 0, none⟩)]) (by kernel_rfl) (by kernel_rfl) (by kernel_rfl) (fun args w => Try.call79 args w) Try.func79 rfl Try.ntmps79 rfl (sq_ (qa0 [] [0, 1, 2] [] (ds_ (sq_ (sq_ (ao_ (qo0 1 [(0, .go (owns 5 0 5))] [0, 1, 2] [(10, .agg #[.int .i64 r.id, .int .i64 r.each, .int .u64 r.th, .int .u64 r.tl, .int .u64 r.tw])] ?_))))))))))))))
   rcases q34 : rnB r with _ | _
   ·
    refine cD (.int .i64 2) Try.call25 (fun w hw => by have := crun_t r w; rw [q34] at this; exact this) (qo0 1 [] [0, 1, 2] [(5, .int .i64 2)] (on_ (ds_ (sq_ (qa0 [] [0, 1, 2, 5] [(13, .bool true)] (ds_ (t_ (sq_ (qa0 [] [] [(4, .int .i64 2)] (ds_ (bk ([]) (.int .i64 2) (qo0 1 [] [4, 7] [(8, .int .i64 2)] (on_ (ds_ (sq_ (qa0 [] [4, 7, 8] [(22, .bool true)] (ds_ (t_ (sq_ (qa0 [(2, .go (owns 1 0 1))] [4] [(5, .int .i64 2)] (ds_ (bk (owns 1 0 1) (.tuple #[.agg #[.slice none 0 0], .int .i64 2]) (qo0 4 [(5, .go (owns 3 0 1))] [6] [(7, .int .i64 2)] (on_ (ds_ (bk (owns 3 0 1) (.tuple #[.agg #[.slice none 0 0], .int .i64 2]) (qo0 4 [(6, .go (owns 7 0 1))] [6] [(7, .int .i64 2)] (on_ (ds_ (rt (owns 7 0 1) (.tuple #[.agg #[.slice none 0 0], .int .i64 2]) ?_))))))))))))))))))))))))))))))
    exact fun w' hw => by rw [join_arg (by omega) q20 q34]; exact ⟨none, 0, 0, [], rfl, SlO.nil, hw.below, hw.sub (List.nil_sublist _)⟩
   ·
    refine cD (.int .i64 0) Try.call25 (fun w hw => by have := crun_t r w; rw [q34] at this; exact this) (qo0 1 [] [0, 1, 2] [(5, .int .i64 0)] (on_ (ds_ (sq_ (qa0 [] [0, 1, 2, 5] [(13, .bool false)] (ds_ (f_ (at_skip (ds_ (sq_ ?_))))))))))
    have hrb := rnB_iff.1 q34
    have hidr : idV r.id = true := idV_iff.2 hrb.1
    refine at_calm rfl (by kernel_rfl) (by kernel_rfl) ?_
    refine cm 6 [(3, .go (owns 0 0 1)), (5, .go (owns 5 0 1))] [0, 1, 2] [(19, .slice q29 n cq29), (21, .int .i64 r.id)] ([]) (by kernel_rfl) rfl al0 ?_
    rcases hg46 : getK Rn.id ts r.id with _ | y46
    ·
     have hpl46 := (pos_cut (k := r.id) hgq.rs).2.2
     refine cK (.tuple #[.int .i64 (posK Rn.id ts r.id : Nat), .bool false]) Try.call34 (fun w hw => by have := at_t q29 n cq29 ts r.id w (hO29.atN (A := [_, _, _, _, _, _, _, _, _, _, _]) hw) hO29.len (by omega) hgq hidr; rw [hasK_none hg46] at this; exact this) ?_
     refine cm 5 [] [0, 1, 2] [(6, .int .i64 (posK Rn.id ts r.id : Nat)), (7, .bool false)] ([]) (by kernel_rfl) rfl al0 ?_
     refine calm_nil' ?_
     refine ds_ (sq_ (sq_ (qa0 [] [0, 1, 2, 6] [(25, .bool false)] (ds_ (f_ (at_skip (ds_ (sq_ ?_))))))))
     refine at_any (by kernel_rfl) ?_
     refine tk (m := 12) [1, 2] [] [0, 1, 2, 6] [(29, .pointer (some ⟨γ30 0, 0, none⟩))] ([]) #[false, true, true, false, false, false, false, false, false, false, false, false, false, false] al0 ?_
     refine any_cutX (V := (Nat → Nat)) (fun γ272 => True) 0 #[true, true, true, true, true, true, true, true, true, true, true, true, true, true] (fun γ272 => [(0, .pointer (some ⟨γ30 0, 0, none⟩)), (1, .pointer (some ⟨γ16 1, 0, none⟩)), (6, .int .i64 (posK Rn.id ts r.id : Nat)), (8, .pointer (some ⟨γ272 0, 0, none⟩)), (9, .int .i64 ((timeV (topV ts) r boost).2))]) (fun γ272 => bx (γ272 0) (#[.int .u64 ((timeV (topV ts) r boost).1.hi), .int .u64 ((timeV (topV ts) r boost).1.lo), .int .u64 ((timeV (topV ts) r boost).1.w)]) 33 :: bx (γ30 0) (#[.slice q29 n cq29]) 24 :: bx (γ18 1) (#[.slice none 0 0]) 24 :: bx (γ18 0) (#[.slice p n cap]) 24 :: bx (γ16 3) (#[.slice none 0 0]) 24 :: bx (γ16 2) (#[.func (.func 60) #[] #[.pointer (some ⟨γ1 1, 0, none⟩), .pointer (some ⟨γ1 2, 0, none⟩)]]) 98 :: bx (γ16 1) (#[.int .i64 r.id, .int .i64 r.each, .int .u64 r.th, .int .u64 r.tl, .int .u64 r.tw]) 35 :: bx (γ16 0) (#[.slice p n cap]) 24 :: bx (γ1 3) (#[.slice none 0 0]) 24 :: bx (γ1 2) (#[.int .u64 boost]) 25 :: bx (γ1 1) (#[.int .i64 r.id, .int .i64 r.each, .int .u64 r.th, .int .u64 r.tl, .int .u64 r.tw]) 35 :: bx (γ1 0) (#[.slice p n cap]) 24 :: (Y29 ++ [])) ?_ (fun hmx14 => ?_)
     rotate_left
     ·
      refine any_cutX (V := (Nat → Nat)) (fun γ272 => True) 2 #[true, true, true, true, true, true, true, true, true, true, true, true, false, false] (fun γ272 => [(0, .pointer (some ⟨γ30 0, 0, none⟩)), (1, .pointer (some ⟨γ16 1, 0, none⟩)), (6, .int .i64 (posK Rn.id ts r.id : Nat)), (8, .pointer (some ⟨γ272 0, 0, none⟩)), (35, .agg #[.int .u64 ((timeV (topV ts) r boost).1.hi), .int .u64 ((timeV (topV ts) r boost).1.lo), .int .u64 ((timeV (topV ts) r boost).1.w)]), (36, .int .i64 ((timeV (topV ts) r boost).2))]) (fun γ272 => bx (γ272 0) (#[.int .u64 0, .int .u64 0, .int .u64 0]) 33 :: bx (γ30 0) (#[.slice q29 n cq29]) 24 :: bx (γ18 1) (#[.slice none 0 0]) 24 :: bx (γ18 0) (#[.slice p n cap]) 24 :: bx (γ16 3) (#[.slice none 0 0]) 24 :: bx (γ16 2) (#[.func (.func 60) #[] #[.pointer (some ⟨γ1 1, 0, none⟩), .pointer (some ⟨γ1 2, 0, none⟩)]]) 98 :: bx (γ16 1) (#[.int .i64 r.id, .int .i64 r.each, .int .u64 r.th, .int .u64 r.tl, .int .u64 r.tw]) 35 :: bx (γ16 0) (#[.slice p n cap]) 24 :: bx (γ1 3) (#[.slice none 0 0]) 24 :: bx (γ1 2) (#[.int .u64 boost]) 25 :: bx (γ1 1) (#[.int .i64 r.id, .int .i64 r.each, .int .u64 r.th, .int .u64 r.tl, .int .u64 r.tw]) 35 :: bx (γ1 0) (#[.slice p n cap]) 24 :: (Y29 ++ [])) ?_ (fun hmx13 => ?_)
      ·
       rintro γ272 _
       refine a1 12 rfl ?_
       refine mo0 1 [(12, .go (owns 0 0 3))] [0, 1, 6, 8, 36] (fun _ => []) (fun _ L => (L.set 0 (bx (γ272 0) (#[.int .u64 ((timeV (topV ts) r boost).1.hi), .int .u64 ((timeV (topV ts) r boost).1.lo), .int .u64 ((timeV (topV ts) r boost).1.w)]) 33))) (fun _ => ?_)
       refine od_ ?_
       refine tk (m := 0) [13] [] [0, 1, 6, 8] [(9, .int .i64 ((timeV (topV ts) r boost).2))] ([]) #[true, true, true, true, true, true, true, true, true, true, true, true, true, true] al0 ?_
       exact wk (hmx14 γ272 trivial) [0, 1, 6, 8, 9] [[_], [_], [_], [_], [_], [_], [_], [_], [_], [_], [_], [_], _] [0, 1, 2, 3, 4, 5, 6, 7, 8, 9, 10, 11, 12] rfl rfl
      refine any_cutX (V := Unit) (fun _ => True) 3 #[true, true, true, true, true, true, true, true, true, true, true, false, false, false] (fun _ => [(0, .pointer (some ⟨γ30 0, 0, none⟩)), (1, .pointer (some ⟨γ16 1, 0, none⟩)), (6, .int .i64 (posK Rn.id ts r.id : Nat)), (35, .agg #[.int .u64 ((timeV (topV ts) r boost).1.hi), .int .u64 ((timeV (topV ts) r boost).1.lo), .int .u64 ((timeV (topV ts) r boost).1.w)]), (36, .int .i64 ((timeV (topV ts) r boost).2))]) (fun _ => bx (γ30 0) (#[.slice q29 n cq29]) 24 :: bx (γ18 1) (#[.slice none 0 0]) 24 :: bx (γ18 0) (#[.slice p n cap]) 24 :: bx (γ16 3) (#[.slice none 0 0]) 24 :: bx (γ16 2) (#[.func (.func 60) #[] #[.pointer (some ⟨γ1 1, 0, none⟩), .pointer (some ⟨γ1 2, 0, none⟩)]]) 98 :: bx (γ16 1) (#[.int .i64 r.id, .int .i64 r.each, .int .u64 r.th, .int .u64 r.tl, .int .u64 r.tw]) 35 :: bx (γ16 0) (#[.slice p n cap]) 24 :: bx (γ1 3) (#[.slice none 0 0]) 24 :: bx (γ1 2) (#[.int .u64 boost]) 25 :: bx (γ1 1) (#[.int .i64 r.id, .int .i64 r.each, .int .u64 r.th, .int .u64 r.tl, .int .u64 r.tw]) 35 :: bx (γ1 0) (#[.slice p n cap]) 24 :: (Y29 ++ [])) ?_ (fun hmx12 => ?_)
      ·
       rintro _ _
       refine a1 11 rfl ?_
       refine mo0 1 [] [0, 1, 6, 35, 36] (fun γ272 => [(8, .pointer (some ⟨γ272 0, 0, none⟩))]) (fun γ272 L => bx (γ272 0) (#[.int .u64 0, .int .u64 0, .int .u64 0]) 33 :: L) (fun γ272 => ?_)
       refine od_ ?_
       exact wk (hmx13 γ272 trivial) [0, 1, 6, 8, 35, 36] [[_], [_], [_], [_], [_], [_], [_], [_], [_], [_], [_], [_], _] [0, 1, 2, 3, 4, 5, 6, 7, 8, 9, 10, 11, 12] rfl rfl
      refine any_cutX (V := (Nat → Nat)) (fun γ272 => True) 6 #[true, true, true, true, true, true, true, false, false, false, false, true, false, false] (fun γ272 => [(0, .pointer (some ⟨γ30 0, 0, none⟩)), (1, .pointer (some ⟨γ16 1, 0, none⟩)), (6, .int .i64 (posK Rn.id ts r.id : Nat)), (8, .pointer (some ⟨γ272 0, 0, none⟩)), (27, .func (.func 60) #[] #[.pointer (some ⟨γ1 1, 0, none⟩), .pointer (some ⟨γ1 2, 0, none⟩)]), (32, .agg #[.int .u64 ((topV ts).1.hi), .int .u64 ((topV ts).1.lo), .int .u64 ((topV ts).1.w)]), (33, .bool ((topV ts).2))]) (fun γ272 => bx (γ272 0) (#[.int .u64 0, .int .u64 0, .int .u64 0]) 33 :: bx (γ30 0) (#[.slice q29 n cq29]) 24 :: bx (γ18 1) (#[.slice none 0 0]) 24 :: bx (γ18 0) (#[.slice p n cap]) 24 :: bx (γ16 3) (#[.slice none 0 0]) 24 :: bx (γ16 2) (#[.func (.func 60) #[] #[.pointer (some ⟨γ1 1, 0, none⟩), .pointer (some ⟨γ1 2, 0, none⟩)]]) 98 :: bx (γ16 1) (#[.int .i64 r.id, .int .i64 r.each, .int .u64 r.th, .int .u64 r.tl, .int .u64 r.tw]) 35 :: bx (γ16 0) (#[.slice p n cap]) 24 :: bx (γ1 3) (#[.slice none 0 0]) 24 :: bx (γ1 2) (#[.int .u64 boost]) 25 :: bx (γ1 1) (#[.int .i64 r.id, .int .i64 r.each, .int .u64 r.th, .int .u64 r.tl, .int .u64 r.tw]) 35 :: bx (γ1 0) (#[.slice p n cap]) 24 :: (Y29 ++ [])) ?_ (fun hmx11 => ?_)
      ·
       rintro γ272 _
       refine a1 7 rfl ?_
       refine cD (.tuple #[.agg #[.int .u64 ((timeV (topV ts) r boost).1.hi), .int .u64 ((timeV (topV ts) r boost).1.lo), .int .u64 ((timeV (topV ts) r boost).1.w)], .int .i64 ((timeV (topV ts) r boost).2)]) Try.call60 (fun w hw => join1_t (topV ts).1 (topV ts).2 r boost (γ1 1) (γ1 2) w (rd_row (hw.row 10 rfl)) (rd_row (hw.row 9 rfl)) (topV_U hU) hr hrb.2.1.1 hrb.2.1.2 hbo0 (by omega)) ?_
       refine od_ ?_
       refine tk (m := 2) [8, 9, 10] [] [0, 1, 6, 8] [(35, .agg #[.int .u64 ((timeV (topV ts) r boost).1.hi), .int .u64 ((timeV (topV ts) r boost).1.lo), .int .u64 ((timeV (topV ts) r boost).1.w)]), (36, .int .i64 ((timeV (topV ts) r boost).2))] ([]) #[true, true, true, true, true, true, true, true, true, true, true, true, false, false] al0 ?_
       exact wk (hmx13 γ272 trivial) [0, 1, 6, 8, 35, 36] [[_], [_], [_], [_], [_], [_], [_], [_], [_], [_], [_], [_], _] [0, 1, 2, 3, 4, 5, 6, 7, 8, 9, 10, 11, 12] rfl rfl
      refine any_cutX (V := (Nat → Nat)) (fun γ272 => True) 7 #[false, true, true, true, true, true, true, false, false, false, false, true, false, false] (fun γ272 => [(0, .pointer (some ⟨γ30 0, 0, none⟩)), (1, .pointer (some ⟨γ16 1, 0, none⟩)), (2, .pointer (some ⟨γ16 2, 0, none⟩)), (6, .int .i64 (posK Rn.id ts r.id : Nat)), (8, .pointer (some ⟨γ272 0, 0, none⟩)), (32, .agg #[.int .u64 ((topV ts).1.hi), .int .u64 ((topV ts).1.lo), .int .u64 ((topV ts).1.w)]), (33, .bool ((topV ts).2))]) (fun γ272 => bx (γ272 0) (#[.int .u64 0, .int .u64 0, .int .u64 0]) 33 :: bx (γ30 0) (#[.slice q29 n cq29]) 24 :: bx (γ18 1) (#[.slice none 0 0]) 24 :: bx (γ18 0) (#[.slice p n cap]) 24 :: bx (γ16 3) (#[.slice none 0 0]) 24 :: bx (γ16 2) (#[.func (.func 60) #[] #[.pointer (some ⟨γ1 1, 0, none⟩), .pointer (some ⟨γ1 2, 0, none⟩)]]) 98 :: bx (γ16 1) (#[.int .i64 r.id, .int .i64 r.each, .int .u64 r.th, .int .u64 r.tl, .int .u64 r.tw]) 35 :: bx (γ16 0) (#[.slice p n cap]) 24 :: bx (γ1 3) (#[.slice none 0 0]) 24 :: bx (γ1 2) (#[.int .u64 boost]) 25 :: bx (γ1 1) (#[.int .i64 r.id, .int .i64 r.each, .int .u64 r.th, .int .u64 r.tl, .int .u64 r.tw]) 35 :: bx (γ1 0) (#[.slice p n cap]) 24 :: (Y29 ++ [])) ?_ (fun hmx10 => ?_)
      ·
       rintro γ272 _
       refine a1 0 rfl ?_
       refine qo0 1 [(0, .go (owns 5 0 1))] [0, 1, 6, 8, 32, 33] [(27, .func (.func 60) #[] #[.pointer (some ⟨γ1 1, 0, none⟩), .pointer (some ⟨γ1 2, 0, none⟩)])] ?_
       refine od_ ?_
       exact wk (hmx11 γ272 trivial) [0, 1, 6, 8, 27, 32, 33] [[_], [_], [_], [_], [_], [_], [_], [_], [_], [_], [_], [_], _] [0, 1, 2, 3, 4, 5, 6, 7, 8, 9, 10, 11, 12] rfl rfl
      refine any_cutX (V := Unit) (fun _ => True) 7 #[true, true, true, true, true, true, true, false, false, false, false, false, false, false] (fun _ => [(0, .pointer (some ⟨γ30 0, 0, none⟩)), (1, .pointer (some ⟨γ16 1, 0, none⟩)), (6, .int .i64 (posK Rn.id ts r.id : Nat)), (27, .func (.func 60) #[] #[.pointer (some ⟨γ1 1, 0, none⟩), .pointer (some ⟨γ1 2, 0, none⟩)]), (32, .agg #[.int .u64 ((topV ts).1.hi), .int .u64 ((topV ts).1.lo), .int .u64 ((topV ts).1.w)]), (33, .bool ((topV ts).2))]) (fun _ => bx (γ30 0) (#[.slice q29 n cq29]) 24 :: bx (γ18 1) (#[.slice none 0 0]) 24 :: bx (γ18 0) (#[.slice p n cap]) 24 :: bx (γ16 3) (#[.slice none 0 0]) 24 :: bx (γ16 2) (#[.func (.func 60) #[] #[.pointer (some ⟨γ1 1, 0, none⟩), .pointer (some ⟨γ1 2, 0, none⟩)]]) 98 :: bx (γ16 1) (#[.int .i64 r.id, .int .i64 r.each, .int .u64 r.th, .int .u64 r.tl, .int .u64 r.tw]) 35 :: bx (γ16 0) (#[.slice p n cap]) 24 :: bx (γ1 3) (#[.slice none 0 0]) 24 :: bx (γ1 2) (#[.int .u64 boost]) 25 :: bx (γ1 1) (#[.int .i64 r.id, .int .i64 r.each, .int .u64 r.th, .int .u64 r.tl, .int .u64 r.tw]) 35 :: bx (γ1 0) (#[.slice p n cap]) 24 :: (Y29 ++ [])) ?_ (fun hmx9 => ?_)
      ·
       rintro _ _
       refine any_fork [7, 11] (by kernel_rfl) (by simp) (each_cons _ rfl ?_ (each_cons _ rfl ?_ (each_nil)))
       ·
        refine cD (.tuple #[.agg #[.int .u64 ((timeV (topV ts) r boost).1.hi), .int .u64 ((timeV (topV ts) r boost).1.lo), .int .u64 ((timeV (topV ts) r boost).1.w)], .int .i64 ((timeV (topV ts) r boost).2)]) Try.call60 (fun w hw => join1_t (topV ts).1 (topV ts).2 r boost (γ1 1) (γ1 2) w (rd_row (hw.row 9 rfl)) (rd_row (hw.row 8 rfl)) (topV_U hU) hr hrb.2.1.1 hrb.2.1.2 hbo0 (by omega)) ?_
        refine od_ ?_
        refine tk (m := 3) [8, 9, 10] [] [0, 1, 6] [(35, .agg #[.int .u64 ((timeV (topV ts) r boost).1.hi), .int .u64 ((timeV (topV ts) r boost).1.lo), .int .u64 ((timeV (topV ts) r boost).1.w)]), (36, .int .i64 ((timeV (topV ts) r boost).2))] ([]) #[true, true, true, true, true, true, true, true, true, true, true, false, false, false] al0 ?_
        exact wk (hmx12 () trivial) [0, 1, 6, 35, 36] [[_], [_], [_], [_], [_], [_], [_], [_], [_], [_], [_], _] [0, 1, 2, 3, 4, 5, 6, 7, 8, 9, 10, 11] rfl rfl
       ·
        refine mo0 1 [] [0, 1, 6, 27, 32, 33] (fun γ272 => [(8, .pointer (some ⟨γ272 0, 0, none⟩))]) (fun γ272 L => bx (γ272 0) (#[.int .u64 0, .int .u64 0, .int .u64 0]) 33 :: L) (fun γ272 => ?_)
        refine od_ ?_
        exact wk (hmx11 γ272 trivial) [0, 1, 6, 8, 27, 32, 33] [[_], [_], [_], [_], [_], [_], [_], [_], [_], [_], [_], [_], _] [0, 1, 2, 3, 4, 5, 6, 7, 8, 9, 10, 11, 12] rfl rfl
      refine any_cutX (V := Unit) (fun _ => True) 8 #[false, true, true, true, true, true, true, false, false, false, false, false, false, false] (fun _ => [(0, .pointer (some ⟨γ30 0, 0, none⟩)), (1, .pointer (some ⟨γ16 1, 0, none⟩)), (2, .pointer (some ⟨γ16 2, 0, none⟩)), (6, .int .i64 (posK Rn.id ts r.id : Nat)), (32, .agg #[.int .u64 ((topV ts).1.hi), .int .u64 ((topV ts).1.lo), .int .u64 ((topV ts).1.w)]), (33, .bool ((topV ts).2))]) (fun _ => bx (γ30 0) (#[.slice q29 n cq29]) 24 :: bx (γ18 1) (#[.slice none 0 0]) 24 :: bx (γ18 0) (#[.slice p n cap]) 24 :: bx (γ16 3) (#[.slice none 0 0]) 24 :: bx (γ16 2) (#[.func (.func 60) #[] #[.pointer (some ⟨γ1 1, 0, none⟩), .pointer (some ⟨γ1 2, 0, none⟩)]]) 98 :: bx (γ16 1) (#[.int .i64 r.id, .int .i64 r.each, .int .u64 r.th, .int .u64 r.tl, .int .u64 r.tw]) 35 :: bx (γ16 0) (#[.slice p n cap]) 24 :: bx (γ1 3) (#[.slice none 0 0]) 24 :: bx (γ1 2) (#[.int .u64 boost]) 25 :: bx (γ1 1) (#[.int .i64 r.id, .int .i64 r.each, .int .u64 r.th, .int .u64 r.tl, .int .u64 r.tw]) 35 :: bx (γ1 0) (#[.slice p n cap]) 24 :: (Y29 ++ [])) ?_ (fun hmx8 => ?_)
      ·
       rintro _ _
       refine any_fork [0, 11] (by kernel_rfl) (by simp) (each_cons _ rfl ?_ (each_cons _ rfl ?_ (each_nil)))
       ·
        refine qo0 1 [(0, .go (owns 4 0 1))] [0, 1, 6, 32, 33] [(27, .func (.func 60) #[] #[.pointer (some ⟨γ1 1, 0, none⟩), .pointer (some ⟨γ1 2, 0, none⟩)])] ?_
        refine od_ ?_
        exact wk (hmx9 () trivial) [0, 1, 6, 27, 32, 33] [[_], [_], [_], [_], [_], [_], [_], [_], [_], [_], [_], _] [0, 1, 2, 3, 4, 5, 6, 7, 8, 9, 10, 11] rfl rfl
       ·
        refine mo0 1 [] [0, 1, 2, 6, 32, 33] (fun γ272 => [(8, .pointer (some ⟨γ272 0, 0, none⟩))]) (fun γ272 L => bx (γ272 0) (#[.int .u64 0, .int .u64 0, .int .u64 0]) 33 :: L) (fun γ272 => ?_)
        refine od_ ?_
        exact wk (hmx10 γ272 trivial) [0, 1, 2, 6, 8, 32, 33] [[_], [_], [_], [_], [_], [_], [_], [_], [_], [_], [_], [_], _] [0, 1, 2, 3, 4, 5, 6, 7, 8, 9, 10, 11, 12] rfl rfl
      refine any_cutX (V := (Nat → Nat)) (fun γ272 => True) 9 #[true, true, true, true, false, false, false, false, false, false, false, true, false, false] (fun γ272 => [(0, .pointer (some ⟨γ30 0, 0, none⟩)), (1, .pointer (some ⟨γ16 1, 0, none⟩)), (6, .int .i64 (posK Rn.id ts r.id : Nat)), (8, .pointer (some ⟨γ272 0, 0, none⟩)), (27, .func (.func 60) #[] #[.pointer (some ⟨γ1 1, 0, none⟩), .pointer (some ⟨γ1 2, 0, none⟩)]), (30, .agg #[.slice q29 n cq29])]) (fun γ272 => bx (γ272 0) (#[.int .u64 0, .int .u64 0, .int .u64 0]) 33 :: bx (γ30 0) (#[.slice q29 n cq29]) 24 :: bx (γ18 1) (#[.slice none 0 0]) 24 :: bx (γ18 0) (#[.slice p n cap]) 24 :: bx (γ16 3) (#[.slice none 0 0]) 24 :: bx (γ16 2) (#[.func (.func 60) #[] #[.pointer (some ⟨γ1 1, 0, none⟩), .pointer (some ⟨γ1 2, 0, none⟩)]]) 98 :: bx (γ16 1) (#[.int .i64 r.id, .int .i64 r.each, .int .u64 r.th, .int .u64 r.tl, .int .u64 r.tw]) 35 :: bx (γ16 0) (#[.slice p n cap]) 24 :: bx (γ1 3) (#[.slice none 0 0]) 24 :: bx (γ1 2) (#[.int .u64 boost]) 25 :: bx (γ1 1) (#[.int .i64 r.id, .int .i64 r.each, .int .u64 r.th, .int .u64 r.tl, .int .u64 r.tw]) 35 :: bx (γ1 0) (#[.slice p n cap]) 24 :: (Y29 ++ [])) ?_ (fun hmx7 => ?_)
      ·
       rintro γ272 _
       refine a1 4 rfl ?_
       refine cD (.tuple #[.agg #[.int .u64 ((topV ts).1.hi), .int .u64 ((topV ts).1.lo), .int .u64 ((topV ts).1.w)], .bool ((topV ts).2)]) Try.call49 (fun w hw => top_t q29 n cq29 ts w (hO29.atN (A := [_, _, _, _, _, _, _, _, _, _, _, _]) hw) hO29.len (by omega) hU) ?_
       refine od_ ?_
       refine tk (m := 6) [5, 6] [] [0, 1, 6, 8, 27] [(32, .agg #[.int .u64 ((topV ts).1.hi), .int .u64 ((topV ts).1.lo), .int .u64 ((topV ts).1.w)]), (33, .bool ((topV ts).2))] ([]) #[true, true, true, true, true, true, true, false, false, false, false, true, false, false] al0 ?_
       exact wk (hmx11 γ272 trivial) [0, 1, 6, 8, 27, 32, 33] [[_], [_], [_], [_], [_], [_], [_], [_], [_], [_], [_], [_], _] [0, 1, 2, 3, 4, 5, 6, 7, 8, 9, 10, 11, 12] rfl rfl
      refine any_cutX (V := (Nat → Nat)) (fun γ272 => True) 10 #[false, true, true, true, false, false, false, false, false, false, false, true, false, false] (fun γ272 => [(0, .pointer (some ⟨γ30 0, 0, none⟩)), (1, .pointer (some ⟨γ16 1, 0, none⟩)), (2, .pointer (some ⟨γ16 2, 0, none⟩)), (6, .int .i64 (posK Rn.id ts r.id : Nat)), (8, .pointer (some ⟨γ272 0, 0, none⟩)), (30, .agg #[.slice q29 n cq29])]) (fun γ272 => bx (γ272 0) (#[.int .u64 0, .int .u64 0, .int .u64 0]) 33 :: bx (γ30 0) (#[.slice q29 n cq29]) 24 :: bx (γ18 1) (#[.slice none 0 0]) 24 :: bx (γ18 0) (#[.slice p n cap]) 24 :: bx (γ16 3) (#[.slice none 0 0]) 24 :: bx (γ16 2) (#[.func (.func 60) #[] #[.pointer (some ⟨γ1 1, 0, none⟩), .pointer (some ⟨γ1 2, 0, none⟩)]]) 98 :: bx (γ16 1) (#[.int .i64 r.id, .int .i64 r.each, .int .u64 r.th, .int .u64 r.tl, .int .u64 r.tw]) 35 :: bx (γ16 0) (#[.slice p n cap]) 24 :: bx (γ1 3) (#[.slice none 0 0]) 24 :: bx (γ1 2) (#[.int .u64 boost]) 25 :: bx (γ1 1) (#[.int .i64 r.id, .int .i64 r.each, .int .u64 r.th, .int .u64 r.tl, .int .u64 r.tw]) 35 :: bx (γ1 0) (#[.slice p n cap]) 24 :: (Y29 ++ [])) ?_ (fun hmx6 => ?_)
      ·
       rintro γ272 _
       refine any_fork [0, 4] (by kernel_rfl) (by simp) (each_cons _ rfl ?_ (each_cons _ rfl ?_ (each_nil)))
       ·
        refine qo0 1 [(0, .go (owns 5 0 1))] [0, 1, 6, 8, 30] [(27, .func (.func 60) #[] #[.pointer (some ⟨γ1 1, 0, none⟩), .pointer (some ⟨γ1 2, 0, none⟩)])] ?_
        refine od_ ?_
        exact wk (hmx7 γ272 trivial) [0, 1, 6, 8, 27, 30] [[_], [_], [_], [_], [_], [_], [_], [_], [_], [_], [_], [_], _] [0, 1, 2, 3, 4, 5, 6, 7, 8, 9, 10, 11, 12] rfl rfl
       ·
        refine cD (.tuple #[.agg #[.int .u64 ((topV ts).1.hi), .int .u64 ((topV ts).1.lo), .int .u64 ((topV ts).1.w)], .bool ((topV ts).2)]) Try.call49 (fun w hw => top_t q29 n cq29 ts w (hO29.atN (A := [_, _, _, _, _, _, _, _, _, _, _, _]) hw) hO29.len (by omega) hU) ?_
        refine od_ ?_
        refine tk (m := 7) [5, 6] [] [0, 1, 2, 6, 8] [(32, .agg #[.int .u64 ((topV ts).1.hi), .int .u64 ((topV ts).1.lo), .int .u64 ((topV ts).1.w)]), (33, .bool ((topV ts).2))] ([]) #[false, true, true, true, true, true, true, false, false, false, false, true, false, false] al0 ?_
        exact wk (hmx10 γ272 trivial) [0, 1, 2, 6, 8, 32, 33] [[_], [_], [_], [_], [_], [_], [_], [_], [_], [_], [_], [_], _] [0, 1, 2, 3, 4, 5, 6, 7, 8, 9, 10, 11, 12] rfl rfl
      refine any_cutX (V := (Nat → Nat)) (fun γ272 => True) 10 #[true, true, true, false, false, false, false, false, false, false, false, true, false, false] (fun γ272 => [(0, .pointer (some ⟨γ30 0, 0, none⟩)), (1, .pointer (some ⟨γ16 1, 0, none⟩)), (6, .int .i64 (posK Rn.id ts r.id : Nat)), (8, .pointer (some ⟨γ272 0, 0, none⟩)), (27, .func (.func 60) #[] #[.pointer (some ⟨γ1 1, 0, none⟩), .pointer (some ⟨γ1 2, 0, none⟩)]), (29, .pointer (some ⟨γ30 0, 0, none⟩))]) (fun γ272 => bx (γ272 0) (#[.int .u64 0, .int .u64 0, .int .u64 0]) 33 :: bx (γ30 0) (#[.slice q29 n cq29]) 24 :: bx (γ18 1) (#[.slice none 0 0]) 24 :: bx (γ18 0) (#[.slice p n cap]) 24 :: bx (γ16 3) (#[.slice none 0 0]) 24 :: bx (γ16 2) (#[.func (.func 60) #[] #[.pointer (some ⟨γ1 1, 0, none⟩), .pointer (some ⟨γ1 2, 0, none⟩)]]) 98 :: bx (γ16 1) (#[.int .i64 r.id, .int .i64 r.each, .int .u64 r.th, .int .u64 r.tl, .int .u64 r.tw]) 35 :: bx (γ16 0) (#[.slice p n cap]) 24 :: bx (γ1 3) (#[.slice none 0 0]) 24 :: bx (γ1 2) (#[.int .u64 boost]) 25 :: bx (γ1 1) (#[.int .i64 r.id, .int .i64 r.each, .int .u64 r.th, .int .u64 r.tl, .int .u64 r.tw]) 35 :: bx (γ1 0) (#[.slice p n cap]) 24 :: (Y29 ++ [])) ?_ (fun hmx5 => ?_)
      ·
       rintro γ272 _
       refine a1 3 rfl ?_
       refine qo0 1 [(3, .go (owns 1 0 1))] [0, 1, 6, 8, 27] [(30, .agg #[.slice q29 n cq29])] ?_
       refine od_ ?_
       exact wk (hmx7 γ272 trivial) [0, 1, 6, 8, 27, 30] [[_], [_], [_], [_], [_], [_], [_], [_], [_], [_], [_], [_], _] [0, 1, 2, 3, 4, 5, 6, 7, 8, 9, 10, 11, 12] rfl rfl
      refine any_cutX (V := Unit) (fun _ => True) 10 #[true, true, true, true, false, false, false, false, false, false, false, false, false, false] (fun _ => [(0, .pointer (some ⟨γ30 0, 0, none⟩)), (1, .pointer (some ⟨γ16 1, 0, none⟩)), (6, .int .i64 (posK Rn.id ts r.id : Nat)), (27, .func (.func 60) #[] #[.pointer (some ⟨γ1 1, 0, none⟩), .pointer (some ⟨γ1 2, 0, none⟩)]), (30, .agg #[.slice q29 n cq29])]) (fun _ => bx (γ30 0) (#[.slice q29 n cq29]) 24 :: bx (γ18 1) (#[.slice none 0 0]) 24 :: bx (γ18 0) (#[.slice p n cap]) 24 :: bx (γ16 3) (#[.slice none 0 0]) 24 :: bx (γ16 2) (#[.func (.func 60) #[] #[.pointer (some ⟨γ1 1, 0, none⟩), .pointer (some ⟨γ1 2, 0, none⟩)]]) 98 :: bx (γ16 1) (#[.int .i64 r.id, .int .i64 r.each, .int .u64 r.th, .int .u64 r.tl, .int .u64 r.tw]) 35 :: bx (γ16 0) (#[.slice p n cap]) 24 :: bx (γ1 3) (#[.slice none 0 0]) 24 :: bx (γ1 2) (#[.int .u64 boost]) 25 :: bx (γ1 1) (#[.int .i64 r.id, .int .i64 r.each, .int .u64 r.th, .int .u64 r.tl, .int .u64 r.tw]) 35 :: bx (γ1 0) (#[.slice p n cap]) 24 :: (Y29 ++ [])) ?_ (fun hmx4 => ?_)
      ·
       rintro _ _
       refine any_fork [4, 11] (by kernel_rfl) (by simp) (each_cons _ rfl ?_ (each_cons _ rfl ?_ (each_nil)))
       ·
        refine cD (.tuple #[.agg #[.int .u64 ((topV ts).1.hi), .int .u64 ((topV ts).1.lo), .int .u64 ((topV ts).1.w)], .bool ((topV ts).2)]) Try.call49 (fun w hw => top_t q29 n cq29 ts w (hO29.atN (A := [_, _, _, _, _, _, _, _, _, _, _]) hw) hO29.len (by omega) hU) ?_
        refine od_ ?_
        refine tk (m := 7) [5, 6] [] [0, 1, 6, 27] [(32, .agg #[.int .u64 ((topV ts).1.hi), .int .u64 ((topV ts).1.lo), .int .u64 ((topV ts).1.w)]), (33, .bool ((topV ts).2))] ([]) #[true, true, true, true, true, true, true, false, false, false, false, false, false, false] al0 ?_
        exact wk (hmx9 () trivial) [0, 1, 6, 27, 32, 33] [[_], [_], [_], [_], [_], [_], [_], [_], [_], [_], [_], _] [0, 1, 2, 3, 4, 5, 6, 7, 8, 9, 10, 11] rfl rfl
       ·
        refine mo0 1 [] [0, 1, 6, 27, 30] (fun γ272 => [(8, .pointer (some ⟨γ272 0, 0, none⟩))]) (fun γ272 L => bx (γ272 0) (#[.int .u64 0, .int .u64 0, .int .u64 0]) 33 :: L) (fun γ272 => ?_)
        refine od_ ?_
        exact wk (hmx7 γ272 trivial) [0, 1, 6, 8, 27, 30] [[_], [_], [_], [_], [_], [_], [_], [_], [_], [_], [_], [_], _] [0, 1, 2, 3, 4, 5, 6, 7, 8, 9, 10, 11, 12] rfl rfl
      refine any_cutX (V := (Nat → Nat)) (fun γ272 => True) 11 #[false, true, true, false, false, false, false, false, false, false, false, true, false, false] (fun γ272 => [(0, .pointer (some ⟨γ30 0, 0, none⟩)), (1, .pointer (some ⟨γ16 1, 0, none⟩)), (2, .pointer (some ⟨γ16 2, 0, none⟩)), (6, .int .i64 (posK Rn.id ts r.id : Nat)), (8, .pointer (some ⟨γ272 0, 0, none⟩)), (29, .pointer (some ⟨γ30 0, 0, none⟩))]) (fun γ272 => bx (γ272 0) (#[.int .u64 0, .int .u64 0, .int .u64 0]) 33 :: bx (γ30 0) (#[.slice q29 n cq29]) 24 :: bx (γ18 1) (#[.slice none 0 0]) 24 :: bx (γ18 0) (#[.slice p n cap]) 24 :: bx (γ16 3) (#[.slice none 0 0]) 24 :: bx (γ16 2) (#[.func (.func 60) #[] #[.pointer (some ⟨γ1 1, 0, none⟩), .pointer (some ⟨γ1 2, 0, none⟩)]]) 98 :: bx (γ16 1) (#[.int .i64 r.id, .int .i64 r.each, .int .u64 r.th, .int .u64 r.tl, .int .u64 r.tw]) 35 :: bx (γ16 0) (#[.slice p n cap]) 24 :: bx (γ1 3) (#[.slice none 0 0]) 24 :: bx (γ1 2) (#[.int .u64 boost]) 25 :: bx (γ1 1) (#[.int .i64 r.id, .int .i64 r.each, .int .u64 r.th, .int .u64 r.tl, .int .u64 r.tw]) 35 :: bx (γ1 0) (#[.slice p n cap]) 24 :: (Y29 ++ [])) ?_ (fun hmx3 => ?_)
      ·
       rintro γ272 _
       refine any_fork [0, 3] (by kernel_rfl) (by simp) (each_cons _ rfl ?_ (each_cons _ rfl ?_ (each_nil)))
       ·
        refine qo0 1 [(0, .go (owns 5 0 1))] [0, 1, 6, 8, 29] [(27, .func (.func 60) #[] #[.pointer (some ⟨γ1 1, 0, none⟩), .pointer (some ⟨γ1 2, 0, none⟩)])] ?_
        refine od_ ?_
        exact wk (hmx5 γ272 trivial) [0, 1, 6, 8, 27, 29] [[_], [_], [_], [_], [_], [_], [_], [_], [_], [_], [_], [_], _] [0, 1, 2, 3, 4, 5, 6, 7, 8, 9, 10, 11, 12] rfl rfl
       ·
        refine qo0 1 [(3, .go (owns 1 0 1))] [0, 1, 2, 6, 8] [(30, .agg #[.slice q29 n cq29])] ?_
        refine od_ ?_
        exact wk (hmx6 γ272 trivial) [0, 1, 2, 6, 8, 30] [[_], [_], [_], [_], [_], [_], [_], [_], [_], [_], [_], [_], _] [0, 1, 2, 3, 4, 5, 6, 7, 8, 9, 10, 11, 12] rfl rfl
      refine any_cutX (V := Unit) (fun _ => True) 11 #[false, true, true, true, false, false, false, false, false, false, false, false, false, false] (fun _ => [(0, .pointer (some ⟨γ30 0, 0, none⟩)), (1, .pointer (some ⟨γ16 1, 0, none⟩)), (2, .pointer (some ⟨γ16 2, 0, none⟩)), (6, .int .i64 (posK Rn.id ts r.id : Nat)), (30, .agg #[.slice q29 n cq29])]) (fun _ => bx (γ30 0) (#[.slice q29 n cq29]) 24 :: bx (γ18 1) (#[.slice none 0 0]) 24 :: bx (γ18 0) (#[.slice p n cap]) 24 :: bx (γ16 3) (#[.slice none 0 0]) 24 :: bx (γ16 2) (#[.func (.func 60) #[] #[.pointer (some ⟨γ1 1, 0, none⟩), .pointer (some ⟨γ1 2, 0, none⟩)]]) 98 :: bx (γ16 1) (#[.int .i64 r.id, .int .i64 r.each, .int .u64 r.th, .int .u64 r.tl, .int .u64 r.tw]) 35 :: bx (γ16 0) (#[.slice p n cap]) 24 :: bx (γ1 3) (#[.slice none 0 0]) 24 :: bx (γ1 2) (#[.int .u64 boost]) 25 :: bx (γ1 1) (#[.int .i64 r.id, .int .i64 r.each, .int .u64 r.th, .int .u64 r.tl, .int .u64 r.tw]) 35 :: bx (γ1 0) (#[.slice p n cap]) 24 :: (Y29 ++ [])) ?_ (fun hmx2 => ?_)
      ·
       rintro _ _
       refine any_fork [0, 4, 11] (by kernel_rfl) (by simp) (each_cons _ rfl ?_ (each_cons _ rfl ?_ (each_cons _ rfl ?_ (each_nil))))
       ·
        refine qo0 1 [(0, .go (owns 4 0 1))] [0, 1, 6, 30] [(27, .func (.func 60) #[] #[.pointer (some ⟨γ1 1, 0, none⟩), .pointer (some ⟨γ1 2, 0, none⟩)])] ?_
        refine od_ ?_
        exact wk (hmx4 () trivial) [0, 1, 6, 27, 30] [[_], [_], [_], [_], [_], [_], [_], [_], [_], [_], [_], _] [0, 1, 2, 3, 4, 5, 6, 7, 8, 9, 10, 11] rfl rfl
       ·
        refine cD (.tuple #[.agg #[.int .u64 ((topV ts).1.hi), .int .u64 ((topV ts).1.lo), .int .u64 ((topV ts).1.w)], .bool ((topV ts).2)]) Try.call49 (fun w hw => top_t q29 n cq29 ts w (hO29.atN (A := [_, _, _, _, _, _, _, _, _, _, _]) hw) hO29.len (by omega) hU) ?_
        refine od_ ?_
        refine tk (m := 8) [5, 6] [] [0, 1, 2, 6] [(32, .agg #[.int .u64 ((topV ts).1.hi), .int .u64 ((topV ts).1.lo), .int .u64 ((topV ts).1.w)]), (33, .bool ((topV ts).2))] ([]) #[false, true, true, true, true, true, true, false, false, false, false, false, false, false] al0 ?_
        exact wk (hmx8 () trivial) [0, 1, 2, 6, 32, 33] [[_], [_], [_], [_], [_], [_], [_], [_], [_], [_], [_], _] [0, 1, 2, 3, 4, 5, 6, 7, 8, 9, 10, 11] rfl rfl
       ·
        refine mo0 1 [] [0, 1, 2, 6, 30] (fun γ272 => [(8, .pointer (some ⟨γ272 0, 0, none⟩))]) (fun γ272 L => bx (γ272 0) (#[.int .u64 0, .int .u64 0, .int .u64 0]) 33 :: L) (fun γ272 => ?_)
        refine od_ ?_
        exact wk (hmx6 γ272 trivial) [0, 1, 2, 6, 8, 30] [[_], [_], [_], [_], [_], [_], [_], [_], [_], [_], [_], [_], _] [0, 1, 2, 3, 4, 5, 6, 7, 8, 9, 10, 11, 12] rfl rfl
      refine any_cutX (V := Unit) (fun _ => True) 11 #[true, true, true, false, false, false, false, false, false, false, false, false, false, false] (fun _ => [(0, .pointer (some ⟨γ30 0, 0, none⟩)), (1, .pointer (some ⟨γ16 1, 0, none⟩)), (6, .int .i64 (posK Rn.id ts r.id : Nat)), (27, .func (.func 60) #[] #[.pointer (some ⟨γ1 1, 0, none⟩), .pointer (some ⟨γ1 2, 0, none⟩)]), (29, .pointer (some ⟨γ30 0, 0, none⟩))]) (fun _ => bx (γ30 0) (#[.slice q29 n cq29]) 24 :: bx (γ18 1) (#[.slice none 0 0]) 24 :: bx (γ18 0) (#[.slice p n cap]) 24 :: bx (γ16 3) (#[.slice none 0 0]) 24 :: bx (γ16 2) (#[.func (.func 60) #[] #[.pointer (some ⟨γ1 1, 0, none⟩), .pointer (some ⟨γ1 2, 0, none⟩)]]) 98 :: bx (γ16 1) (#[.int .i64 r.id, .int .i64 r.each, .int .u64 r.th, .int .u64 r.tl, .int .u64 r.tw]) 35 :: bx (γ16 0) (#[.slice p n cap]) 24 :: bx (γ1 3) (#[.slice none 0 0]) 24 :: bx (γ1 2) (#[.int .u64 boost]) 25 :: bx (γ1 1) (#[.int .i64 r.id, .int .i64 r.each, .int .u64 r.th, .int .u64 r.tl, .int .u64 r.tw]) 35 :: bx (γ1 0) (#[.slice p n cap]) 24 :: (Y29 ++ [])) ?_ (fun hmx1 => ?_)
      ·
       rintro _ _
       refine any_fork [3, 11] (by kernel_rfl) (by simp) (each_cons _ rfl ?_ (each_cons _ rfl ?_ (each_nil)))
       ·
        refine qo0 1 [(3, .go (owns 0 0 1))] [0, 1, 6, 27] [(30, .agg #[.slice q29 n cq29])] ?_
        refine od_ ?_
        exact wk (hmx4 () trivial) [0, 1, 6, 27, 30] [[_], [_], [_], [_], [_], [_], [_], [_], [_], [_], [_], _] [0, 1, 2, 3, 4, 5, 6, 7, 8, 9, 10, 11] rfl rfl
       ·
        refine mo0 1 [] [0, 1, 6, 27, 29] (fun γ272 => [(8, .pointer (some ⟨γ272 0, 0, none⟩))]) (fun γ272 L => bx (γ272 0) (#[.int .u64 0, .int .u64 0, .int .u64 0]) 33 :: L) (fun γ272 => ?_)
        refine od_ ?_
        exact wk (hmx5 γ272 trivial) [0, 1, 6, 8, 27, 29] [[_], [_], [_], [_], [_], [_], [_], [_], [_], [_], [_], [_], _] [0, 1, 2, 3, 4, 5, 6, 7, 8, 9, 10, 11, 12] rfl rfl
      refine any_fork [0, 3, 11] (by kernel_rfl) (by simp) (each_cons _ rfl ?_ (each_cons _ rfl ?_ (each_cons _ rfl ?_ (each_nil))))
      ·
       refine qo0 1 [(0, .go (owns 4 0 1))] [0, 1, 6, 29] [(27, .func (.func 60) #[] #[.pointer (some ⟨γ1 1, 0, none⟩), .pointer (some ⟨γ1 2, 0, none⟩)])] ?_
       refine od_ ?_
       exact wk (hmx1 () trivial) [0, 1, 6, 27, 29] [[_], [_], [_], [_], [_], [_], [_], [_], [_], [_], [_], _] [0, 1, 2, 3, 4, 5, 6, 7, 8, 9, 10, 11] rfl rfl
      ·
       refine qo0 1 [(3, .go (owns 0 0 1))] [0, 1, 2, 6] [(30, .agg #[.slice q29 n cq29])] ?_
       refine od_ ?_
       exact wk (hmx2 () trivial) [0, 1, 2, 6, 30] [[_], [_], [_], [_], [_], [_], [_], [_], [_], [_], [_], _] [0, 1, 2, 3, 4, 5, 6, 7, 8, 9, 10, 11] rfl rfl
      ·
       refine mo0 1 [] [0, 1, 2, 6, 29] (fun γ272 => [(8, .pointer (some ⟨γ272 0, 0, none⟩))]) (fun γ272 L => bx (γ272 0) (#[.int .u64 0, .int .u64 0, .int .u64 0]) 33 :: L) (fun γ272 => ?_)
       refine od_ ?_
       exact wk (hmx3 γ272 trivial) [0, 1, 2, 6, 8, 29] [[_], [_], [_], [_], [_], [_], [_], [_], [_], [_], [_], [_], _] [0, 1, 2, 3, 4, 5, 6, 7, 8, 9, 10, 11, 12] rfl rfl
     rintro γ272 _
     refine any_nil (by kernel_rfl) ?_
     refine ds_ (sq_ (sq_ ?_))
     by_cases q386 : ((timeV (topV ts) r boost).2 : Int) ≠ (0 : Int)
     ·
      refine qa [(1, .yes)] [0, 1, 6, 8, 9] [(38, .bool true)] ([((timeV (topV ts) r boost).2 : Int) ≠ (0 : Int)]) (al1 q386) (ds_ (t_ (sq_ (qa0 [] [] [(4, .int .i64 ((timeV (topV ts) r boost).2))] (ds_ (bk ([]) (.int .i64 ((timeV (topV ts) r boost).2)) (qo0 1 [] [4, 7] [(8, .int .i64 ((timeV (topV ts) r boost).2))] (on_ (ds_ (sq_ (qa [(1, .yes)] [4, 7, 8] [(22, .bool true)] ([((timeV (topV ts) r boost).2 : Int) ≠ (0 : Int)]) (al1 q386) (ds_ (t_ (sq_ (qa0 [(2, .go (owns 2 0 1))] [4] [(5, .int .i64 ((timeV (topV ts) r boost).2))] (ds_ (bk (owns 2 0 1) (.tuple #[.agg #[.slice none 0 0], .int .i64 ((timeV (topV ts) r boost).2)]) (qo0 4 [(5, .go (owns 4 0 1))] [6] [(7, .int .i64 ((timeV (topV ts) r boost).2))] (on_ (ds_ (bk (owns 4 0 1) (.tuple #[.agg #[.slice none 0 0], .int .i64 ((timeV (topV ts) r boost).2)]) (qo0 4 [(6, .go (owns 8 0 1))] [6] [(7, .int .i64 ((timeV (topV ts) r boost).2))] (on_ (ds_ (rt (owns 8 0 1) (.tuple #[.agg #[.slice none 0 0], .int .i64 ((timeV (topV ts) r boost).2)]) ?_)))))))))))))))))))))))))
      exact fun w' hw => by rw [join_err (by omega) q20 q34 hg46 (by omega)]; exact ⟨none, 0, 0, [], rfl, SlO.nil, hw.below, hw.sub (List.nil_sublist _)⟩
     ·
      refine qa [(1, .no)] [0, 1, 6, 8, 9] [(38, .bool false)] ([¬ (((timeV (topV ts) r boost).2 : Int) ≠ (0 : Int))]) (al1 q386) (ds_ (f_ (at_skip (ds_ (sq_ (ma0 [(0, .go (owns 0 0 3)), (2, .go (owns 6 2 3))] [0, 1, 6] (fun _ => []) (fun _ L => (L.set 6 (bx (γ16 1) (#[.int .i64 r.id, .int .i64 r.each, .int .u64 ((timeV (topV ts) r boost).1.hi), .int .u64 ((timeV (topV ts) r boost).1.lo), .int .u64 ((timeV (topV ts) r boost).1.w)]) 35))) (fun _ => ds_ (sq_ ?_))))))))
      refine at_any (by kernel_rfl) ?_
      refine tk (m := 7) [0, 1, 2, 3, 5] [] [1] [(42, .pointer (some ⟨γ30 0, 0, none⟩)), (45, .pointer (some ⟨γ30 0, 0, none⟩)), (47, .int .i64 (posK Rn.id ts r.id : Nat))] ([]) #[true, true, true, true, false, true, false, false, false, false, false, false] al0 ?_
      refine any_cutG 4 #[true, true, true, true, true, true, true, true, false, false, false, false] (fun γ401 => [(42, .pointer (some ⟨γ30 0, 0, none⟩)), (46, .slice q29 n cq29), (47, .int .i64 (posK Rn.id ts r.id : Nat)), (49, .slice (some ⟨γ401 0, 0, none⟩) 1 1)]) (fun γ401 => bx (γ401 0) (#[.int .i64 r.id, .int .i64 r.each, .int .u64 ((timeV (topV ts) r boost).1.hi), .int .u64 ((timeV (topV ts) r boost).1.lo), .int .u64 ((timeV (topV ts) r boost).1.w)]) 35 :: bx (γ272 0) (#[.int .u64 ((timeV (topV ts) r boost).1.hi), .int .u64 ((timeV (topV ts) r boost).1.lo), .int .u64 ((timeV (topV ts) r boost).1.w)]) 33 :: bx (γ30 0) (#[.slice q29 n cq29]) 24 :: bx (γ18 1) (#[.slice none 0 0]) 24 :: bx (γ18 0) (#[.slice p n cap]) 24 :: bx (γ16 3) (#[.slice none 0 0]) 24 :: bx (γ16 2) (#[.func (.func 60) #[] #[.pointer (some ⟨γ1 1, 0, none⟩), .pointer (some ⟨γ1 2, 0, none⟩)]]) 98 :: bx (γ16 1) (#[.int .i64 r.id, .int .i64 r.each, .int .u64 ((timeV (topV ts) r boost).1.hi), .int .u64 ((timeV (topV ts) r boost).1.lo), .int .u64 ((timeV (topV ts) r boost).1.w)]) 35 :: bx (γ16 0) (#[.slice p n cap]) 24 :: bx (γ1 3) (#[.slice none 0 0]) 24 :: bx (γ1 2) (#[.int .u64 boost]) 25 :: bx (γ1 1) (#[.int .i64 r.id, .int .i64 r.each, .int .u64 r.th, .int .u64 r.tl, .int .u64 r.tw]) 35 :: bx (γ1 0) (#[.slice p n cap]) 24 :: (Y29 ++ [])) (fun γ401 => ?_) (fun hm => ?_)
      rotate_left
      ·
       refine any_fork [4, 6] (by kernel_rfl) (by simp) (each_cons _ rfl ?_ (each_cons _ rfl ?_ (each_nil)))
       ·
        refine qo0 1 [(4, .go (owns 1 0 1))] [1, 42, 47] [(46, .slice q29 n cq29)] ?_
        refine od_ ?_
        refine a1 6 rfl ?_
        refine qo0 1 [(6, .go (owns 6 0 5))] [42, 46, 47] [(48, .agg #[.int .i64 r.id, .int .i64 r.each, .int .u64 ((timeV (topV ts) r boost).1.hi), .int .u64 ((timeV (topV ts) r boost).1.lo), .int .u64 ((timeV (topV ts) r boost).1.w)])] ?_
        refine od_ ?_
        refine a1 7 rfl ?_
        refine mo0 1 [] [42, 46, 47] (fun γ404 => [(49, .slice (some ⟨γ404 0, 0, none⟩) 1 1)]) (fun γ404 L => bx (γ404 0) (#[.int .i64 r.id, .int .i64 r.each, .int .u64 ((timeV (topV ts) r boost).1.hi), .int .u64 ((timeV (topV ts) r boost).1.lo), .int .u64 ((timeV (topV ts) r boost).1.w)]) 35 :: L) (fun γ404 => ?_)
        refine od_ ?_
        exact any_weak (hm fun i => [γ404 0].getD i 0) [42, 46, 47, 49] (by kernel_rfl) rfl rfl rfl
       ·
        refine qo0 1 [(6, .go (owns 6 0 5))] [42, 45, 47] [(48, .agg #[.int .i64 r.id, .int .i64 r.each, .int .u64 ((timeV (topV ts) r boost).1.hi), .int .u64 ((timeV (topV ts) r boost).1.lo), .int .u64 ((timeV (topV ts) r boost).1.w)])] ?_
        refine od_ ?_
        refine any_fork [4, 7] (by kernel_rfl) (by simp) (each_cons _ rfl ?_ (each_cons _ rfl ?_ (each_nil)))
        ·
         refine qo0 1 [(4, .go (owns 1 0 1))] [42, 47, 48] [(46, .slice q29 n cq29)] ?_
         refine od_ ?_
         refine a1 7 rfl ?_
         refine mo0 1 [] [42, 46, 47] (fun γ407 => [(49, .slice (some ⟨γ407 0, 0, none⟩) 1 1)]) (fun γ407 L => bx (γ407 0) (#[.int .i64 r.id, .int .i64 r.each, .int .u64 ((timeV (topV ts) r boost).1.hi), .int .u64 ((timeV (topV ts) r boost).1.lo), .int .u64 ((timeV (topV ts) r boost).1.w)]) 35 :: L) (fun γ407 => ?_)
         refine od_ ?_
         exact any_weak (hm fun i => [γ407 0].getD i 0) [42, 46, 47, 49] (by kernel_rfl) rfl rfl rfl
        ·
         refine mo0 1 [] [42, 45, 47] (fun γ408 => [(49, .slice (some ⟨γ408 0, 0, none⟩) 1 1)]) (fun γ408 L => bx (γ408 0) (#[.int .i64 r.id, .int .i64 r.each, .int .u64 ((timeV (topV ts) r boost).1.hi), .int .u64 ((timeV (topV ts) r boost).1.lo), .int .u64 ((timeV (topV ts) r boost).1.w)]) 35 :: L) (fun γ408 => ?_)
         refine od_ ?_
         refine a1 4 rfl ?_
         refine qo0 1 [(4, .go (owns 2 0 1))] [42, 47, 49] [(46, .slice q29 n cq29)] ?_
         refine od_ ?_
         exact any_weak (hm fun i => [γ408 0].getD i 0) [42, 46, 47, 49] (by kernel_rfl) rfl rfl rfl
      refine a1 8 rfl ?_
      refine cP (fun v L' => ∃ q_ capq_ Y_, v = .slice q_ (n + 1) capq_ ∧ L' = [bx (γ272 0) (#[.int .u64 ((timeV (topV ts) r boost).1.hi), .int .u64 ((timeV (topV ts) r boost).1.lo), .int .u64 ((timeV (topV ts) r boost).1.w)]) 33, bx (γ30 0) (#[.slice q29 n cq29]) 24, bx (γ18 1) (#[.slice none 0 0]) 24, bx (γ18 0) (#[.slice p n cap]) 24, bx (γ16 3) (#[.slice none 0 0]) 24, bx (γ16 2) (#[.func (.func 60) #[] #[.pointer (some ⟨γ1 1, 0, none⟩), .pointer (some ⟨γ1 2, 0, none⟩)]]) 98, bx (γ16 1) (#[.int .i64 r.id, .int .i64 r.each, .int .u64 ((timeV (topV ts) r boost).1.hi), .int .u64 ((timeV (topV ts) r boost).1.lo), .int .u64 ((timeV (topV ts) r boost).1.w)]) 35, bx (γ16 0) (#[.slice p n cap]) 24, bx (γ1 3) (#[.slice none 0 0]) 24, bx (γ1 2) (#[.int .u64 boost]) 25, bx (γ1 1) (#[.int .i64 r.id, .int .i64 r.each, .int .u64 r.th, .int .u64 r.tl, .int .u64 r.tw]) 35, bx (γ1 0) (#[.slice p n cap]) 24] ++ (Y_ ++ []) ∧ SlO 35 Y_ q_ (n + 1) capq_ (ts.take (posK Rn.id ts r.id) ++ [(⟨r.id, r.each, (timeV (topV ts) r boost).1.hi, (timeV (topV ts) r boost).1.lo, (timeV (topV ts) r boost).1.w⟩ : Rn)] ++ ts.drop (posK Rn.id ts r.id))) Try.call80 (fun w hw => (qinsert_t _ ([bx (γ272 0) (#[.int .u64 ((timeV (topV ts) r boost).1.hi), .int .u64 ((timeV (topV ts) r boost).1.lo), .int .u64 ((timeV (topV ts) r boost).1.w)]) 33, bx (γ30 0) (#[.slice q29 n cq29]) 24, bx (γ18 1) (#[.slice none 0 0]) 24, bx (γ18 0) (#[.slice p n cap]) 24, bx (γ16 3) (#[.slice none 0 0]) 24, bx (γ16 2) (#[.func (.func 60) #[] #[.pointer (some ⟨γ1 1, 0, none⟩), .pointer (some ⟨γ1 2, 0, none⟩)]]) 98, bx (γ16 1) (#[.int .i64 r.id, .int .i64 r.each, .int .u64 ((timeV (topV ts) r boost).1.hi), .int .u64 ((timeV (topV ts) r boost).1.lo), .int .u64 ((timeV (topV ts) r boost).1.w)]) 35, bx (γ16 0) (#[.slice p n cap]) 24, bx (γ1 3) (#[.slice none 0 0]) 24, bx (γ1 2) (#[.int .u64 boost]) 25, bx (γ1 1) (#[.int .i64 r.id, .int .i64 r.each, .int .u64 r.th, .int .u64 r.tl, .int .u64 r.tw]) 35, bx (γ1 0) (#[.slice p n cap]) 24] ++ []) Y29 q29 n cq29 ts (posK Rn.id ts r.id) (γ401 0) (#[.int .i64 r.id, .int .i64 r.each, .int .u64 ((timeV (topV ts) r boost).1.hi), .int .u64 ((timeV (topV ts) r boost).1.lo), .int .u64 ((timeV (topV ts) r boost).1.w)]) 1 ([(⟨r.id, r.each, (timeV (topV ts) r boost).1.hi, (timeV (topV ts) r boost).1.lo, (timeV (topV ts) r boost).1.w⟩ : Rn)]) w (hw.pull (A := [bx (γ272 0) (#[.int .u64 ((timeV (topV ts) r boost).1.hi), .int .u64 ((timeV (topV ts) r boost).1.lo), .int .u64 ((timeV (topV ts) r boost).1.w)]) 33, bx (γ30 0) (#[.slice q29 n cq29]) 24, bx (γ18 1) (#[.slice none 0 0]) 24, bx (γ18 0) (#[.slice p n cap]) 24, bx (γ16 3) (#[.slice none 0 0]) 24, bx (γ16 2) (#[.func (.func 60) #[] #[.pointer (some ⟨γ1 1, 0, none⟩), .pointer (some ⟨γ1 2, 0, none⟩)]]) 98, bx (γ16 1) (#[.int .i64 r.id, .int .i64 r.each, .int .u64 ((timeV (topV ts) r boost).1.hi), .int .u64 ((timeV (topV ts) r boost).1.lo), .int .u64 ((timeV (topV ts) r boost).1.w)]) 35, bx (γ16 0) (#[.slice p n cap]) 24, bx (γ1 3) (#[.slice none 0 0]) 24, bx (γ1 2) (#[.int .u64 boost]) 25, bx (γ1 1) (#[.int .i64 r.id, .int .i64 r.each, .int .u64 r.th, .int .u64 r.tl, .int .u64 r.tw]) 35, bx (γ1 0) (#[.slice p n cap]) 24]) (Y := Y29) (R := [])) hO29 (by rfl) (by rfl) (by omega) (by omega) (by omega) (by omega)).mono fun e w' ⟨q_, capq_, Y_, he, hO, hY⟩ => ⟨_, _, he, ⟨q_, capq_, Y_, rfl, rfl, hO⟩, hY.push⟩) ?_
      rintro v410 L410 ⟨q410, cq410, Y410, rfl, rfl, hO410⟩
      refine od_ ?_
      refine tk (m := 1) [9, 10] [] [50] [(52, .pointer (some ⟨γ30 0, 0, none⟩))] ([]) #[true, true, true, true, true, true, true, true, true, true, true, false] al0 ?_
      refine a1 11 rfl ?_
      refine mo0 1 [(11, .go (owns 1 0 1))] [] (fun _ => []) (fun _ L => (L.set 1 (bx (γ30 0) (#[.slice q410 (n + 1) cq410]) 24))) (fun _ => ?_)
      refine od_ ?_
      refine any_nil (by kernel_rfl) ?_
      refine ds_ (sq_ (qa0 [] [] [(4, .int .i64 0)] (ds_ (bk ([]) (.int .i64 0) (qo0 1 [] [4, 7] [(8, .int .i64 0)] (on_ (ds_ (sq_ (qa0 [] [4, 7, 8] [(22, .bool false)] (ds_ (f_ (at_skip (ds_ (sq_ (ma0 [(0, .go (owns 1 0 1)), (1, .go (owns 2 0 1))] [4] (fun _ => [(5, .int .i64 0)]) (fun _ L => (L.set 2 (bx (γ18 1) (#[.slice q410 (n + 1) cq410]) 24))) (fun _ => ds_ (bk (owns 2 0 1) (.tuple #[.agg #[.slice q410 (n + 1) cq410], .int .i64 0]) (mo0 4 [(5, .go (owns 4 0 1))] [6] (fun _ => [(7, .int .i64 0)]) (fun _ L => (L.set 4 (bx (γ16 3) (#[.slice q410 (n + 1) cq410]) 24))) (fun _ => on_ (ds_ (bk (owns 4 0 1) (.tuple #[.agg #[.slice q410 (n + 1) cq410], .int .i64 0]) (mo0 4 [(6, .go (owns 8 0 1))] [6] (fun _ => [(7, .int .i64 0)]) (fun _ L => (L.set 8 (bx (γ1 3) (#[.slice q410 (n + 1) cq410]) 24))) (fun _ => on_ (ds_ (rt (owns 8 0 1) (.tuple #[.agg #[.slice q410 (n + 1) cq410], .int .i64 0]) ?_)))))))))))))))))))))))))
      exact fun w' hw => by rw [join_ok (by omega) q20 q34 hg46 (by omega)]; exact ⟨_, _, _, _, rfl, hO410, hw.below, one_tail (Hs.pick [[bx (γ272 0) (#[.int .u64 ((timeV (topV ts) r boost).1.hi), .int .u64 ((timeV (topV ts) r boost).1.lo), .int .u64 ((timeV (topV ts) r boost).1.w)]) 33], [bx (γ30 0) (#[.slice q410 (n + 1) cq410]) 24], [bx (γ18 1) (#[.slice q410 (n + 1) cq410]) 24], [bx (γ18 0) (#[.slice p n cap]) 24], [bx (γ16 3) (#[.slice q410 (n + 1) cq410]) 24], [bx (γ16 2) (#[.func (.func 60) #[] #[.pointer (some ⟨γ1 1, 0, none⟩), .pointer (some ⟨γ1 2, 0, none⟩)]]) 98], [bx (γ16 1) (#[.int .i64 r.id, .int .i64 r.each, .int .u64 ((timeV (topV ts) r boost).1.hi), .int .u64 ((timeV (topV ts) r boost).1.lo), .int .u64 ((timeV (topV ts) r boost).1.w)]) 35], [bx (γ16 0) (#[.slice p n cap]) 24], [bx (γ1 3) (#[.slice q410 (n + 1) cq410]) 24], [bx (γ1 2) (#[.int .u64 boost]) 25], [bx (γ1 1) (#[.int .i64 r.id, .int .i64 r.each, .int .u64 r.th, .int .u64 r.tl, .int .u64 r.tw]) 35], [bx (γ1 0) (#[.slice p n cap]) 24], Y410] [12] [0, 1, 2, 3, 4, 5, 6, 7, 8, 9, 10, 11] (by kernel_rfl) hw)⟩
    ·
     have hp_y46 := pos_getK hgq.rs hg46
     have hl_y46 := (List.getElem?_eq_some_iff.1 hp_y46).1
     refine cK (.tuple #[.int .i64 (posK Rn.id ts r.id : Nat), .bool true]) Try.call34 (fun w hw => by have := at_t q29 n cq29 ts r.id w (hO29.atN (A := [_, _, _, _, _, _, _, _, _, _, _]) hw) hO29.len (by omega) hgq hidr; rw [hasK_some hg46] at this; exact this) ?_
     refine cm 5 [] [0, 1, 2] [(6, .int .i64 (posK Rn.id ts r.id : Nat)), (7, .bool true)] ([]) (by kernel_rfl) rfl al0 ?_
     refine calm_nil' ?_
     refine ds_ (sq_ (sq_ (qa0 [] [0, 1, 2, 6] [(25, .bool true)] (ds_ (t_ (sq_ (qa0 [] [] [(4, .int .i64 5)] (ds_ (bk ([]) (.int .i64 5) (qo0 1 [] [4, 7] [(8, .int .i64 5)] (on_ (ds_ (sq_ (qa0 [] [4, 7, 8] [(22, .bool true)] (ds_ (t_ (sq_ (qa0 [(2, .go (owns 1 0 1))] [4] [(5, .int .i64 5)] (ds_ (bk (owns 1 0 1) (.tuple #[.agg #[.slice none 0 0], .int .i64 5]) (qo0 4 [(5, .go (owns 3 0 1))] [6] [(7, .int .i64 5)] (on_ (ds_ (bk (owns 3 0 1) (.tuple #[.agg #[.slice none 0 0], .int .i64 5]) (qo0 4 [(6, .go (owns 7 0 1))] [6] [(7, .int .i64 5)] (on_ (ds_ (rt (owns 7 0 1) (.tuple #[.agg #[.slice none 0 0], .int .i64 5]) ?_))))))))))))))))))))))))))))
     exact fun w' hw => by rw [join_there (by omega) q20 q34 hg46]; exact ⟨none, 0, 0, [], rfl, SlO.nil, hw.below, hw.sub (List.nil_sublist _)⟩
end Go.Proofs.Ytnhkecfapohlgaa

/-! Queues: Run. -/
namespace Go.Proofs.Ytnhkecfapohlgaa
open Go Go.RowKit

set_option maxRecDepth 100000 in
theorem run_t (p : Option Addr) (n cap : Nat) (ts : List Rn) (pi : Option Addr) (m capi : Nat) (il : List Int) (dt : Int) (w : World)
 (hts : Sv w p ts) (hn : n = ts.length) (hb : n ≤ 1000)
 (hU : ∀ r ∈ ts, r.U)
 (hil : Sv w pi il) (hmi : m = il.length) (hbi : m ≤ 1000)
 : Calls Try.prog 16 #[.agg #[.slice p n cap], .slice pi m capi, .int .i64 dt] w fun e w' => ∃ q' n' c' Y, e = .returned (.tuple #[.agg #[.slice q' n' c'], .int .i64 (runV ts il dt).2]) ∧ SlO 35 Y q' n' c' (runV ts il dt).1 ∧ Below w.heap.size w w' ∧ Hs w Y w' := by
 refine enter (Hs.start w) Try.func16 rfl Try.ntmps16 rfl (sq_ (ma0 [] [1] (fun γ1 => [(3, .pointer (some ⟨γ1 0, 0, none⟩)), (5, .pointer (some ⟨γ1 1, 0, none⟩)), (6, .pointer (some ⟨γ1 2, 0, none⟩))]) (fun γ1 L => bx (γ1 2) (#[.slice none 0 0]) 24 :: bx (γ1 1) (#[.int .i64 dt]) 2 :: bx (γ1 0) (#[.slice p n cap]) 24 :: L) (fun γ1 => ds_ (sq_ ?_))))
 by_cases q3 : (dt : Int) ≥ (0 : Int)
 ·
  by_cases q5 : (dt : Int) ≤ (10000000 : Int)
  ·
   refine ao_ (qo 9 [(0, .go (owns 2 0 1)), (1, .go (owns 1 0 1)), (2, .yes), (4, .go (owns 1 0 1)), (5, .yes)] [6] [(8, .agg #[.slice p n cap]), (14, .bool true), (15, .slice pi m capi), (16, .func (.func 45) #[] #[.pointer (some ⟨γ1 1, 0, none⟩)])] ([(dt : Int) ≥ (0 : Int)] ++ ([(dt : Int) ≤ (10000000 : Int)])) (alA (al1 q3) (al1 q5)) (ops_inline (g := 36) (args := #[.agg #[.slice p n cap], .bool true, .slice pi m capi, .func (.func 45) #[] #[.pointer (some ⟨γ1 1, 0, none⟩)]]) (by kernel_rfl) (by kernel_rfl) (by kernel_rfl) (fun args w => Try.call36 args w) Try.func36 rfl Try.ntmps36 rfl (sq_ (ma0 [] [] (fun γ7 => [(4, .pointer (some ⟨γ7 0, 0, none⟩)), (5, .pointer (some ⟨γ7 1, 0, none⟩)), (6, .pointer (some ⟨γ7 2, 0, none⟩)), (7, .pointer (some ⟨γ7 3, 0, none⟩)), (8, .pointer (some ⟨γ7 4, 0, none⟩))]) (fun γ7 L => bx (γ7 4) (#[.slice none 0 0]) 24 :: bx (γ7 3) (#[.func (.func 45) #[] #[.pointer (some ⟨γ1 1, 0, none⟩)]]) 77 :: bx (γ7 2) (#[.slice pi m capi]) 41 :: bx (γ7 1) (#[.bool true]) 4 :: bx (γ7 0) (#[.slice p n cap]) 24 :: L) (fun γ7 => ds_ (sq_ (ao_ (qo0 2 [(0, .go (owns 4 0 1))] [8] [(10, .agg #[.slice p n cap]), (11, .func (.func 68) #[] #[.pointer (some ⟨γ7 1, 0, none⟩), .pointer (some ⟨γ7 2, 0, none⟩), .pointer (some ⟨γ7 3, 0, none⟩)])] (ops_inline (g := 56) (args := #[.agg #[.slice p n cap], .func (.func 68) #[] #[.pointer (some ⟨γ7 1, 0, none⟩), .pointer (some ⟨γ7 2, 0, none⟩), .pointer (some ⟨γ7 3, 0, none⟩)]]) (by kernel_rfl) (by kernel_rfl) (by kernel_rfl) (fun args w => Try.call56 args w) Try.func56 rfl Try.ntmps56 rfl (sq_ (ma0 [] [1] (fun γ9 => [(2, .pointer (some ⟨γ9 0, 0, none⟩)), (4, .pointer (some ⟨γ9 1, 0, none⟩))]) (fun γ9 L => bx (γ9 1) (#[.slice none 0 0]) 24 :: bx (γ9 0) (#[.slice p n cap]) 24 :: L) (fun γ9 => ds_ (sq_ (sq_ (ao_ (qo0 1 [(0, .go (owns 1 0 1))] [1, 2, 4] [(9, .agg #[.slice p n cap])] ?_))))))))))))))))
   rcases q11 : chkQ ts with _ | _
   ·
    refine cD (.int .i64 200) Try.call20 (fun w hw => by have := qcheck_t p n cap ts w (hts.kept hw.below) hn (by omega); rw [q11] at this; exact this) (qo0 1 [] [1, 2, 4] [(6, .int .i64 200)] (on_ (ds_ (sq_ (qa0 [] [1, 2, 4, 6] [(12, .bool true)] (ds_ (t_ (sq_ (qa0 [(2, .go (owns 0 0 1))] [4] [(5, .int .i64 200)] (ds_ (bk (owns 0 0 1) (.tuple #[.agg #[.slice none 0 0], .int .i64 200]) (qo0 4 [(5, .go (owns 2 0 1))] [8] [(9, .int .i64 200)] (on_ (ds_ (bk (owns 2 0 1) (.tuple #[.agg #[.slice none 0 0], .int .i64 200]) (qo0 4 [(12, .go (owns 7 0 1))] [6] [(7, .int .i64 200)] (on_ (ds_ (rt (owns 7 0 1) (.tuple #[.agg #[.slice none 0 0], .int .i64 200]) ?_)))))))))))))))))))
    exact fun w' hw => by rw [show runV ts il dt = alterV (runF dt) ts (runB dt) il from rfl, alter_bad q11]; exact ⟨none, 0, 0, [], rfl, SlO.nil, hw.below, hw.sub (List.nil_sublist _)⟩
   ·
    refine cD (.int .i64 0) Try.call20 (fun w hw => by have := qcheck_t p n cap ts w (hts.kept hw.below) hn (by omega); rw [q11] at this; exact this) (qo0 1 [] [1, 2, 4] [(6, .int .i64 0)] (on_ (ds_ (sq_ (qa0 [] [1, 2, 4, 6] [(12, .bool false)] (ds_ (f_ (at_skip (ds_ (sq_ ?_))))))))))
    have hgq := chk_iff.1 q11
    have hlq := hgq.len
    refine ao_ (qo0 2 [(1, .go (owns 1 0 1))] [1, 4] [(16, .slice p n cap)] (cP (fun v L' => ∃ q_ c_ Y_, v = .slice q_ n c_ ∧ L' = List.take 10 ([bx (γ9 1) (#[.slice none 0 0]) 24, bx (γ9 0) (#[.slice p n cap]) 24, bx (γ7 4) (#[.slice none 0 0]) 24, bx (γ7 3) (#[.func (.func 45) #[] #[.pointer (some ⟨γ1 1, 0, none⟩)]]) 77, bx (γ7 2) (#[.slice pi m capi]) 41, bx (γ7 1) (#[.bool true]) 4, bx (γ7 0) (#[.slice p n cap]) 24, bx (γ1 2) (#[.slice none 0 0]) 24, bx (γ1 1) (#[.int .i64 dt]) 2, bx (γ1 0) (#[.slice p n cap]) 24]) ++ (Y_ ++ List.drop 10 ([bx (γ9 1) (#[.slice none 0 0]) 24, bx (γ9 0) (#[.slice p n cap]) 24, bx (γ7 4) (#[.slice none 0 0]) 24, bx (γ7 3) (#[.func (.func 45) #[] #[.pointer (some ⟨γ1 1, 0, none⟩)]]) 77, bx (γ7 2) (#[.slice pi m capi]) 41, bx (γ7 1) (#[.bool true]) 4, bx (γ7 0) (#[.slice p n cap]) 24, bx (γ1 2) (#[.slice none 0 0]) 24, bx (γ1 1) (#[.int .i64 dt]) 2, bx (γ1 0) (#[.slice p n cap]) 24])) ∧ SlO 35 Y_ q_ n c_ ts) Try.call78 (fun w hw => (qclone_t p n cap ts w (hts.kept hw.below) hn (by omega)).mono fun e w' ⟨q_, c_, Y_, he, hO, hb, hY⟩ => ⟨_, _, he, ⟨q_, c_, Y_, rfl, rfl, hO⟩, hw.join hb hY 10⟩) ?_))
    rintro v20 L20 ⟨q20, cq20, Y20, rfl, rfl, hO20⟩
    refine mo0 3 [(5, .go (owns 0 0 1))] [1, 4] (fun γ21 => [(7, .pointer (some ⟨γ21 0, 0, none⟩))]) (fun γ21 L => bx (γ21 0) (#[.slice q20 n cq20]) 24 :: L) (fun γ21 => on_ (ds_ (sq_ (sq_ (ao_ (qo0 1 [] [4, 7] [(19, .func (.func 68) #[] #[.pointer (some ⟨γ7 1, 0, none⟩), .pointer (some ⟨γ7 2, 0, none⟩), .pointer (some ⟨γ7 3, 0, none⟩)])] (ops_inline (g := 68) (args := #[.pointer (some ⟨γ21 0, 0, none⟩), .pointer (some ⟨γ7 1, 0, none⟩), .pointer (some ⟨γ7 2, 0, none⟩), .pointer (some ⟨γ7 3, 0, none⟩)]) (by kernel_rfl) (by kernel_rfl) (by kernel_rfl) (fun args w => Try.call68 args w) Try.func68 rfl Try.ntmps68 rfl (sq_ (qa0 [] [0, 1, 2, 3] [] (ds_ (sq_ (sq_ (qa0 [(0, .go (owns 6 0 1))] [0, 2, 3] [(11, .bool false)] (ds_ (f_ (at_skip (ds_ (sq_ (ao_ (qo0 2 [(1, .go (owns 5 0 1))] [0, 3] [(13, .pointer (some ⟨γ21 0, 0, none⟩)), (14, .slice pi m capi)] (ops_inline (g := 69) (args := #[.pointer (some ⟨γ21 0, 0, none⟩), .slice pi m capi]) (by kernel_rfl) (by kernel_rfl) (by kernel_rfl) (fun args w => Try.call69 args w) Try.func69 rfl Try.ntmps69 rfl (sq_ (qa0 [] [0, 1] [] (ds_ (sq_ (qa0 [] [0, 1] [(6, .slice none 0 0)] (ds_ (sq_ (qa0 [] [0, 1, 6] [(7, .int .i64 0), (8, .int .i64 0)] (ds_ (sq_ (sq_ (qa0 [] [0, 6, 7, 8] [(13, .slice pi m capi), (14, .int .i64 (m : Nat)), (15, .int .i64 0)] (ds_ (at_block (at_loop (α := Nat × Int × Int × List Ob × Option Addr × Nat × Nat) [0, 6, 7, 8, 13, 14, 15] (fun ⟨j, la, er, Yo, po, nu, co⟩ => [(0, .pointer (some ⟨γ21 0, 0, none⟩)), (6, .slice po nu co), (7, .int .i64 la), (8, .int .i64 er), (13, .slice pi m capi), (14, .int .i64 (m : Nat)), (15, .int .i64 (j : Nat))]) (fun ⟨j, la, er, Yo, po, nu, co⟩ => bx (γ21 0) (#[.slice q20 n cq20]) 24 :: bx (γ9 1) (#[.slice none 0 0]) 24 :: bx (γ9 0) (#[.slice p n cap]) 24 :: bx (γ7 4) (#[.slice none 0 0]) 24 :: bx (γ7 3) (#[.func (.func 45) #[] #[.pointer (some ⟨γ1 1, 0, none⟩)]]) 77 :: bx (γ7 2) (#[.slice pi m capi]) 41 :: bx (γ7 1) (#[.bool true]) 4 :: bx (γ7 0) (#[.slice p n cap]) 24 :: bx (γ1 2) (#[.slice none 0 0]) 24 :: bx (γ1 1) (#[.int .i64 dt]) 2 :: bx (γ1 0) (#[.slice p n cap]) 24 :: (Yo ++ (Y20 ++ []))) (fun ⟨j, la, er, Yo, po, nu, co⟩ => j ≤ m ∧ lastN il j = la ∧ Ris (fun x : Int => x) (il.take j) ∧ (∀ y ∈ il.take j, idV y = true) ∧ foundE ts (il.take j) = er ∧ nu ≤ j ∧ SlO 3 Yo po nu co ((il.take j).map (posI ts))) (fun ⟨j, la, er, Yo, po, nu, co⟩ => m - j) (0, 0, 0, [], none, 0, 0) (by kernel_rfl) rfl ⟨Nat.zero_le _, rfl, ris_take0T, all_take0T, found_zero, Nat.le_refl _, SlO.nil⟩ ?_))))))))))))))))))))))))))))))))))))
    rintro ⟨j, la, er, Yo, po, nu, co⟩
    rintro ⟨hj, hla, hR, hA, her, hnu, hOo⟩
    refine sq_ ?_
    by_cases q31 : ((j : Nat) : Int) < ((m : Nat) : Int)
    ·
     refine qa [(0, .yes)] [0, 6, 7, 8, 13, 14, 15] [(16, .bool true)] ([((j : Nat) : Int) < ((m : Nat) : Int)]) (al1 q31) (ds_ (sq_ (t_ (at_skip (ds_ (sq_ (at_block (sq_ ?_))))))))
     obtain ⟨b34, o34, rfl⟩ := hil.pos (i := j) (by omega)
     obtain ⟨x36, hx36⟩ := get_some (l := il) (m := j) (by omega)
     refine qa [(0, .at b34 o34 j), (1, .go (outs b34 (o34 + j * 1) [.int .i64 x36]))] [0, 6, 7, 8, 13, 14, 15] [(10, .int .i64 x36)] ([(some ⟨b34, o34, none⟩ : Option Addr) = some ⟨b34, o34, none⟩, (j : Nat) = ((j : Nat) : Int), j < m] ++ (cellsP w b34 (o34 + j * 1) [.int .i64 x36])) (alA (al2 rfl (al2 rfl (al1 (by omega)))) (rd_pre (hil.get hx36) _ rfl)) (ds_ (sq_ (sq_ (ao_ (qo0 1 [] [0, 6, 7, 8, 10, 13, 14, 15] [(19, .int .i64 x36)] ?_)))))
     rcases q39 : idV x36 with _ | _
     ·
      refine cD (.bool false) Try.call52 (fun w hw => by have := id_t x36 w; rw [q39] at this; exact this) (qo0 6 [] [0, 6, 8, 10, 13, 14, 15] [(26, .bool true)] (on_ (ds_ (t_ (sq_ (qa0 [] [] [(4, .slice none 0 0), (5, .int .i64 2)] (ds_ (bk ([]) (.tuple #[.slice none 0 0, .int .i64 2]) ?_))))))))
      have hpe : placesE ts il = 2 := places_bad (risI_badI hx36 q39)
      refine qo0 5 [] [0, 3] [(6, .slice none 0 0), (7, .int .i64 2)] (on_ (ds_ (sq_ (sq_ (qa0 [] [0, 3, 7] [(18, .slice none 0 0), (19, .int .i64 0), (20, .int .i64 0)] (ds_ (at_block (at_loop (α := Nat × Int × List Ob × List Rn) [0, 3, 7, 18, 19, 20] (fun ⟨i, ez, Yq, L⟩ => [(0, .pointer (some ⟨γ21 0, 0, none⟩)), (3, .pointer (some ⟨γ7 3, 0, none⟩)), (7, .int .i64 ez), (18, .slice none 0 0), (19, .int .i64 0), (20, .int .i64 (i : Nat))]) (fun ⟨i, ez, Yq, L⟩ => bx (γ21 0) (#[.slice q20 n cq20]) 24 :: bx (γ9 1) (#[.slice none 0 0]) 24 :: bx (γ9 0) (#[.slice p n cap]) 24 :: bx (γ7 4) (#[.slice none 0 0]) 24 :: bx (γ7 3) (#[.func (.func 45) #[] #[.pointer (some ⟨γ1 1, 0, none⟩)]]) 77 :: bx (γ7 2) (#[.slice (some ⟨b34, o34, none⟩) m capi]) 41 :: bx (γ7 1) (#[.bool true]) 4 :: bx (γ7 0) (#[.slice p n cap]) 24 :: bx (γ1 2) (#[.slice none 0 0]) 24 :: bx (γ1 1) (#[.int .i64 dt]) 2 :: bx (γ1 0) (#[.slice p n cap]) 24 :: (Yo ++ (Yq ++ []))) (fun ⟨i, ez, Yq, L⟩ => i ≤ 0 ∧ altX (runF dt) ts (placesE ts il) (il.take i) = ez ∧ (ez = 0 → L = (altL (runF dt) ts (il.take i))) ∧ SlO 35 Yq q20 n cq20 L) (fun ⟨i, ez, Yq, L⟩ => 0 - i) (0, 2, Y20, ts) (by kernel_rfl) rfl ⟨Nat.zero_le _, by rw [altX_start]; exact hpe, fun _ => altL_nil.symm, hO20⟩ ?_))))))))
      rintro ⟨i, ez, Yq, L⟩
      rintro ⟨hi, hX, hL, hOq⟩
      refine sq_ (qa [(0, .no)] [0, 3, 7, 18, 19, 20] [(21, .bool false)] ([¬ (((i : Nat) : Int) < (0 : Int))]) (al1 (by omega)) (ds_ (sq_ (f_ (at_leave _ rfl (ds_ (sq_ ?_)))))))
      have hez : ez = 2 := by rw [← hX]; exact altX_ne (a := il.take 0) (by omega) (by rw [altX_start]; exact hpe)
      have hXf : altX (runF dt) ts (placesE ts il) il = ez := altX_ne (by omega) hX
      refine qa0 [] [] [(5, .int .i64 ez)] (ds_ (bk ([]) (.int .i64 ez) (qo0 1 [] [4, 7] [(8, .int .i64 ez)] (on_ (ds_ (sq_ (qa [(1, .yes)] [4, 7, 8] [(22, .bool true)] ([(ez : Int) ≠ (0 : Int)]) (al1 (by omega)) (ds_ (t_ (sq_ (qa0 [(2, .go (owns 1 0 1))] [4] [(5, .int .i64 ez)] (ds_ (bk (owns 1 0 1) (.tuple #[.agg #[.slice none 0 0], .int .i64 ez]) (qo0 4 [(5, .go (owns 3 0 1))] [8] [(9, .int .i64 ez)] (on_ (ds_ (bk (owns 3 0 1) (.tuple #[.agg #[.slice none 0 0], .int .i64 ez]) (qo0 4 [(12, .go (owns 8 0 1))] [6] [(7, .int .i64 ez)] (on_ (ds_ (rt (owns 8 0 1) (.tuple #[.agg #[.slice none 0 0], .int .i64 ez]) ?_)))))))))))))))))))))
      exact fun w' hw => by rw [show runV ts il dt = alterV (runF dt) ts (runB dt) il from rfl, alter_err q11 (show runB dt = true from decide_eq_true (by omega)) (by rw [hXf]; omega), hXf]; exact ⟨none, 0, 0, [], rfl, SlO.nil, hw.below, hw.sub (List.nil_sublist _)⟩
     ·
      refine cD (.bool true) Try.call52 (fun w hw => by have := id_t x36 w; rw [q39] at this; exact this) ?_
      by_cases q52 : (x36 : Int) ≤ (la : Int)
      ·
       refine qo 6 [(6, .yes)] [0, 6, 8, 10, 13, 14, 15] [(26, .bool true)] ([(x36 : Int) ≤ (la : Int)]) (al1 q52) (on_ (ds_ (t_ (sq_ (qa0 [] [] [(4, .slice none 0 0), (5, .int .i64 2)] (ds_ (bk ([]) (.tuple #[.slice none 0 0, .int .i64 2]) ?_)))))))
       have hpe : placesE ts il = 2 := places_bad (risI_badL hx36 hla q39 (by omega))
       refine qo0 5 [] [0, 3] [(6, .slice none 0 0), (7, .int .i64 2)] (on_ (ds_ (sq_ (sq_ (qa0 [] [0, 3, 7] [(18, .slice none 0 0), (19, .int .i64 0), (20, .int .i64 0)] (ds_ (at_block (at_loop (α := Nat × Int × List Ob × List Rn) [0, 3, 7, 18, 19, 20] (fun ⟨i, ez, Yq, L⟩ => [(0, .pointer (some ⟨γ21 0, 0, none⟩)), (3, .pointer (some ⟨γ7 3, 0, none⟩)), (7, .int .i64 ez), (18, .slice none 0 0), (19, .int .i64 0), (20, .int .i64 (i : Nat))]) (fun ⟨i, ez, Yq, L⟩ => bx (γ21 0) (#[.slice q20 n cq20]) 24 :: bx (γ9 1) (#[.slice none 0 0]) 24 :: bx (γ9 0) (#[.slice p n cap]) 24 :: bx (γ7 4) (#[.slice none 0 0]) 24 :: bx (γ7 3) (#[.func (.func 45) #[] #[.pointer (some ⟨γ1 1, 0, none⟩)]]) 77 :: bx (γ7 2) (#[.slice (some ⟨b34, o34, none⟩) m capi]) 41 :: bx (γ7 1) (#[.bool true]) 4 :: bx (γ7 0) (#[.slice p n cap]) 24 :: bx (γ1 2) (#[.slice none 0 0]) 24 :: bx (γ1 1) (#[.int .i64 dt]) 2 :: bx (γ1 0) (#[.slice p n cap]) 24 :: (Yo ++ (Yq ++ []))) (fun ⟨i, ez, Yq, L⟩ => i ≤ 0 ∧ altX (runF dt) ts (placesE ts il) (il.take i) = ez ∧ (ez = 0 → L = (altL (runF dt) ts (il.take i))) ∧ SlO 35 Yq q20 n cq20 L) (fun ⟨i, ez, Yq, L⟩ => 0 - i) (0, 2, Y20, ts) (by kernel_rfl) rfl ⟨Nat.zero_le _, by rw [altX_start]; exact hpe, fun _ => altL_nil.symm, hO20⟩ ?_))))))))
       rintro ⟨i, ez, Yq, L⟩
       rintro ⟨hi, hX, hL, hOq⟩
       refine sq_ (qa [(0, .no)] [0, 3, 7, 18, 19, 20] [(21, .bool false)] ([¬ (((i : Nat) : Int) < (0 : Int))]) (al1 (by omega)) (ds_ (sq_ (f_ (at_leave _ rfl (ds_ (sq_ ?_)))))))
       have hez : ez = 2 := by rw [← hX]; exact altX_ne (a := il.take 0) (by omega) (by rw [altX_start]; exact hpe)
       have hXf : altX (runF dt) ts (placesE ts il) il = ez := altX_ne (by omega) hX
       refine qa0 [] [] [(5, .int .i64 ez)] (ds_ (bk ([]) (.int .i64 ez) (qo0 1 [] [4, 7] [(8, .int .i64 ez)] (on_ (ds_ (sq_ (qa [(1, .yes)] [4, 7, 8] [(22, .bool true)] ([(ez : Int) ≠ (0 : Int)]) (al1 (by omega)) (ds_ (t_ (sq_ (qa0 [(2, .go (owns 1 0 1))] [4] [(5, .int .i64 ez)] (ds_ (bk (owns 1 0 1) (.tuple #[.agg #[.slice none 0 0], .int .i64 ez]) (qo0 4 [(5, .go (owns 3 0 1))] [8] [(9, .int .i64 ez)] (on_ (ds_ (bk (owns 3 0 1) (.tuple #[.agg #[.slice none 0 0], .int .i64 ez]) (qo0 4 [(12, .go (owns 8 0 1))] [6] [(7, .int .i64 ez)] (on_ (ds_ (rt (owns 8 0 1) (.tuple #[.agg #[.slice none 0 0], .int .i64 ez]) ?_)))))))))))))))))))))
       exact fun w' hw => by rw [show runV ts il dt = alterV (runF dt) ts (runB dt) il from rfl, alter_err q11 (show runB dt = true from decide_eq_true (by omega)) (by rw [hXf]; omega), hXf]; exact ⟨none, 0, 0, [], rfl, SlO.nil, hw.below, hw.sub (List.nil_sublist _)⟩
      ·
       refine qo 6 [(6, .no)] [0, 6, 8, 10, 13, 14, 15] [(26, .bool false)] ([¬ ((x36 : Int) ≤ (la : Int))]) (al1 q52) (on_ (ds_ (f_ (at_skip (ds_ (sq_ (qa0 [] [0, 6, 8, 10, 13, 14, 15] [(7, .int .i64 x36)] (ds_ (sq_ (ao_ (qo0 5 [(3, .go (owns 0 0 1))] [0, 6, 7, 8, 13, 14, 15] [(32, .slice q20 n cq20), (33, .int .i64 x36)] ?_)))))))))))
       rcases hg67 : getK Rn.id ts x36 with _ | y67
       ·
        have hpl67 := (pos_cut (k := x36) hgq.rs).2.2
        refine cD (.tuple #[.int .i64 (posK Rn.id ts x36 : Nat), .bool false]) Try.call34 (fun w hw => by have := at_t q20 n cq20 ts x36 w (hO20.atN (A := (_ :: _ :: _ :: _ :: _ :: _ :: _ :: _ :: _ :: _ :: _ :: Yo)) hw) hO20.len (by omega) hgq q39; rw [hasK_none hg67] at this; exact this) (qo0 5 [] [0, 6, 7, 8, 13, 14, 15] [(11, .int .i64 (posK Rn.id ts x36 : Nat)), (12, .bool false)] (on_ (ds_ (sq_ (sq_ (qa0 [] [0, 6, 7, 8, 11, 13, 14, 15] [(38, .bool true)] (ds_ (t_ (qa0 [] [0, 6, 7, 11, 13, 14, 15] [(8, .int .i64 4)] (ds_ (ao_ (mo0 3 [] [0, 7, 8, 13, 14, 15] (fun γ71 => [(39, .slice po nu co), (41, .slice (some ⟨γ71 0, 0, none⟩) 1 1)]) (fun γ71 L => bx (γ71 0) (#[.int .i64 (posK Rn.id ts x36 : Nat)]) 3 :: L) (fun γ71 => ops_append (α := Int) [bx (γ71 0) (#[.int .i64 (posK Rn.id ts x36 : Nat)]) 3, bx (γ21 0) (#[.slice q20 n cq20]) 24, bx (γ9 1) (#[.slice none 0 0]) 24, bx (γ9 0) (#[.slice p n cap]) 24, bx (γ7 4) (#[.slice none 0 0]) 24, bx (γ7 3) (#[.func (.func 45) #[] #[.pointer (some ⟨γ1 1, 0, none⟩)]]) 77, bx (γ7 2) (#[.slice (some ⟨b34, o34, none⟩) m capi]) 41, bx (γ7 1) (#[.bool true]) 4, bx (γ7 0) (#[.slice p n cap]) 24, bx (γ1 2) (#[.slice none 0 0]) 24, bx (γ1 1) (#[.int .i64 dt]) 2, bx (γ1 0) (#[.slice p n cap]) 24] Yo (Y20 ++ []) (.refl _) rfl (by kernel_rfl) (by kernel_rfl) (p := po) (n := nu) (cap := co) (m := 1) (yv := .slice (some ⟨γ71 0, 0, none⟩) 1 1) (by kernel_rfl) (by kernel_rfl) (T := 3) (by_ := 8) (by kernel_rfl) ((il.take j).map (posI ts)) ([(posK Rn.id ts x36 : Nat)]) hOo (fun w hw => src_svn Try.underlying41 (sv_row (hw.row 0 rfl) (by rfl)) (by rfl)) (by rfl) (by have hmx : maxLen = 9223372036854775807 := rfl; omega) (by have hmx : maxLen = 9223372036854775807 := rfl; omega) (fun Y72 p72 cap72 hO72 => qo0 1 [] [0, 7, 8, 13, 14, 15] [(6, .slice p72 (nu + 1) cap72)] (on_ (done_block (ds_ (qa [(0, .fit)] [0, 6, 7, 8, 13, 14] [(15, .int .i64 (j + 1 : Nat))] ([Fit .i64 ((j + 1 : Nat))]) (al1 (fit64 (by omega) (by omega))) (Done.pick [[bx (γ71 0) (#[.int .i64 (posK Rn.id ts x36 : Nat)]) 3], [bx (γ21 0) (#[.slice q20 n cq20]) 24], [bx (γ9 1) (#[.slice none 0 0]) 24], [bx (γ9 0) (#[.slice p n cap]) 24], [bx (γ7 4) (#[.slice none 0 0]) 24], [bx (γ7 3) (#[.func (.func 45) #[] #[.pointer (some ⟨γ1 1, 0, none⟩)]]) 77], [bx (γ7 2) (#[.slice (some ⟨b34, o34, none⟩) m capi]) 41], [bx (γ7 1) (#[.bool true]) 4], [bx (γ7 0) (#[.slice p n cap]) 24], [bx (γ1 2) (#[.slice none 0 0]) 24], [bx (γ1 1) (#[.int .i64 dt]) 2], [bx (γ1 0) (#[.slice p n cap]) 24], Y72, Y20] [1, 2, 3, 4, 5, 6, 7, 8, 9, 10, 11, 12, 13] [0] (bx (γ21 0) (#[.slice q20 n cq20]) 24 :: bx (γ9 1) (#[.slice none 0 0]) 24 :: bx (γ9 0) (#[.slice p n cap]) 24 :: bx (γ7 4) (#[.slice none 0 0]) 24 :: bx (γ7 3) (#[.func (.func 45) #[] #[.pointer (some ⟨γ1 1, 0, none⟩)]]) 77 :: bx (γ7 2) (#[.slice (some ⟨b34, o34, none⟩) m capi]) 41 :: bx (γ7 1) (#[.bool true]) 4 :: bx (γ7 0) (#[.slice p n cap]) 24 :: bx (γ1 2) (#[.slice none 0 0]) 24 :: bx (γ1 1) (#[.int .i64 dt]) 2 :: bx (γ1 0) (#[.slice p n cap]) 24 :: (Y72 ++ (Y20 ++ []))) (by kernel_rfl) rfl rfl ?_)))))))))))))))))))
        exact dr [0, 6, 7, 8, 13, 14, 15] (j + 1, x36, 4, Y72, p72, (nu + 1), cap72) ⟨by omega, lastN_on hx36, risN_on hR hx36 hla (by omega), all_onT hA hx36 q39, by rw [found_no hx36 hg67], by omega, by rw [map_on hx36]; exact hO72⟩
       ·
        have hp_y67 := pos_getK hgq.rs hg67
        have hl_y67 := (List.getElem?_eq_some_iff.1 hp_y67).1
        refine cD (.tuple #[.int .i64 (posK Rn.id ts x36 : Nat), .bool true]) Try.call34 (fun w hw => by have := at_t q20 n cq20 ts x36 w (hO20.atN (A := (_ :: _ :: _ :: _ :: _ :: _ :: _ :: _ :: _ :: _ :: _ :: Yo)) hw) hO20.len (by omega) hgq q39; rw [hasK_some hg67] at this; exact this) (qo0 5 [] [0, 6, 7, 8, 13, 14, 15] [(11, .int .i64 (posK Rn.id ts x36 : Nat)), (12, .bool true)] (on_ (ds_ (sq_ (sq_ (qa0 [] [0, 6, 7, 8, 11, 13, 14, 15] [(38, .bool false)] (ds_ (f_ (at_skip (ds_ (ao_ (mo0 3 [] [0, 7, 8, 13, 14, 15] (fun γ77 => [(39, .slice po nu co), (41, .slice (some ⟨γ77 0, 0, none⟩) 1 1)]) (fun γ77 L => bx (γ77 0) (#[.int .i64 (posK Rn.id ts x36 : Nat)]) 3 :: L) (fun γ77 => ops_append (α := Int) [bx (γ77 0) (#[.int .i64 (posK Rn.id ts x36 : Nat)]) 3, bx (γ21 0) (#[.slice q20 n cq20]) 24, bx (γ9 1) (#[.slice none 0 0]) 24, bx (γ9 0) (#[.slice p n cap]) 24, bx (γ7 4) (#[.slice none 0 0]) 24, bx (γ7 3) (#[.func (.func 45) #[] #[.pointer (some ⟨γ1 1, 0, none⟩)]]) 77, bx (γ7 2) (#[.slice (some ⟨b34, o34, none⟩) m capi]) 41, bx (γ7 1) (#[.bool true]) 4, bx (γ7 0) (#[.slice p n cap]) 24, bx (γ1 2) (#[.slice none 0 0]) 24, bx (γ1 1) (#[.int .i64 dt]) 2, bx (γ1 0) (#[.slice p n cap]) 24] Yo (Y20 ++ []) (.refl _) rfl (by kernel_rfl) (by kernel_rfl) (p := po) (n := nu) (cap := co) (m := 1) (yv := .slice (some ⟨γ77 0, 0, none⟩) 1 1) (by kernel_rfl) (by kernel_rfl) (T := 3) (by_ := 8) (by kernel_rfl) ((il.take j).map (posI ts)) ([(posK Rn.id ts x36 : Nat)]) hOo (fun w hw => src_svn Try.underlying41 (sv_row (hw.row 0 rfl) (by rfl)) (by rfl)) (by rfl) (by have hmx : maxLen = 9223372036854775807 := rfl; omega) (by have hmx : maxLen = 9223372036854775807 := rfl; omega) (fun Y78 p78 cap78 hO78 => qo0 1 [] [0, 7, 8, 13, 14, 15] [(6, .slice p78 (nu + 1) cap78)] (on_ (done_block (ds_ (qa [(0, .fit)] [0, 6, 7, 8, 13, 14] [(15, .int .i64 (j + 1 : Nat))] ([Fit .i64 ((j + 1 : Nat))]) (al1 (fit64 (by omega) (by omega))) (Done.pick [[bx (γ77 0) (#[.int .i64 (posK Rn.id ts x36 : Nat)]) 3], [bx (γ21 0) (#[.slice q20 n cq20]) 24], [bx (γ9 1) (#[.slice none 0 0]) 24], [bx (γ9 0) (#[.slice p n cap]) 24], [bx (γ7 4) (#[.slice none 0 0]) 24], [bx (γ7 3) (#[.func (.func 45) #[] #[.pointer (some ⟨γ1 1, 0, none⟩)]]) 77], [bx (γ7 2) (#[.slice (some ⟨b34, o34, none⟩) m capi]) 41], [bx (γ7 1) (#[.bool true]) 4], [bx (γ7 0) (#[.slice p n cap]) 24], [bx (γ1 2) (#[.slice none 0 0]) 24], [bx (γ1 1) (#[.int .i64 dt]) 2], [bx (γ1 0) (#[.slice p n cap]) 24], Y78, Y20] [1, 2, 3, 4, 5, 6, 7, 8, 9, 10, 11, 12, 13] [0] (bx (γ21 0) (#[.slice q20 n cq20]) 24 :: bx (γ9 1) (#[.slice none 0 0]) 24 :: bx (γ9 0) (#[.slice p n cap]) 24 :: bx (γ7 4) (#[.slice none 0 0]) 24 :: bx (γ7 3) (#[.func (.func 45) #[] #[.pointer (some ⟨γ1 1, 0, none⟩)]]) 77 :: bx (γ7 2) (#[.slice (some ⟨b34, o34, none⟩) m capi]) 41 :: bx (γ7 1) (#[.bool true]) 4 :: bx (γ7 0) (#[.slice p n cap]) 24 :: bx (γ1 2) (#[.slice none 0 0]) 24 :: bx (γ1 1) (#[.int .i64 dt]) 2 :: bx (γ1 0) (#[.slice p n cap]) 24 :: (Y78 ++ (Y20 ++ []))) (by kernel_rfl) rfl rfl ?_)))))))))))))))))))
        exact dr [0, 6, 7, 8, 13, 14, 15] (j + 1, x36, er, Y78, p78, (nu + 1), cap78) ⟨by omega, lastN_on hx36, risN_on hR hx36 hla (by omega), all_onT hA hx36 q39, by rw [found_yes hx36 hg67, her], by omega, by rw [map_on hx36]; exact hO78⟩
    ·
     refine qa [(0, .no)] [0, 6, 7, 8, 13, 14, 15] [(16, .bool false)] ([¬ (((j : Nat) : Int) < ((m : Nat) : Int))]) (al1 q31) (ds_ (sq_ (f_ (at_leave _ rfl (ds_ (sq_ (qa0 [] [] [(4, .slice po nu co), (5, .int .i64 er)] (ds_ (bk ([]) (.tuple #[.slice po nu co, .int .i64 er]) ?_)))))))))
     rw [List.take_of_length_le (by omega)] at her hOo
     have hpe : placesE ts il = er := by rw [places_ok (risI_good hR hA (by omega)), her]
     have hnl := hOo.len
     rw [List.length_map] at hnl
     refine qo0 5 [] [0, 3] [(6, .slice po nu co), (7, .int .i64 er)] (on_ (ds_ (sq_ (sq_ (qa0 [] [0, 3, 7] [(18, .slice po nu co), (19, .int .i64 (nu : Nat)), (20, .int .i64 0)] (ds_ (at_block (at_loop (α := Nat × Int × List Ob × List Rn) [0, 3, 7, 18, 19, 20] (fun ⟨i, ez, Yq, L⟩ => [(0, .pointer (some ⟨γ21 0, 0, none⟩)), (3, .pointer (some ⟨γ7 3, 0, none⟩)), (7, .int .i64 ez), (18, .slice po nu co), (19, .int .i64 (nu : Nat)), (20, .int .i64 (i : Nat))]) (fun ⟨i, ez, Yq, L⟩ => bx (γ21 0) (#[.slice q20 n cq20]) 24 :: bx (γ9 1) (#[.slice none 0 0]) 24 :: bx (γ9 0) (#[.slice p n cap]) 24 :: bx (γ7 4) (#[.slice none 0 0]) 24 :: bx (γ7 3) (#[.func (.func 45) #[] #[.pointer (some ⟨γ1 1, 0, none⟩)]]) 77 :: bx (γ7 2) (#[.slice pi m capi]) 41 :: bx (γ7 1) (#[.bool true]) 4 :: bx (γ7 0) (#[.slice p n cap]) 24 :: bx (γ1 2) (#[.slice none 0 0]) 24 :: bx (γ1 1) (#[.int .i64 dt]) 2 :: bx (γ1 0) (#[.slice p n cap]) 24 :: (Yo ++ (Yq ++ []))) (fun ⟨i, ez, Yq, L⟩ => i ≤ nu ∧ altX (runF dt) ts (placesE ts il) (il.take i) = ez ∧ (ez = 0 → L = (altL (runF dt) ts (il.take i))) ∧ SlO 35 Yq q20 n cq20 L) (fun ⟨i, ez, Yq, L⟩ => nu - i) (0, er, Y20, ts) (by kernel_rfl) rfl ⟨Nat.zero_le _, by rw [altX_start]; exact hpe, fun _ => altL_nil.symm, hO20⟩ ?_))))))))
     rintro ⟨i, ez, Yq, L⟩
     rintro ⟨hi, hX, hL, hOq⟩
     refine sq_ ?_
     by_cases q86 : ((i : Nat) : Int) < ((nu : Nat) : Int)
     ·
      refine qa [(0, .yes)] [0, 3, 7, 18, 19, 20] [(21, .bool true)] ([((i : Nat) : Int) < ((nu : Nat) : Int)]) (al1 q86) (ds_ (sq_ (t_ (at_skip (ds_ (sq_ (at_block (sq_ ?_))))))))
      have hln89 := hOo.len
      obtain ⟨g89, cs89, rfl, rfl, hOw89⟩ := hOo.rowOf (i := i) (by omega)
      obtain ⟨x91, hx91⟩ := get_some (l := (il.map (posI ts))) (m := i) (by omega)
      refine qa [(0, .at g89 0 i), (1, .go (ownps 11 (0 + i * 1) [.int .i64 x91]))] [0, 3, 7, 18, 19, 20] [(9, .int .i64 x91)] ([(some ⟨g89, 0, none⟩ : Option Addr) = some ⟨g89, 0, none⟩, (i : Nat) = ((i : Nat) : Int), i < nu] ++ (acellsP cs89 (0 + i * 1) [.int .i64 x91])) (alA (al2 rfl (al2 rfl (al1 (by omega)))) (rda_pre (hOw89.rdx hOo.len hx91) _ rfl)) (ds_ (sq_ (sq_ ?_)))
      by_cases q94 : (ez : Int) ≠ (0 : Int)
      ·
       refine qa [(1, .yes)] [0, 3, 7, 9, 18, 19, 20] [(25, .bool true)] ([(ez : Int) ≠ (0 : Int)]) (al1 q94) (ds_ (t_ (at_leave _ rfl (ds_ (sq_ ?_)))))
       have hXf : altX (runF dt) ts (placesE ts il) il = ez := (altX_stop (by rw [hX]; exact q94)).trans hX
       refine qa0 [] [] [(5, .int .i64 ez)] (ds_ (bk ([]) (.int .i64 ez) (qo0 1 [] [4, 7] [(8, .int .i64 ez)] (on_ (ds_ (sq_ (qa [(1, .yes)] [4, 7, 8] [(22, .bool true)] ([(ez : Int) ≠ (0 : Int)]) (al1 q94) (ds_ (t_ (sq_ (qa0 [(2, .go (owns 1 0 1))] [4] [(5, .int .i64 ez)] (ds_ (bk (owns 1 0 1) (.tuple #[.agg #[.slice none 0 0], .int .i64 ez]) (qo0 4 [(5, .go (owns 3 0 1))] [8] [(9, .int .i64 ez)] (on_ (ds_ (bk (owns 3 0 1) (.tuple #[.agg #[.slice none 0 0], .int .i64 ez]) (qo0 4 [(12, .go (owns 8 0 1))] [6] [(7, .int .i64 ez)] (on_ (ds_ (rt (owns 8 0 1) (.tuple #[.agg #[.slice none 0 0], .int .i64 ez]) ?_)))))))))))))))))))))
       exact fun w' hw => by rw [show runV ts il dt = alterV (runF dt) ts (runB dt) il from rfl, alter_err q11 (show runB dt = true from decide_eq_true (by omega)) (by rw [hXf]; omega), hXf]; exact ⟨none, 0, 0, [], rfl, SlO.nil, hw.below, hw.sub (List.nil_sublist _)⟩
      ·
       refine qa [(1, .no)] [0, 3, 7, 9, 18, 19, 20] [(25, .bool false)] ([¬ ((ez : Int) ≠ (0 : Int))]) (al1 q94) (ds_ (f_ (at_skip (ds_ ?_))))
       have her0 : ez = 0 := by omega
       obtain ⟨r103, hidr103, hgkr103, hp0r103, hp1r103, htsr103, hLrr103⟩ := round_at hgq (hX.trans her0) hx91
       have hLn := hOq.len
       have hLl : L.length = ts.length := by rw [hL her0, altL_len]
       rw [← hL her0] at hLrr103
       have hUr103 := hU r103 (List.mem_of_getElem? htsr103)
       have hbr103 := hgq.bnd (List.mem_of_getElem? htsr103)
       have hln105 := hOq.len
       obtain ⟨g105, cs105, rfl, rfl, hOw105⟩ := hOq.rowOf (i := (x91).toNat) (by omega)
       refine at_calmTo (f := 2) 7 rfl (by kernel_rfl) (by kernel_rfl) (by kernel_rfl) (by kernel_rfl) (by kernel_rfl) (by kernel_rfl) ?_
       refine cm 7 [(0, .go (owns 4 0 1)), (4, .go (owns 0 0 1)), (6, .at g105 0 ((x91).toNat))] [0, 3, 18, 19, 20] [(26, .func (.func 45) #[] #[.pointer (some ⟨γ1 1, 0, none⟩)]), (32, .pointer (some ⟨g105, 0 + ((x91).toNat) * 5, none⟩))] ([(some ⟨g105, 0, none⟩ : Option Addr) = some ⟨g105, 0, none⟩, x91 = (((x91).toNat : Nat) : Int), (x91).toNat < n]) (by kernel_rfl) rfl (al2 rfl (al2 (by omega) (al1 (by omega)))) ?_
       refine calm_nil' ?_
       refine done_pre (li' := #[true, true, true, true, true, true, true, false, false]) (by kernel_rfl) ?_
       refine a1 7 rfl ?_
       refine ops_inline (g := 45) (args := #[.pointer (some ⟨g105, 0 + ((x91).toNat) * 5, none⟩), .pointer (some ⟨γ1 1, 0, none⟩)]) (by kernel_rfl) (by kernel_rfl) (by kernel_rfl) (fun args w => Try.call45 args w) Try.func45 rfl Try.ntmps45 rfl (sq_ (qa0 [] [0, 1] [] (ds_ (sq_ ?_))))
       have hmr := mul_each hbr103.2.2.1 hbr103.2.2.2.1 (show 0 ≤ dt by omega) (show dt ≤ 10000000 by omega)
       refine at_any (by kernel_rfl) ?_
       refine tk (m := 14) [0, 1, 2, 3, 5, 6, 7] [] [1] [(5, .pointer (some ⟨g105, 0 + ((x91).toNat) * 5, none⟩)), (8, .pointer (some ⟨g105, 0 + ((x91).toNat) * 5 + 2, none⟩)), (12, .pointer (some ⟨g105, 0 + ((x91).toNat) * 5 + 1, none⟩))] ([]) #[true, true, true, true, false, true, true, true, false, false, false, false, false, false, false, false, false, false, false, false, false] al0 ?_
       refine any_cut 8 #[true, true, true, true, true, true, true, true, true, true, true, true, true, false, false, false, false, false, false, false, false] ([(5, .pointer (some ⟨g105, 0 + ((x91).toNat) * 5, none⟩)), (9, .agg #[.int .u64 r103.th, .int .u64 r103.tl, .int .u64 r103.tw]), (17, .int .u64 (r103.each * dt))]) ([bx (γ21 0) (#[.slice (some ⟨g105, 0, none⟩) n cq20]) 24, bx (γ9 1) (#[.slice none 0 0]) 24, bx (γ9 0) (#[.slice p n cap]) 24, bx (γ7 4) (#[.slice none 0 0]) 24, bx (γ7 3) (#[.func (.func 45) #[] #[.pointer (some ⟨γ1 1, 0, none⟩)]]) 77, bx (γ7 2) (#[.slice pi m capi]) 41, bx (γ7 1) (#[.bool true]) 4, bx (γ7 0) (#[.slice p n cap]) 24, bx (γ1 2) (#[.slice none 0 0]) 24, bx (γ1 1) (#[.int .i64 dt]) 2, bx (γ1 0) (#[.slice p n cap]) 24, bx g89 cs89 3, bx g105 cs105 35]) ?_ (fun hm => ?_)
       rotate_left
       ·
        refine any_fork [4, 8, 10] (by kernel_rfl) (by simp) (each_cons _ rfl ?_ (each_cons _ rfl ?_ (each_cons _ rfl ?_ (each_nil))))
        ·
         refine qo 1 [(4, .go (ownps 12 (0 + ((x91).toNat) * 5 + 2) [.int .u64 r103.th, .int .u64 r103.tl, .int .u64 r103.tw]))] [1, 5, 12] [(9, .agg #[.int .u64 r103.th, .int .u64 r103.tl, .int .u64 r103.tw])] (acellsP cs105 (0 + ((x91).toNat) * 5 + 2) [.int .u64 r103.th, .int .u64 r103.tl, .int .u64 r103.tw]) (rda_part (hOw105.rdx hOq.len hLrr103) 2 _ rfl) ?_
         refine od_ ?_
         refine any_fork [8, 10] (by kernel_rfl) (by simp) (each_cons _ rfl ?_ (each_cons _ rfl ?_ (each_nil)))
         ·
          refine qo 1 [(8, .go (ownps 12 (0 + ((x91).toNat) * 5 + 1) [.int .i64 r103.each]))] [1, 5, 9] [(13, .int .i64 r103.each)] (acellsP cs105 (0 + ((x91).toNat) * 5 + 1) [.int .i64 r103.each]) (rda_part (hOw105.rdx hOq.len hLrr103) 1 _ rfl) ?_
          refine od_ ?_
          refine tk (m := 11) [9] [(9, .fit)] [1, 5, 9] [(14, .int .u64 r103.each)] ([Fit .u64 (r103.each)]) #[true, true, true, true, true, true, true, true, true, true, false, false, false, false, false, false, false, false, false, false, false] (al1 (fitU (by omega) (by omega))) ?_
          refine a1 10 rfl ?_
          refine qo0 1 [(10, .go (owns 9 0 1))] [5, 9, 14] [(15, .int .i64 dt)] ?_
          refine od_ ?_
          refine tk (m := 8) [11, 12] [(11, .fit), (12, .fit)] [5, 9] [(17, .int .u64 (r103.each * dt))] ([Fit .u64 (dt)] ++ ([Fit .u64 (r103.each * dt)])) #[true, true, true, true, true, true, true, true, true, true, true, true, true, false, false, false, false, false, false, false, false] (alA (al1 (fitU (by omega) (by omega))) (al1 (fitU (by omega) (by omega)))) ?_
          exact any_weak hm [5, 9, 17] (by kernel_rfl) rfl rfl rfl
         ·
          refine qo0 1 [(10, .go (owns 9 0 1))] [5, 9, 12] [(15, .int .i64 dt)] ?_
          refine od_ ?_
          refine tk (m := 11) [11] [(11, .fit)] [5, 9, 12] [(16, .int .u64 dt)] ([Fit .u64 (dt)]) #[true, true, true, true, true, true, true, true, false, false, true, true, false, false, false, false, false, false, false, false, false] (al1 (fitU (by omega) (by omega))) ?_
          refine a1 8 rfl ?_
          refine qo 1 [(8, .go (ownps 12 (0 + ((x91).toNat) * 5 + 1) [.int .i64 r103.each]))] [5, 9, 16] [(13, .int .i64 r103.each)] (acellsP cs105 (0 + ((x91).toNat) * 5 + 1) [.int .i64 r103.each]) (rda_part (hOw105.rdx hOq.len hLrr103) 1 _ rfl) ?_
          refine od_ ?_
          refine tk (m := 8) [9, 12] [(9, .fit), (12, .fit)] [5, 9] [(17, .int .u64 (r103.each * dt))] ([Fit .u64 (r103.each)] ++ ([Fit .u64 (r103.each * dt)])) #[true, true, true, true, true, true, true, true, true, true, true, true, true, false, false, false, false, false, false, false, false] (alA (al1 (fitU (by omega) (by omega))) (al1 (fitU (by omega) (by omega)))) ?_
          exact any_weak hm [5, 9, 17] (by kernel_rfl) rfl rfl rfl
        ·
         refine qo 1 [(8, .go (ownps 12 (0 + ((x91).toNat) * 5 + 1) [.int .i64 r103.each]))] [1, 5, 8] [(13, .int .i64 r103.each)] (acellsP cs105 (0 + ((x91).toNat) * 5 + 1) [.int .i64 r103.each]) (rda_part (hOw105.rdx hOq.len hLrr103) 1 _ rfl) ?_
         refine od_ ?_
         refine tk (m := 12) [9] [(9, .fit)] [1, 5, 8] [(14, .int .u64 r103.each)] ([Fit .u64 (r103.each)]) #[true, true, true, true, false, true, true, true, true, true, false, false, false, false, false, false, false, false, false, false, false] (al1 (fitU (by omega) (by omega))) ?_
         refine any_fork [4, 10] (by kernel_rfl) (by simp) (each_cons _ rfl ?_ (each_cons _ rfl ?_ (each_nil)))
         ·
          refine qo 1 [(4, .go (ownps 12 (0 + ((x91).toNat) * 5 + 2) [.int .u64 r103.th, .int .u64 r103.tl, .int .u64 r103.tw]))] [1, 5, 14] [(9, .agg #[.int .u64 r103.th, .int .u64 r103.tl, .int .u64 r103.tw])] (acellsP cs105 (0 + ((x91).toNat) * 5 + 2) [.int .u64 r103.th, .int .u64 r103.tl, .int .u64 r103.tw]) (rda_part (hOw105.rdx hOq.len hLrr103) 2 _ rfl) ?_
          refine od_ ?_
          refine a1 10 rfl ?_
          refine qo0 1 [(10, .go (owns 9 0 1))] [5, 9, 14] [(15, .int .i64 dt)] ?_
          refine od_ ?_
          refine tk (m := 8) [11, 12] [(11, .fit), (12, .fit)] [5, 9] [(17, .int .u64 (r103.each * dt))] ([Fit .u64 (dt)] ++ ([Fit .u64 (r103.each * dt)])) #[true, true, true, true, true, true, true, true, true, true, true, true, true, false, false, false, false, false, false, false, false] (alA (al1 (fitU (by omega) (by omega))) (al1 (fitU (by omega) (by omega)))) ?_
          exact any_weak hm [5, 9, 17] (by kernel_rfl) rfl rfl rfl
         ·
          refine qo0 1 [(10, .go (owns 9 0 1))] [5, 8, 14] [(15, .int .i64 dt)] ?_
          refine od_ ?_
          refine tk (m := 9) [11, 12] [(11, .fit), (12, .fit)] [5, 8] [(17, .int .u64 (r103.each * dt))] ([Fit .u64 (dt)] ++ ([Fit .u64 (r103.each * dt)])) #[true, true, true, true, false, true, true, true, true, true, true, true, true, false, false, false, false, false, false, false, false] (alA (al1 (fitU (by omega) (by omega))) (al1 (fitU (by omega) (by omega)))) ?_
          refine a1 4 rfl ?_
          refine qo 1 [(4, .go (ownps 12 (0 + ((x91).toNat) * 5 + 2) [.int .u64 r103.th, .int .u64 r103.tl, .int .u64 r103.tw]))] [5, 17] [(9, .agg #[.int .u64 r103.th, .int .u64 r103.tl, .int .u64 r103.tw])] (acellsP cs105 (0 + ((x91).toNat) * 5 + 2) [.int .u64 r103.th, .int .u64 r103.tl, .int .u64 r103.tw]) (rda_part (hOw105.rdx hOq.len hLrr103) 2 _ rfl) ?_
          refine od_ ?_
          exact any_weak hm [5, 9, 17] (by kernel_rfl) rfl rfl rfl
        ·
         refine qo0 1 [(10, .go (owns 9 0 1))] [5, 8, 12] [(15, .int .i64 dt)] ?_
         refine od_ ?_
         refine tk (m := 12) [11] [(11, .fit)] [5, 8, 12] [(16, .int .u64 dt)] ([Fit .u64 (dt)]) #[true, true, true, true, false, true, true, true, false, false, true, true, false, false, false, false, false, false, false, false, false] (al1 (fitU (by omega) (by omega))) ?_
         refine any_fork [4, 8] (by kernel_rfl) (by simp) (each_cons _ rfl ?_ (each_cons _ rfl ?_ (each_nil)))
         ·
          refine qo 1 [(4, .go (ownps 12 (0 + ((x91).toNat) * 5 + 2) [.int .u64 r103.th, .int .u64 r103.tl, .int .u64 r103.tw]))] [5, 12, 16] [(9, .agg #[.int .u64 r103.th, .int .u64 r103.tl, .int .u64 r103.tw])] (acellsP cs105 (0 + ((x91).toNat) * 5 + 2) [.int .u64 r103.th, .int .u64 r103.tl, .int .u64 r103.tw]) (rda_part (hOw105.rdx hOq.len hLrr103) 2 _ rfl) ?_
          refine od_ ?_
          refine a1 8 rfl ?_
          refine qo 1 [(8, .go (ownps 12 (0 + ((x91).toNat) * 5 + 1) [.int .i64 r103.each]))] [5, 9, 16] [(13, .int .i64 r103.each)] (acellsP cs105 (0 + ((x91).toNat) * 5 + 1) [.int .i64 r103.each]) (rda_part (hOw105.rdx hOq.len hLrr103) 1 _ rfl) ?_
          refine od_ ?_
          refine tk (m := 8) [9, 12] [(9, .fit), (12, .fit)] [5, 9] [(17, .int .u64 (r103.each * dt))] ([Fit .u64 (r103.each)] ++ ([Fit .u64 (r103.each * dt)])) #[true, true, true, true, true, true, true, true, true, true, true, true, true, false, false, false, false, false, false, false, false] (alA (al1 (fitU (by omega) (by omega))) (al1 (fitU (by omega) (by omega)))) ?_
          exact any_weak hm [5, 9, 17] (by kernel_rfl) rfl rfl rfl
         ·
          refine qo 1 [(8, .go (ownps 12 (0 + ((x91).toNat) * 5 + 1) [.int .i64 r103.each]))] [5, 8, 16] [(13, .int .i64 r103.each)] (acellsP cs105 (0 + ((x91).toNat) * 5 + 1) [.int .i64 r103.each]) (rda_part (hOw105.rdx hOq.len hLrr103) 1 _ rfl) ?_
          refine od_ ?_
          refine tk (m := 9) [9, 12] [(9, .fit), (12, .fit)] [5, 8] [(17, .int .u64 (r103.each * dt))] ([Fit .u64 (r103.each)] ++ ([Fit .u64 (r103.each * dt)])) #[true, true, true, true, false, true, true, true, true, true, true, true, true, false, false, false, false, false, false, false, false] (alA (al1 (fitU (by omega) (by omega))) (al1 (fitU (by omega) (by omega)))) ?_
          refine a1 4 rfl ?_
          refine qo 1 [(4, .go (ownps 12 (0 + ((x91).toNat) * 5 + 2) [.int .u64 r103.th, .int .u64 r103.tl, .int .u64 r103.tw]))] [5, 17] [(9, .agg #[.int .u64 r103.th, .int .u64 r103.tl, .int .u64 r103.tw])] (acellsP cs105 (0 + ((x91).toNat) * 5 + 2) [.int .u64 r103.th, .int .u64 r103.tl, .int .u64 r103.tw]) (rda_part (hOw105.rdx hOq.len hLrr103) 2 _ rfl) ?_
          refine od_ ?_
          exact any_weak hm [5, 9, 17] (by kernel_rfl) rfl rfl rfl
       refine a1 13 rfl ?_
       refine cD (.tuple #[.agg #[.int .u64 ((addV r103.t (r103.each * dt)).1.hi), .int .u64 ((addV r103.t (r103.each * dt)).1.lo), .int .u64 ((addV r103.t (r103.each * dt)).1.w)], .int .i64 ((addV r103.t (r103.each * dt)).2)]) Try.call18 (fun w hw => fadd_t r103.t (r103.each * dt) w hUr103.t (by omega) (by omega)) ?_
       refine od_ ?_
       refine tk (m := 2) [14, 15, 16, 17, 18] [] [] [(19, .agg #[.int .u64 ((addV r103.t (r103.each * dt)).1.hi), .int .u64 ((addV r103.t (r103.each * dt)).1.lo), .int .u64 ((addV r103.t (r103.each * dt)).1.w)]), (20, .int .i64 ((addV r103.t (r103.each * dt)).2)), (22, .pointer (some ⟨g105, 0 + ((x91).toNat) * 5 + 2, none⟩))] ([]) #[true, true, true, true, true, true, true, true, true, true, true, true, true, true, true, true, true, true, true, false, false] al0 ?_
       refine a1 19 rfl ?_
       refine mo 1 [(19, .go (ownps 12 (0 + ((x91).toNat) * 5 + 2) [undef, undef, undef]))] [20] (fun _ => []) (fun _ L => (L.set 12 (bx g105 ((((cs105).setIfInBounds (0 + ((x91).toNat) * 5 + 2) (.int .u64 ((addV r103.t (r103.each * dt)).1.hi))).setIfInBounds (0 + ((x91).toNat) * 5 + 2 + 1) (.int .u64 ((addV r103.t (r103.each * dt)).1.lo))).setIfInBounds (0 + ((x91).toNat) * 5 + 2 + 2) (.int .u64 ((addV r103.t (r103.each * dt)).1.w))) 35))) (fun _ => [0 + ((x91).toNat) * 5 + 2 < (cs105).size] ++ ([0 + ((x91).toNat) * 5 + 2 + 1 < ((cs105).setIfInBounds (0 + ((x91).toNat) * 5 + 2) (.int .u64 ((addV r103.t (r103.each * dt)).1.hi))).size] ++ ([0 + ((x91).toNat) * 5 + 2 + 2 < (((cs105).setIfInBounds (0 + ((x91).toNat) * 5 + 2) (.int .u64 ((addV r103.t (r103.each * dt)).1.hi))).setIfInBounds (0 + ((x91).toNat) * 5 + 2 + 1) (.int .u64 ((addV r103.t (r103.each * dt)).1.lo))).size]))) (fun _ => (alA (al1 (by exact hOw105.room hOq.len hLrr103 (f := 2) (by decide))) (alA (al1 (by have hrm := hOw105.room hOq.len hLrr103 (f := 3) (by decide); simp only [Array.size_setIfInBounds] at hrm ⊢; exact hrm)) (al1 (by have hrm := hOw105.room hOq.len hLrr103 (f := 4) (by decide); simp only [Array.size_setIfInBounds] at hrm ⊢; exact hrm))))) (fun _ => ?_)
       refine od_ ?_
       refine tk (m := 0) [20] [] [] [(3, .int .i64 ((addV r103.t (r103.each * dt)).2))] ([]) #[true, true, true, true, true, true, true, true, true, true, true, true, true, true, true, true, true, true, true, true, true] al0 ?_
       refine any_nil (by kernel_rfl) ?_
       refine ds_ (sq_ (qa0 [] [] [(3, .int .i64 ((addV r103.t (r103.each * dt)).2))] (ds_ (bk ([]) (.int .i64 ((addV r103.t (r103.each * dt)).2)) ?_))))
       refine od_ ?_
       refine tk (m := 0) [8] [] [0, 3, 18, 19, 20] [(7, .int .i64 ((addV r103.t (r103.each * dt)).2))] ([]) #[true, true, true, true, true, true, true, true, true] al0 ?_
       refine any_nil (by kernel_rfl) ?_
       refine done_block (ds_ (qa [(0, .fit)] [0, 3, 7, 18, 19] [(20, .int .i64 (i + 1 : Nat))] ([Fit .i64 ((i + 1 : Nat))]) (al1 (fit64 (by omega) (by omega))) ?_))
       exact dr [0, 3, 7, 18, 19, 20] (i + 1, (addV r103.t (r103.each * dt)).2, [bx g105 ((((cs105).setIfInBounds (0 + ((x91).toNat) * 5 + 2) (.int .u64 ((addV r103.t (r103.each * dt)).1.hi))).setIfInBounds (0 + ((x91).toNat) * 5 + 2 + 1) (.int .u64 ((addV r103.t (r103.each * dt)).1.lo))).setIfInBounds (0 + ((x91).toNat) * 5 + 2 + 2) (.int .u64 ((addV r103.t (r103.each * dt)).1.w))) 35], (L.set ((x91).toNat) (⟨r103.id, r103.each, (addV r103.t (r103.each * dt)).1.hi, (addV r103.t (r103.each * dt)).1.lo, (addV r103.t (r103.each * dt)).1.w⟩ : Rn))) ⟨by omega, by rw [altX_on (hX.trans her0) hidr103 hgkr103]; rfl, fun hz => (altS_eq hgq.rs htsr103 hidr103 (hL her0) (by first | rfl | simp only [List.set_set] <;> rfl)), (SlO.ofOwn (hOw105.put3 (x' := (⟨r103.id, r103.each, (addV r103.t (r103.each * dt)).1.hi, (addV r103.t (r103.each * dt)).1.lo, (addV r103.t (r103.each * dt)).1.w⟩ : Rn)) (f := 2) hOq.len hLrr103 (by decide) ⟨(⟨r103.id, r103.each, (addV r103.t (r103.each * dt)).1.hi, r103.tl, r103.tw⟩ : Rn), rfl⟩ ⟨(⟨r103.id, r103.each, (addV r103.t (r103.each * dt)).1.hi, (addV r103.t (r103.each * dt)).1.lo, r103.tw⟩ : Rn), rfl⟩ rfl) (len_set hOq.len))⟩
     ·
      refine qa [(0, .no)] [0, 3, 7, 18, 19, 20] [(21, .bool false)] ([¬ (((i : Nat) : Int) < ((nu : Nat) : Int))]) (al1 q86) (ds_ (sq_ (f_ (at_leave _ rfl (ds_ (sq_ ?_))))))
      have hXf : altX (runF dt) ts (placesE ts il) il = ez := (altX_all (by omega)).symm.trans hX
      refine qa0 [] [] [(5, .int .i64 ez)] (ds_ (bk ([]) (.int .i64 ez) (qo0 1 [] [4, 7] [(8, .int .i64 ez)] (on_ (ds_ (sq_ ?_))))))
      by_cases q150 : (ez : Int) ≠ (0 : Int)
      ·
       refine qa [(1, .yes)] [4, 7, 8] [(22, .bool true)] ([(ez : Int) ≠ (0 : Int)]) (al1 q150) (ds_ (t_ (sq_ (qa0 [(2, .go (owns 1 0 1))] [4] [(5, .int .i64 ez)] (ds_ (bk (owns 1 0 1) (.tuple #[.agg #[.slice none 0 0], .int .i64 ez]) (qo0 4 [(5, .go (owns 3 0 1))] [8] [(9, .int .i64 ez)] (on_ (ds_ (bk (owns 3 0 1) (.tuple #[.agg #[.slice none 0 0], .int .i64 ez]) (qo0 4 [(12, .go (owns 8 0 1))] [6] [(7, .int .i64 ez)] (on_ (ds_ (rt (owns 8 0 1) (.tuple #[.agg #[.slice none 0 0], .int .i64 ez]) ?_))))))))))))))
       exact fun w' hw => by rw [show runV ts il dt = alterV (runF dt) ts (runB dt) il from rfl, alter_err q11 (show runB dt = true from decide_eq_true (by omega)) (by rw [hXf]; omega), hXf]; exact ⟨none, 0, 0, [], rfl, SlO.nil, hw.below, hw.sub (List.nil_sublist _)⟩
      ·
       refine qa [(1, .no)] [4, 7, 8] [(22, .bool false)] ([¬ ((ez : Int) ≠ (0 : Int))]) (al1 q150) (ds_ (f_ (at_skip (ds_ (sq_ (ma0 [(0, .go (owns 0 0 1)), (1, .go (owns 1 0 1))] [4] (fun _ => [(5, .int .i64 0)]) (fun _ L => (L.set 1 (bx (γ9 1) (#[.slice q20 n cq20]) 24))) (fun _ => ds_ (bk (owns 1 0 1) (.tuple #[.agg #[.slice q20 n cq20], .int .i64 0]) (mo0 4 [(5, .go (owns 3 0 1))] [8] (fun _ => [(9, .int .i64 0)]) (fun _ L => (L.set 3 (bx (γ7 4) (#[.slice q20 n cq20]) 24))) (fun _ => on_ (ds_ (bk (owns 3 0 1) (.tuple #[.agg #[.slice q20 n cq20], .int .i64 0]) (mo0 4 [(12, .go (owns 8 0 1))] [6] (fun _ => [(7, .int .i64 0)]) (fun _ L => (L.set 8 (bx (γ1 2) (#[.slice q20 n cq20]) 24))) (fun _ => on_ (ds_ (rt (owns 8 0 1) (.tuple #[.agg #[.slice q20 n cq20], .int .i64 0]) ?_))))))))))))))))
       have hLf := hL (by omega)
       rw [altL_all (by omega)] at hLf
       subst hLf
       exact fun w' hw => by rw [show runV ts il dt = alterV (runF dt) ts (runB dt) il from rfl, alter_ok q11 (show runB dt = true from decide_eq_true (by omega)) (hXf.trans (by omega))]; exact ⟨_, _, _, _, rfl, hOq, hw.below, one_tail (Hs.pick [[bx (γ21 0) (#[.slice q20 n cq20]) 24], [bx (γ9 1) (#[.slice q20 n cq20]) 24], [bx (γ9 0) (#[.slice p n cap]) 24], [bx (γ7 4) (#[.slice q20 n cq20]) 24], [bx (γ7 3) (#[.func (.func 45) #[] #[.pointer (some ⟨γ1 1, 0, none⟩)]]) 77], [bx (γ7 2) (#[.slice pi m capi]) 41], [bx (γ7 1) (#[.bool true]) 4], [bx (γ7 0) (#[.slice p n cap]) 24], [bx (γ1 2) (#[.slice q20 n cq20]) 24], [bx (γ1 1) (#[.int .i64 dt]) 2], [bx (γ1 0) (#[.slice p n cap]) 24], Yo, Yq] [12] [0, 1, 2, 3, 4, 5, 6, 7, 8, 9, 10, 11] (by kernel_rfl) hw)⟩
  ·
   refine ao_ (qo 9 [(0, .go (owns 2 0 1)), (1, .go (owns 1 0 1)), (2, .yes), (4, .go (owns 1 0 1)), (5, .no)] [6] [(8, .agg #[.slice p n cap]), (14, .bool false), (15, .slice pi m capi), (16, .func (.func 45) #[] #[.pointer (some ⟨γ1 1, 0, none⟩)])] ([(dt : Int) ≥ (0 : Int)] ++ ([¬ ((dt : Int) ≤ (10000000 : Int))])) (alA (al1 q3) (al1 q5)) (ops_inline (g := 36) (args := #[.agg #[.slice p n cap], .bool false, .slice pi m capi, .func (.func 45) #[] #[.pointer (some ⟨γ1 1, 0, none⟩)]]) (by kernel_rfl) (by kernel_rfl) (by kernel_rfl) (fun args w => Try.call36 args w) Try.func36 rfl Try.ntmps36 rfl (sq_ (ma0 [] [] (fun γ160 => [(4, .pointer (some ⟨γ160 0, 0, none⟩)), (5, .pointer (some ⟨γ160 1, 0, none⟩)), (6, .pointer (some ⟨γ160 2, 0, none⟩)), (7, .pointer (some ⟨γ160 3, 0, none⟩)), (8, .pointer (some ⟨γ160 4, 0, none⟩))]) (fun γ160 L => bx (γ160 4) (#[.slice none 0 0]) 24 :: bx (γ160 3) (#[.func (.func 45) #[] #[.pointer (some ⟨γ1 1, 0, none⟩)]]) 77 :: bx (γ160 2) (#[.slice pi m capi]) 41 :: bx (γ160 1) (#[.bool false]) 4 :: bx (γ160 0) (#[.slice p n cap]) 24 :: L) (fun γ160 => ds_ (sq_ (ao_ (qo0 2 [(0, .go (owns 4 0 1))] [8] [(10, .agg #[.slice p n cap]), (11, .func (.func 68) #[] #[.pointer (some ⟨γ160 1, 0, none⟩), .pointer (some ⟨γ160 2, 0, none⟩), .pointer (some ⟨γ160 3, 0, none⟩)])] (ops_inline (g := 56) (args := #[.agg #[.slice p n cap], .func (.func 68) #[] #[.pointer (some ⟨γ160 1, 0, none⟩), .pointer (some ⟨γ160 2, 0, none⟩), .pointer (some ⟨γ160 3, 0, none⟩)]]) (by kernel_rfl) (by kernel_rfl) (by kernel_rfl) (fun args w => Try.call56 args w) Try.func56 rfl Try.ntmps56 rfl (sq_ (ma0 [] [1] (fun γ162 => [(2, .pointer (some ⟨γ162 0, 0, none⟩)), (4, .pointer (some ⟨γ162 1, 0, none⟩))]) (fun γ162 L => bx (γ162 1) (#[.slice none 0 0]) 24 :: bx (γ162 0) (#[.slice p n cap]) 24 :: L) (fun γ162 => ds_ (sq_ (sq_ (ao_ (qo0 1 [(0, .go (owns 1 0 1))] [1, 2, 4] [(9, .agg #[.slice p n cap])] ?_))))))))))))))))
   rcases q164 : chkQ ts with _ | _
   ·
    refine cD (.int .i64 200) Try.call20 (fun w hw => by have := qcheck_t p n cap ts w (hts.kept hw.below) hn (by omega); rw [q164] at this; exact this) (qo0 1 [] [1, 2, 4] [(6, .int .i64 200)] (on_ (ds_ (sq_ (qa0 [] [1, 2, 4, 6] [(12, .bool true)] (ds_ (t_ (sq_ (qa0 [(2, .go (owns 0 0 1))] [4] [(5, .int .i64 200)] (ds_ (bk (owns 0 0 1) (.tuple #[.agg #[.slice none 0 0], .int .i64 200]) (qo0 4 [(5, .go (owns 2 0 1))] [8] [(9, .int .i64 200)] (on_ (ds_ (bk (owns 2 0 1) (.tuple #[.agg #[.slice none 0 0], .int .i64 200]) (qo0 4 [(12, .go (owns 7 0 1))] [6] [(7, .int .i64 200)] (on_ (ds_ (rt (owns 7 0 1) (.tuple #[.agg #[.slice none 0 0], .int .i64 200]) ?_)))))))))))))))))))
    exact fun w' hw => by rw [show runV ts il dt = alterV (runF dt) ts (runB dt) il from rfl, alter_bad q164]; exact ⟨none, 0, 0, [], rfl, SlO.nil, hw.below, hw.sub (List.nil_sublist _)⟩
   ·
    refine cD (.int .i64 0) Try.call20 (fun w hw => by have := qcheck_t p n cap ts w (hts.kept hw.below) hn (by omega); rw [q164] at this; exact this) (qo0 1 [] [1, 2, 4] [(6, .int .i64 0)] (on_ (ds_ (sq_ (qa0 [] [1, 2, 4, 6] [(12, .bool false)] (ds_ (f_ (at_skip (ds_ (sq_ ?_))))))))))
    have hgq := chk_iff.1 q164
    have hlq := hgq.len
    refine ao_ (qo0 2 [(1, .go (owns 1 0 1))] [1, 4] [(16, .slice p n cap)] (cP (fun v L' => ∃ q_ c_ Y_, v = .slice q_ n c_ ∧ L' = List.take 10 ([bx (γ162 1) (#[.slice none 0 0]) 24, bx (γ162 0) (#[.slice p n cap]) 24, bx (γ160 4) (#[.slice none 0 0]) 24, bx (γ160 3) (#[.func (.func 45) #[] #[.pointer (some ⟨γ1 1, 0, none⟩)]]) 77, bx (γ160 2) (#[.slice pi m capi]) 41, bx (γ160 1) (#[.bool false]) 4, bx (γ160 0) (#[.slice p n cap]) 24, bx (γ1 2) (#[.slice none 0 0]) 24, bx (γ1 1) (#[.int .i64 dt]) 2, bx (γ1 0) (#[.slice p n cap]) 24]) ++ (Y_ ++ List.drop 10 ([bx (γ162 1) (#[.slice none 0 0]) 24, bx (γ162 0) (#[.slice p n cap]) 24, bx (γ160 4) (#[.slice none 0 0]) 24, bx (γ160 3) (#[.func (.func 45) #[] #[.pointer (some ⟨γ1 1, 0, none⟩)]]) 77, bx (γ160 2) (#[.slice pi m capi]) 41, bx (γ160 1) (#[.bool false]) 4, bx (γ160 0) (#[.slice p n cap]) 24, bx (γ1 2) (#[.slice none 0 0]) 24, bx (γ1 1) (#[.int .i64 dt]) 2, bx (γ1 0) (#[.slice p n cap]) 24])) ∧ SlO 35 Y_ q_ n c_ ts) Try.call78 (fun w hw => (qclone_t p n cap ts w (hts.kept hw.below) hn (by omega)).mono fun e w' ⟨q_, c_, Y_, he, hO, hb, hY⟩ => ⟨_, _, he, ⟨q_, c_, Y_, rfl, rfl, hO⟩, hw.join hb hY 10⟩) ?_))
    rintro v173 L173 ⟨q173, cq173, Y173, rfl, rfl, hO173⟩
    refine mo0 3 [(5, .go (owns 0 0 1))] [1, 4] (fun γ174 => [(7, .pointer (some ⟨γ174 0, 0, none⟩))]) (fun γ174 L => bx (γ174 0) (#[.slice q173 n cq173]) 24 :: L) (fun γ174 => on_ (ds_ (sq_ (sq_ (ao_ (qo0 1 [] [4, 7] [(19, .func (.func 68) #[] #[.pointer (some ⟨γ160 1, 0, none⟩), .pointer (some ⟨γ160 2, 0, none⟩), .pointer (some ⟨γ160 3, 0, none⟩)])] (ops_inline (g := 68) (args := #[.pointer (some ⟨γ174 0, 0, none⟩), .pointer (some ⟨γ160 1, 0, none⟩), .pointer (some ⟨γ160 2, 0, none⟩), .pointer (some ⟨γ160 3, 0, none⟩)]) (by kernel_rfl) (by kernel_rfl) (by kernel_rfl) (fun args w => Try.call68 args w) Try.func68 rfl Try.ntmps68 rfl (sq_ (qa0 [] [0, 1, 2, 3] [] (ds_ (sq_ (sq_ (qa0 [(0, .go (owns 6 0 1))] [0, 2, 3] [(11, .bool true)] (ds_ (t_ (sq_ (qa0 [] [] [(5, .int .i64 2)] (ds_ (bk ([]) (.int .i64 2) (qo0 1 [] [4, 7] [(8, .int .i64 2)] (on_ (ds_ (sq_ (qa0 [] [4, 7, 8] [(22, .bool true)] (ds_ (t_ (sq_ (qa0 [(2, .go (owns 1 0 1))] [4] [(5, .int .i64 2)] (ds_ (bk (owns 1 0 1) (.tuple #[.agg #[.slice none 0 0], .int .i64 2]) (qo0 4 [(5, .go (owns 3 0 1))] [8] [(9, .int .i64 2)] (on_ (ds_ (bk (owns 3 0 1) (.tuple #[.agg #[.slice none 0 0], .int .i64 2]) (qo0 4 [(12, .go (owns 8 0 1))] [6] [(7, .int .i64 2)] (on_ (ds_ (rt (owns 8 0 1) (.tuple #[.agg #[.slice none 0 0], .int .i64 2]) ?_))))))))))))))))))))))))))))))))))))))
    exact fun w' hw => by rw [show runV ts il dt = alterV (runF dt) ts (runB dt) il from rfl, alter_arg q164 (show runB dt = false from decide_eq_false (by omega))]; exact ⟨none, 0, 0, [], rfl, SlO.nil, hw.below, hw.sub (List.nil_sublist _)⟩
 ·
  refine ao_ (qo 9 [(0, .go (owns 2 0 1)), (1, .go (owns 1 0 1)), (2, .no)] [6] [(8, .agg #[.slice p n cap]), (14, .bool false), (15, .slice pi m capi), (16, .func (.func 45) #[] #[.pointer (some ⟨γ1 1, 0, none⟩)])] ([¬ ((dt : Int) ≥ (0 : Int))]) (al1 q3) (ops_inline (g := 36) (args := #[.agg #[.slice p n cap], .bool false, .slice pi m capi, .func (.func 45) #[] #[.pointer (some ⟨γ1 1, 0, none⟩)]]) (by kernel_rfl) (by kernel_rfl) (by kernel_rfl) (fun args w => Try.call36 args w) Try.func36 rfl Try.ntmps36 rfl (sq_ (ma0 [] [] (fun γ185 => [(4, .pointer (some ⟨γ185 0, 0, none⟩)), (5, .pointer (some ⟨γ185 1, 0, none⟩)), (6, .pointer (some ⟨γ185 2, 0, none⟩)), (7, .pointer (some ⟨γ185 3, 0, none⟩)), (8, .pointer (some ⟨γ185 4, 0, none⟩))]) (fun γ185 L => bx (γ185 4) (#[.slice none 0 0]) 24 :: bx (γ185 3) (#[.func (.func 45) #[] #[.pointer (some ⟨γ1 1, 0, none⟩)]]) 77 :: bx (γ185 2) (#[.slice pi m capi]) 41 :: bx (γ185 1) (#[.bool false]) 4 :: bx (γ185 0) (#[.slice p n cap]) 24 :: L) (fun γ185 => ds_ (sq_ (ao_ (qo0 2 [(0, .go (owns 4 0 1))] [8] [(10, .agg #[.slice p n cap]), (11, .func (.func 68) #[] #[.pointer (some ⟨γ185 1, 0, none⟩), .pointer (some ⟨γ185 2, 0, none⟩), .pointer (some ⟨γ185 3, 0, none⟩)])] (ops_inline (g := 56) (args := #[.agg #[.slice p n cap], .func (.func 68) #[] #[.pointer (some ⟨γ185 1, 0, none⟩), .pointer (some ⟨γ185 2, 0, none⟩), .pointer (some ⟨γ185 3, 0, none⟩)]]) (by kernel_rfl) (by kernel_rfl) (by kernel_rfl) (fun args w => Try.call56 args w) Try.func56 rfl Try.ntmps56 rfl (sq_ (ma0 [] [1] (fun γ187 => [(2, .pointer (some ⟨γ187 0, 0, none⟩)), (4, .pointer (some ⟨γ187 1, 0, none⟩))]) (fun γ187 L => bx (γ187 1) (#[.slice none 0 0]) 24 :: bx (γ187 0) (#[.slice p n cap]) 24 :: L) (fun γ187 => ds_ (sq_ (sq_ (ao_ (qo0 1 [(0, .go (owns 1 0 1))] [1, 2, 4] [(9, .agg #[.slice p n cap])] ?_))))))))))))))))
  rcases q189 : chkQ ts with _ | _
  ·
   refine cD (.int .i64 200) Try.call20 (fun w hw => by have := qcheck_t p n cap ts w (hts.kept hw.below) hn (by omega); rw [q189] at this; exact this) (qo0 1 [] [1, 2, 4] [(6, .int .i64 200)] (on_ (ds_ (sq_ (qa0 [] [1, 2, 4, 6] [(12, .bool true)] (ds_ (t_ (sq_ (qa0 [(2, .go (owns 0 0 1))] [4] [(5, .int .i64 200)] (ds_ (bk (owns 0 0 1) (.tuple #[.agg #[.slice none 0 0], .int .i64 200]) (qo0 4 [(5, .go (owns 2 0 1))] [8] [(9, .int .i64 200)] (on_ (ds_ (bk (owns 2 0 1) (.tuple #[.agg #[.slice none 0 0], .int .i64 200]) (qo0 4 [(12, .go (owns 7 0 1))] [6] [(7, .int .i64 200)] (on_ (ds_ (rt (owns 7 0 1) (.tuple #[.agg #[.slice none 0 0], .int .i64 200]) ?_)))))))))))))))))))
   exact fun w' hw => by rw [show runV ts il dt = alterV (runF dt) ts (runB dt) il from rfl, alter_bad q189]; exact ⟨none, 0, 0, [], rfl, SlO.nil, hw.below, hw.sub (List.nil_sublist _)⟩
  ·
   refine cD (.int .i64 0) Try.call20 (fun w hw => by have := qcheck_t p n cap ts w (hts.kept hw.below) hn (by omega); rw [q189] at this; exact this) (qo0 1 [] [1, 2, 4] [(6, .int .i64 0)] (on_ (ds_ (sq_ (qa0 [] [1, 2, 4, 6] [(12, .bool false)] (ds_ (f_ (at_skip (ds_ (sq_ ?_))))))))))
   have hgq := chk_iff.1 q189
   have hlq := hgq.len
   refine ao_ (qo0 2 [(1, .go (owns 1 0 1))] [1, 4] [(16, .slice p n cap)] (cP (fun v L' => ∃ q_ c_ Y_, v = .slice q_ n c_ ∧ L' = List.take 10 ([bx (γ187 1) (#[.slice none 0 0]) 24, bx (γ187 0) (#[.slice p n cap]) 24, bx (γ185 4) (#[.slice none 0 0]) 24, bx (γ185 3) (#[.func (.func 45) #[] #[.pointer (some ⟨γ1 1, 0, none⟩)]]) 77, bx (γ185 2) (#[.slice pi m capi]) 41, bx (γ185 1) (#[.bool false]) 4, bx (γ185 0) (#[.slice p n cap]) 24, bx (γ1 2) (#[.slice none 0 0]) 24, bx (γ1 1) (#[.int .i64 dt]) 2, bx (γ1 0) (#[.slice p n cap]) 24]) ++ (Y_ ++ List.drop 10 ([bx (γ187 1) (#[.slice none 0 0]) 24, bx (γ187 0) (#[.slice p n cap]) 24, bx (γ185 4) (#[.slice none 0 0]) 24, bx (γ185 3) (#[.func (.func 45) #[] #[.pointer (some ⟨γ1 1, 0, none⟩)]]) 77, bx (γ185 2) (#[.slice pi m capi]) 41, bx (γ185 1) (#[.bool false]) 4, bx (γ185 0) (#[.slice p n cap]) 24, bx (γ1 2) (#[.slice none 0 0]) 24, bx (γ1 1) (#[.int .i64 dt]) 2, bx (γ1 0) (#[.slice p n cap]) 24])) ∧ SlO 35 Y_ q_ n c_ ts) Try.call78 (fun w hw => (qclone_t p n cap ts w (hts.kept hw.below) hn (by omega)).mono fun e w' ⟨q_, c_, Y_, he, hO, hb, hY⟩ => ⟨_, _, he, ⟨q_, c_, Y_, rfl, rfl, hO⟩, hw.join hb hY 10⟩) ?_))
   rintro v198 L198 ⟨q198, cq198, Y198, rfl, rfl, hO198⟩
   refine mo0 3 [(5, .go (owns 0 0 1))] [1, 4] (fun γ199 => [(7, .pointer (some ⟨γ199 0, 0, none⟩))]) (fun γ199 L => bx (γ199 0) (#[.slice q198 n cq198]) 24 :: L) (fun γ199 => on_ (ds_ (sq_ (sq_ (ao_ (qo0 1 [] [4, 7] [(19, .func (.func 68) #[] #[.pointer (some ⟨γ185 1, 0, none⟩), .pointer (some ⟨γ185 2, 0, none⟩), .pointer (some ⟨γ185 3, 0, none⟩)])] (ops_inline (g := 68) (args := #[.pointer (some ⟨γ199 0, 0, none⟩), .pointer (some ⟨γ185 1, 0, none⟩), .pointer (some ⟨γ185 2, 0, none⟩), .pointer (some ⟨γ185 3, 0, none⟩)]) (by kernel_rfl) (by kernel_rfl) (by kernel_rfl) (fun args w => Try.call68 args w) Try.func68 rfl Try.ntmps68 rfl (sq_ (qa0 [] [0, 1, 2, 3] [] (ds_ (sq_ (sq_ (qa0 [(0, .go (owns 6 0 1))] [0, 2, 3] [(11, .bool true)] (ds_ (t_ (sq_ (qa0 [] [] [(5, .int .i64 2)] (ds_ (bk ([]) (.int .i64 2) (qo0 1 [] [4, 7] [(8, .int .i64 2)] (on_ (ds_ (sq_ (qa0 [] [4, 7, 8] [(22, .bool true)] (ds_ (t_ (sq_ (qa0 [(2, .go (owns 1 0 1))] [4] [(5, .int .i64 2)] (ds_ (bk (owns 1 0 1) (.tuple #[.agg #[.slice none 0 0], .int .i64 2]) (qo0 4 [(5, .go (owns 3 0 1))] [8] [(9, .int .i64 2)] (on_ (ds_ (bk (owns 3 0 1) (.tuple #[.agg #[.slice none 0 0], .int .i64 2]) (qo0 4 [(12, .go (owns 8 0 1))] [6] [(7, .int .i64 2)] (on_ (ds_ (rt (owns 8 0 1) (.tuple #[.agg #[.slice none 0 0], .int .i64 2]) ?_))))))))))))))))))))))))))))))))))))))
   exact fun w' hw => by rw [show runV ts il dt = alterV (runF dt) ts (runB dt) il from rfl, alter_arg q189 (show runB dt = false from decide_eq_false (by omega))]; exact ⟨none, 0, 0, [], rfl, SlO.nil, hw.below, hw.sub (List.nil_sublist _)⟩
end Go.Proofs.Ytnhkecfapohlgaa

/-! The walker: rows of rows of whole numbers, read or one's own. -/
namespace Go.Proofs.Ytnhkecfapohlgaa
open Go Go.RowKit

/-- A row of whole numbers as an element. -/
structure IntsA where
  p : Option Addr
  n : Nat
  cap : Nat
  l : List Int
def IntsA.enc (x : IntsA) : List Value := [.slice x.p x.n x.cap]
instance : Enc IntsA := ⟨IntsA.enc, 1, fun _ => rfl, fun x v h => by simp [IntsA.enc] at h; subst h; rfl, by decide⟩
structure IntsA.Reads (w : World) (x : IntsA) : Prop where
  sv : Sv w x.p x.l
  hn : x.n = x.l.length
  hc : x.n ≤ x.cap
  hb : x.cap ≤ 9223372036854775807
section
variable {w w' w0 : World} {x : IntsA} {al : List IntsA} {T : TypeId} {Y Yi L : List Ob}
theorem IntsA.Reads.kept (h : x.Reads w) (hb : Below w.heap.size w w') : x.Reads w' := ⟨h.sv.kept hb, h.hn, h.hc, h.hb⟩
theorem SlO.facts {α : Type} [Enc α] {p : Option Addr} {n cap : Nat} {l : List α} (h : SlO T Y p n cap l) : n = l.length ∧ n ≤ cap ∧ cap ≤ 9223372036854775807 := by
  refine ⟨h.len, ?_⟩
  rcases h with ⟨_, _, h, h2, _⟩ | ⟨g, cs, _, _, _, h⟩
  · omega
  · exact ⟨h.le, h.max⟩
/-- Rows of one's own, each in a block of its own. -/
def GotR (T : TypeId) (Yi : List Ob) (al : List IntsA) : Prop := ∃ Ys : List (List Ob), Yi = Ys.flatten ∧ Ys.length = al.length ∧ ∀ (i : Nat) (Y : List Ob) (x : IntsA), Ys[i]? = some Y → al[i]? = some x → SlO T Y x.p x.n x.cap x.l
theorem GotR.nil : GotR T [] [] := ⟨[], rfl, rfl, fun i Y x h => by simp at h⟩
theorem GotR.own (h : GotR T Yi al) (hx : x ∈ al) : ∃ Y, List.Sublist Y Yi ∧ SlO T Y x.p x.n x.cap x.l := by
  obtain ⟨Ys, rfl, hl, hs⟩ := h
  obtain ⟨i, hi⟩ := List.mem_iff_getElem?.1 hx
  have hil := (List.getElem?_eq_some_iff.1 hi).1
  have e : Ys[i]? = some Ys[i] := List.getElem?_eq_getElem (by omega)
  exact ⟨Ys[i], List.sublist_flatten_of_mem (List.getElem_mem _), hs i _ x e hi⟩
theorem SlO.sub {α : Type} [Enc α] {p : Option Addr} {n cap : Nat} {l : List α} (h : SlO T Y p n cap l) (hw : Hs w0 L w) (hs : List.Sublist Y L) : Sv w p l := h.at (R := []) (by rw [List.append_nil]; exact hw.sub hs)
theorem GotR.reads (h : GotR T Yi al) (hw : Hs w0 L w) (hs : List.Sublist Yi L) : ∀ x ∈ al, x.Reads w := fun x hx => by
  obtain ⟨Y, h1, h2⟩ := h.own hx
  have hf := h2.facts
  exact ⟨h2.sub hw (h1.trans hs), hf.1, hf.2.1, hf.2.2⟩
end
section
variable {E : Env} {k : List Fr} {l : Sl} {L L' : List Ob} {all os : List Oper} {i : Nat} {c : Code}
theorem Done.as (h : L = L') (hd : Done E k l L') : Done E k l L := h ▸ hd
theorem At.as (h : L = L') (hd : At E k c l L') : At E k c l L := h ▸ hd
theorem Ops.as (h : L = L') (hd : Ops E k all os i l L') : Ops E k all os i l L := h ▸ hd
theorem min_if17 {n : Nat} : (if (17 : Int) < ((n : Nat) : Int) then (17 : Int) else ((n : Nat) : Int)) = ((min n 17 : Nat) : Int) := by split <;> omega
end
end Go.Proofs.Ytnhkecfapohlgaa

/-! The layer does something. -/
namespace Go.Proofs.Ytnhkecfapohlgaa
open Go Go.RowKit
theorem lit_U0 : ∀ r ∈ [(⟨1, 1, 0, 100, 10⟩ : Rn), (⟨2, 2, 0, 300, 20⟩ : Rn)], r.U := by
 intro r hr
 simp only [List.mem_cons, List.not_mem_nil, or_false] at hr
 rcases hr with rfl | rfl <;> exact ⟨by decide, by decide, by decide, by decide, by constructor <;> decide⟩
theorem lit_U1 : ∀ r ∈ ([(⟨1, 1, 0, 100, 10⟩ : Rn), (⟨2, 2, 0, 300, 20⟩ : Rn), (⟨3, 1, 0, 360, 30⟩ : Rn)] : List Rn), r.U := by
 intro r hr
 simp only [List.mem_cons, List.not_mem_nil, or_false] at hr
 rcases hr with rfl | rfl | rfl <;> exact ⟨by decide, by decide, by decide, by decide, by constructor <;> decide⟩

set_option maxRecDepth 100000 in
theorem over_t (a b : Int) (w : World)
 : Calls Try.prog 32 #[.int .u64 a, .int .u64 b] w fun e w' => e = .returned (.agg #[.int .u64 0, .int .u64 a, .int .u64 b]) ∧ Below w.heap.size w w' := by
 refine enter (Hs.start w) Try.func32 rfl Try.ntmps32 rfl (sq_ (ma0 [] [0, 1] (fun γ1 => [(4, .pointer (some ⟨γ1 0, 0, none⟩))]) (fun γ1 L => bx (γ1 0) (#[.int .u64 0, .int .u64 0, .int .u64 0]) 33 :: L) (fun γ1 => ds_ (sq_ (ma0 [(4, .go (owns 0 0 3))] [4] (fun _ => []) (fun _ L => (L.set 0 (bx (γ1 0) (#[.int .u64 0, .int .u64 a, .int .u64 b]) 33))) (fun _ => ds_ (rt (owns 0 0 3) (.agg #[.int .u64 0, .int .u64 a, .int .u64 b]) ?_)))))))
 exact fun w' hw => ⟨rfl, hw.below⟩

set_option maxRecDepth 100000 in
theorem wakes_t  (w : World)
 : Calls Try.prog 9 #[] w fun e w' => e = .returned (.bool true) ∧ Below w.heap.size w w' := by
 refine enter (Hs.start w) Try.func9 rfl Try.ntmps9 rfl (sq_ (qa0 [] [] [] (ds_ (sq_ (ao_ (cD (.agg #[.int .u64 0, .int .u64 100, .int .u64 10]) Try.call32 (fun w hw => over_t 100 10 w) (qo0 1 [] [] [(9, .agg #[.int .i64 1, .int .i64 1, .int .u64 0, .int .u64 100, .int .u64 10])] (cD (.agg #[.int .u64 0, .int .u64 300, .int .u64 20]) Try.call32 (fun w hw => over_t 300 20 w) (mo0 5 [(7, .go (owns 0 0 1))] [] (fun γ4 => [(1, .pointer (some ⟨γ4 1, 0, none⟩))]) (fun γ4 L => bx (γ4 1) (#[.slice (some ⟨γ4 0, 0, none⟩) 2 2]) 24 :: bx (γ4 0) (#[.int .i64 1, .int .i64 1, .int .u64 0, .int .u64 100, .int .u64 10, .int .i64 2, .int .i64 2, .int .u64 0, .int .u64 300, .int .u64 20]) 35 :: L) (fun γ4 => on_ (ds_ (sq_ ?_))))))))))))
 refine at_any (by kernel_rfl) ?_
 refine any_cutX (V := (List Ob) × (Nat) × (Nat) × (Option Addr) × (Nat → Nat)) (fun ⟨Y67, c67, n67, q67, γ147⟩ => SlO 35 Y67 q67 n67 c67 ([(⟨1, 1, 0, 100, 10⟩ : Rn), (⟨2, 2, 0, 300, 20⟩ : Rn), (⟨3, 1, 0, 360, 30⟩ : Rn)] : List Rn) ∧ n67 = 3 ∧ n67 = (([(⟨1, 1, 0, 100, 10⟩ : Rn), (⟨2, 2, 0, 300, 20⟩ : Rn), (⟨3, 1, 0, 360, 30⟩ : Rn)] : List Rn)).length) 0 #[true, true, true, true, true, true, true, true, true, true] (fun ⟨Y67, c67, n67, q67, γ147⟩ => [(1, .pointer (some ⟨γ4 1, 0, none⟩)), (2, .pointer (some ⟨γ147 0, 0, none⟩)), (3, .int .i64 0)]) (fun ⟨Y67, c67, n67, q67, γ147⟩ => bx (γ147 0) (#[.slice q67 n67 c67]) 24 :: bx (γ4 1) (#[.slice (some ⟨γ4 0, 0, none⟩) 2 2]) 24 :: bx (γ4 0) (#[.int .i64 1, .int .i64 1, .int .u64 0, .int .u64 100, .int .u64 10, .int .i64 2, .int .i64 2, .int .u64 0, .int .u64 300, .int .u64 20]) 35 :: (Y67 ++ [])) ?_ (fun hmx10 => ?_)
 rotate_left
 ·
  refine any_cutX (V := (List Ob) × (Nat) × (Nat) × (Option Addr) × (Nat → Nat)) (fun ⟨Y67, c67, n67, q67, γ147⟩ => SlO 35 Y67 q67 n67 c67 ([(⟨1, 1, 0, 100, 10⟩ : Rn), (⟨2, 2, 0, 300, 20⟩ : Rn), (⟨3, 1, 0, 360, 30⟩ : Rn)] : List Rn) ∧ n67 = 3 ∧ n67 = (([(⟨1, 1, 0, 100, 10⟩ : Rn), (⟨2, 2, 0, 300, 20⟩ : Rn), (⟨3, 1, 0, 360, 30⟩ : Rn)] : List Rn)).length) 2 #[true, true, true, true, true, true, true, true, false, false] (fun ⟨Y67, c67, n67, q67, γ147⟩ => [(1, .pointer (some ⟨γ4 1, 0, none⟩)), (2, .pointer (some ⟨γ147 0, 0, none⟩)), (19, .agg #[.slice q67 n67 c67]), (20, .int .i64 0)]) (fun ⟨Y67, c67, n67, q67, γ147⟩ => bx (γ147 0) (#[.slice none 0 0]) 24 :: bx (γ4 1) (#[.slice (some ⟨γ4 0, 0, none⟩) 2 2]) 24 :: bx (γ4 0) (#[.int .i64 1, .int .i64 1, .int .u64 0, .int .u64 100, .int .u64 10, .int .i64 2, .int .i64 2, .int .u64 0, .int .u64 300, .int .u64 20]) 35 :: (Y67 ++ [])) ?_ (fun hmx9 => ?_)
  ·
   rintro ⟨Y67, c67, n67, q67, γ147⟩ ⟨hO67, hcn67, hl67⟩
   refine a1 8 rfl ?_
   refine mo0 1 [(8, .go (owns 0 0 1))] [1, 2, 20] (fun _ => []) (fun _ L => (L.set 0 (bx (γ147 0) (#[.slice q67 n67 c67]) 24))) (fun _ => ?_)
   refine od_ ?_
   refine tk (m := 0) [9] [] [1, 2] [(3, .int .i64 0)] ([]) #[true, true, true, true, true, true, true, true, true, true] al0 ?_
   exact wk (hmx10 (Y67, c67, n67, q67, γ147) ⟨hO67, hcn67, hl67⟩) [1, 2, 3] [[_], [_], [_], _] [0, 1, 2, 3] rfl rfl
  refine any_cutX (V := (List Ob) × (Nat) × (Nat) × (Option Addr)) (fun ⟨Y67, c67, n67, q67⟩ => SlO 35 Y67 q67 n67 c67 ([(⟨1, 1, 0, 100, 10⟩ : Rn), (⟨2, 2, 0, 300, 20⟩ : Rn), (⟨3, 1, 0, 360, 30⟩ : Rn)] : List Rn) ∧ n67 = 3 ∧ n67 = (([(⟨1, 1, 0, 100, 10⟩ : Rn), (⟨2, 2, 0, 300, 20⟩ : Rn), (⟨3, 1, 0, 360, 30⟩ : Rn)] : List Rn)).length) 3 #[true, true, true, true, true, true, true, false, false, false] (fun ⟨Y67, c67, n67, q67⟩ => [(1, .pointer (some ⟨γ4 1, 0, none⟩)), (19, .agg #[.slice q67 n67 c67]), (20, .int .i64 0)]) (fun ⟨Y67, c67, n67, q67⟩ => bx (γ4 1) (#[.slice (some ⟨γ4 0, 0, none⟩) 2 2]) 24 :: bx (γ4 0) (#[.int .i64 1, .int .i64 1, .int .u64 0, .int .u64 100, .int .u64 10, .int .i64 2, .int .i64 2, .int .u64 0, .int .u64 300, .int .u64 20]) 35 :: (Y67 ++ [])) ?_ (fun hmx8 => ?_)
  ·
   rintro ⟨Y67, c67, n67, q67⟩ ⟨hO67, hcn67, hl67⟩
   refine a1 7 rfl ?_
   refine mo0 1 [] [1, 19, 20] (fun γ147 => [(2, .pointer (some ⟨γ147 0, 0, none⟩))]) (fun γ147 L => bx (γ147 0) (#[.slice none 0 0]) 24 :: L) (fun γ147 => ?_)
   refine od_ ?_
   exact wk (hmx9 (Y67, c67, n67, q67, γ147) ⟨hO67, hcn67, hl67⟩) [1, 2, 19, 20] [[_], [_], [_], _] [0, 1, 2, 3] rfl rfl
  refine any_cutX (V := (Nat → Nat)) (fun γ147 => True) 6 #[true, true, true, false, false, false, false, true, false, false] (fun γ147 => [(1, .pointer (some ⟨γ4 1, 0, none⟩)), (2, .pointer (some ⟨γ147 0, 0, none⟩)), (15, .agg #[.slice (some ⟨γ4 0, 0, none⟩) 2 2]), (17, .agg #[.int .i64 3, .int .i64 1, .int .u64 0, .int .u64 0, .int .u64 30])]) (fun γ147 => [bx (γ147 0) (#[.slice none 0 0]) 24, bx (γ4 1) (#[.slice (some ⟨γ4 0, 0, none⟩) 2 2]) 24, bx (γ4 0) (#[.int .i64 1, .int .i64 1, .int .u64 0, .int .u64 100, .int .u64 10, .int .i64 2, .int .i64 2, .int .u64 0, .int .u64 300, .int .u64 20]) 35]) ?_ (fun hmx7 => ?_)
  ·
   rintro γ147 _
   refine a1 3 rfl ?_
   refine cP (fun v L' => ∃ q_ n_ c_ Y_, v = .tuple #[.agg #[.slice q_ n_ c_], .int .i64 0] ∧ L' = List.take 3 ([bx (γ147 0) (#[.slice none 0 0]) 24, bx (γ4 1) (#[.slice (some ⟨γ4 0, 0, none⟩) 2 2]) 24, bx (γ4 0) (#[.int .i64 1, .int .i64 1, .int .u64 0, .int .u64 100, .int .u64 10, .int .i64 2, .int .i64 2, .int .u64 0, .int .u64 300, .int .u64 20]) 35]) ++ (Y_ ++ List.drop 3 ([bx (γ147 0) (#[.slice none 0 0]) 24, bx (γ4 1) (#[.slice (some ⟨γ4 0, 0, none⟩) 2 2]) 24, bx (γ4 0) (#[.int .i64 1, .int .i64 1, .int .u64 0, .int .u64 100, .int .u64 10, .int .i64 2, .int .i64 2, .int .u64 0, .int .u64 300, .int .u64 20]) 35])) ∧ SlO 35 Y_ q_ n_ c_ ([(⟨1, 1, 0, 100, 10⟩ : Rn), (⟨2, 2, 0, 300, 20⟩ : Rn), (⟨3, 1, 0, 360, 30⟩ : Rn)] : List Rn)) Try.call28 (fun w hw => (join_t (some ⟨γ4 0, 0, none⟩) 2 2 [(⟨1, 1, 0, 100, 10⟩ : Rn), (⟨2, 2, 0, 300, 20⟩ : Rn)] (⟨3, 1, 0, 0, 30⟩ : Rn) 90 w (sv_row (hw.row 2 rfl) rfl) rfl (by decide) lit_U0 ⟨by decide, by decide, by decide, by decide, by constructor <;> decide⟩ (by decide)).mono fun e w' ⟨q_, n_, c_, Y_, he, hO, hb, hY⟩ => by rw [show joinV [(⟨1, 1, 0, 100, 10⟩ : Rn), (⟨2, 2, 0, 300, 20⟩ : Rn)] (⟨3, 1, 0, 0, 30⟩ : Rn) 90 = (([(⟨1, 1, 0, 100, 10⟩ : Rn), (⟨2, 2, 0, 300, 20⟩ : Rn), (⟨3, 1, 0, 360, 30⟩ : Rn)] : List Rn), 0) from by kernel_rfl] at he hO; exact ⟨_, _, he, ⟨q_, n_, c_, Y_, rfl, rfl, hO⟩, hw.join hb hY 3⟩) ?_
   rintro v67 L67 ⟨q67, n67, c67, Y67, rfl, rfl, hO67⟩
   have hl67 := hO67.len
   have hcn67 : n67 = 3 := hO67.len
   refine od_ ?_
   refine tk (m := 2) [4, 5, 6] [] [1, 2] [(19, .agg #[.slice q67 n67 c67]), (20, .int .i64 0)] ([]) #[true, true, true, true, true, true, true, true, false, false] al0 ?_
   exact wk (hmx9 (Y67, c67, n67, q67, γ147) ⟨hO67, hcn67, hl67⟩) [1, 2, 19, 20] [[_], [_], [_], _] [0, 1, 2, 3] rfl rfl
  refine any_cutX (V := (Nat → Nat)) (fun γ147 => True) 7 #[false, true, true, false, false, false, false, true, false, false] (fun γ147 => [(1, .pointer (some ⟨γ4 1, 0, none⟩)), (2, .pointer (some ⟨γ147 0, 0, none⟩)), (17, .agg #[.int .i64 3, .int .i64 1, .int .u64 0, .int .u64 0, .int .u64 30])]) (fun γ147 => [bx (γ147 0) (#[.slice none 0 0]) 24, bx (γ4 1) (#[.slice (some ⟨γ4 0, 0, none⟩) 2 2]) 24, bx (γ4 0) (#[.int .i64 1, .int .i64 1, .int .u64 0, .int .u64 100, .int .u64 10, .int .i64 2, .int .i64 2, .int .u64 0, .int .u64 300, .int .u64 20]) 35]) ?_ (fun hmx6 => ?_)
  ·
   rintro γ147 _
   refine a1 0 rfl ?_
   refine qo0 1 [(0, .go (owns 1 0 1))] [1, 2, 17] [(15, .agg #[.slice (some ⟨γ4 0, 0, none⟩) 2 2])] ?_
   refine od_ ?_
   exact wk (hmx7 γ147 trivial) [1, 2, 15, 17] [[_], [_], [_]] [0, 1, 2] rfl rfl
  refine any_cutX (V := Unit) (fun _ => True) 7 #[true, true, true, false, false, false, false, false, false, false] (fun _ => [(1, .pointer (some ⟨γ4 1, 0, none⟩)), (15, .agg #[.slice (some ⟨γ4 0, 0, none⟩) 2 2]), (17, .agg #[.int .i64 3, .int .i64 1, .int .u64 0, .int .u64 0, .int .u64 30])]) (fun _ => [bx (γ4 1) (#[.slice (some ⟨γ4 0, 0, none⟩) 2 2]) 24, bx (γ4 0) (#[.int .i64 1, .int .i64 1, .int .u64 0, .int .u64 100, .int .u64 10, .int .i64 2, .int .i64 2, .int .u64 0, .int .u64 300, .int .u64 20]) 35]) ?_ (fun hmx5 => ?_)
  ·
   rintro _ _
   refine any_fork [3, 7] (by kernel_rfl) (by simp) (each_cons _ rfl ?_ (each_cons _ rfl ?_ (each_nil)))
   ·
    refine cP (fun v L' => ∃ q_ n_ c_ Y_, v = .tuple #[.agg #[.slice q_ n_ c_], .int .i64 0] ∧ L' = List.take 2 ([bx (γ4 1) (#[.slice (some ⟨γ4 0, 0, none⟩) 2 2]) 24, bx (γ4 0) (#[.int .i64 1, .int .i64 1, .int .u64 0, .int .u64 100, .int .u64 10, .int .i64 2, .int .i64 2, .int .u64 0, .int .u64 300, .int .u64 20]) 35]) ++ (Y_ ++ List.drop 2 ([bx (γ4 1) (#[.slice (some ⟨γ4 0, 0, none⟩) 2 2]) 24, bx (γ4 0) (#[.int .i64 1, .int .i64 1, .int .u64 0, .int .u64 100, .int .u64 10, .int .i64 2, .int .i64 2, .int .u64 0, .int .u64 300, .int .u64 20]) 35])) ∧ SlO 35 Y_ q_ n_ c_ ([(⟨1, 1, 0, 100, 10⟩ : Rn), (⟨2, 2, 0, 300, 20⟩ : Rn), (⟨3, 1, 0, 360, 30⟩ : Rn)] : List Rn)) Try.call28 (fun w hw => (join_t (some ⟨γ4 0, 0, none⟩) 2 2 [(⟨1, 1, 0, 100, 10⟩ : Rn), (⟨2, 2, 0, 300, 20⟩ : Rn)] (⟨3, 1, 0, 0, 30⟩ : Rn) 90 w (sv_row (hw.row 1 rfl) rfl) rfl (by decide) lit_U0 ⟨by decide, by decide, by decide, by decide, by constructor <;> decide⟩ (by decide)).mono fun e w' ⟨q_, n_, c_, Y_, he, hO, hb, hY⟩ => by rw [show joinV [(⟨1, 1, 0, 100, 10⟩ : Rn), (⟨2, 2, 0, 300, 20⟩ : Rn)] (⟨3, 1, 0, 0, 30⟩ : Rn) 90 = (([(⟨1, 1, 0, 100, 10⟩ : Rn), (⟨2, 2, 0, 300, 20⟩ : Rn), (⟨3, 1, 0, 360, 30⟩ : Rn)] : List Rn), 0) from by kernel_rfl] at he hO; exact ⟨_, _, he, ⟨q_, n_, c_, Y_, rfl, rfl, hO⟩, hw.join hb hY 2⟩) ?_
    rintro v67 L67 ⟨q67, n67, c67, Y67, rfl, rfl, hO67⟩
    have hl67 := hO67.len
    have hcn67 : n67 = 3 := hO67.len
    refine od_ ?_
    refine tk (m := 3) [4, 5, 6] [] [1] [(19, .agg #[.slice q67 n67 c67]), (20, .int .i64 0)] ([]) #[true, true, true, true, true, true, true, false, false, false] al0 ?_
    exact wk (hmx8 (Y67, c67, n67, q67) ⟨hO67, hcn67, hl67⟩) [1, 19, 20] [[_], [_], _] [0, 1, 2] rfl rfl
   ·
    refine mo0 1 [] [1, 15, 17] (fun γ147 => [(2, .pointer (some ⟨γ147 0, 0, none⟩))]) (fun γ147 L => bx (γ147 0) (#[.slice none 0 0]) 24 :: L) (fun γ147 => ?_)
    refine od_ ?_
    exact wk (hmx7 γ147 trivial) [1, 2, 15, 17] [[_], [_], [_]] [0, 1, 2] rfl rfl
  refine any_cutX (V := (Nat → Nat)) (fun γ147 => True) 8 #[true, false, false, false, false, false, false, true, false, false] (fun γ147 => [(1, .pointer (some ⟨γ4 1, 0, none⟩)), (2, .pointer (some ⟨γ147 0, 0, none⟩)), (15, .agg #[.slice (some ⟨γ4 0, 0, none⟩) 2 2])]) (fun γ147 => [bx (γ147 0) (#[.slice none 0 0]) 24, bx (γ4 1) (#[.slice (some ⟨γ4 0, 0, none⟩) 2 2]) 24, bx (γ4 0) (#[.int .i64 1, .int .i64 1, .int .u64 0, .int .u64 100, .int .u64 10, .int .i64 2, .int .i64 2, .int .u64 0, .int .u64 300, .int .u64 20]) 35]) ?_ (fun hmx4 => ?_)
  ·
   rintro γ147 _
   refine a1 1 rfl ?_
   refine cD (.agg #[.int .u64 0, .int .u64 0, .int .u64 30]) Try.call32 (fun w hw => over_t 0 30 w) ?_
   refine od_ ?_
   refine tk (m := 6) [2] [] [1, 2, 15] [(17, .agg #[.int .i64 3, .int .i64 1, .int .u64 0, .int .u64 0, .int .u64 30])] ([]) #[true, true, true, false, false, false, false, true, false, false] al0 ?_
   exact wk (hmx7 γ147 trivial) [1, 2, 15, 17] [[_], [_], [_]] [0, 1, 2] rfl rfl
  refine any_cutX (V := Unit) (fun _ => True) 8 #[false, true, true, false, false, false, false, false, false, false] (fun _ => [(1, .pointer (some ⟨γ4 1, 0, none⟩)), (17, .agg #[.int .i64 3, .int .i64 1, .int .u64 0, .int .u64 0, .int .u64 30])]) (fun _ => [bx (γ4 1) (#[.slice (some ⟨γ4 0, 0, none⟩) 2 2]) 24, bx (γ4 0) (#[.int .i64 1, .int .i64 1, .int .u64 0, .int .u64 100, .int .u64 10, .int .i64 2, .int .i64 2, .int .u64 0, .int .u64 300, .int .u64 20]) 35]) ?_ (fun hmx3 => ?_)
  ·
   rintro _ _
   refine any_fork [0, 7] (by kernel_rfl) (by simp) (each_cons _ rfl ?_ (each_cons _ rfl ?_ (each_nil)))
   ·
    refine qo0 1 [(0, .go (owns 0 0 1))] [1, 17] [(15, .agg #[.slice (some ⟨γ4 0, 0, none⟩) 2 2])] ?_
    refine od_ ?_
    exact wk (hmx5 () trivial) [1, 15, 17] [[_], [_]] [0, 1] rfl rfl
   ·
    refine mo0 1 [] [1, 17] (fun γ147 => [(2, .pointer (some ⟨γ147 0, 0, none⟩))]) (fun γ147 L => bx (γ147 0) (#[.slice none 0 0]) 24 :: L) (fun γ147 => ?_)
    refine od_ ?_
    exact wk (hmx6 γ147 trivial) [1, 2, 17] [[_], [_], [_]] [0, 1, 2] rfl rfl
  refine any_cutX (V := (Nat → Nat)) (fun γ147 => True) 9 #[false, false, false, false, false, false, false, true, false, false] (fun γ147 => [(1, .pointer (some ⟨γ4 1, 0, none⟩)), (2, .pointer (some ⟨γ147 0, 0, none⟩))]) (fun γ147 => [bx (γ147 0) (#[.slice none 0 0]) 24, bx (γ4 1) (#[.slice (some ⟨γ4 0, 0, none⟩) 2 2]) 24, bx (γ4 0) (#[.int .i64 1, .int .i64 1, .int .u64 0, .int .u64 100, .int .u64 10, .int .i64 2, .int .i64 2, .int .u64 0, .int .u64 300, .int .u64 20]) 35]) ?_ (fun hmx2 => ?_)
  ·
   rintro γ147 _
   refine any_fork [0, 1] (by kernel_rfl) (by simp) (each_cons _ rfl ?_ (each_cons _ rfl ?_ (each_nil)))
   ·
    refine qo0 1 [(0, .go (owns 1 0 1))] [1, 2] [(15, .agg #[.slice (some ⟨γ4 0, 0, none⟩) 2 2])] ?_
    refine od_ ?_
    exact wk (hmx4 γ147 trivial) [1, 2, 15] [[_], [_], [_]] [0, 1, 2] rfl rfl
   ·
    refine cD (.agg #[.int .u64 0, .int .u64 0, .int .u64 30]) Try.call32 (fun w hw => over_t 0 30 w) ?_
    refine od_ ?_
    refine tk (m := 7) [2] [] [1, 2] [(17, .agg #[.int .i64 3, .int .i64 1, .int .u64 0, .int .u64 0, .int .u64 30])] ([]) #[false, true, true, false, false, false, false, true, false, false] al0 ?_
    exact wk (hmx6 γ147 trivial) [1, 2, 17] [[_], [_], [_]] [0, 1, 2] rfl rfl
  refine any_cutX (V := Unit) (fun _ => True) 9 #[true, false, false, false, false, false, false, false, false, false] (fun _ => [(1, .pointer (some ⟨γ4 1, 0, none⟩)), (15, .agg #[.slice (some ⟨γ4 0, 0, none⟩) 2 2])]) (fun _ => [bx (γ4 1) (#[.slice (some ⟨γ4 0, 0, none⟩) 2 2]) 24, bx (γ4 0) (#[.int .i64 1, .int .i64 1, .int .u64 0, .int .u64 100, .int .u64 10, .int .i64 2, .int .i64 2, .int .u64 0, .int .u64 300, .int .u64 20]) 35]) ?_ (fun hmx1 => ?_)
  ·
   rintro _ _
   refine any_fork [1, 7] (by kernel_rfl) (by simp) (each_cons _ rfl ?_ (each_cons _ rfl ?_ (each_nil)))
   ·
    refine cD (.agg #[.int .u64 0, .int .u64 0, .int .u64 30]) Try.call32 (fun w hw => over_t 0 30 w) ?_
    refine od_ ?_
    refine tk (m := 7) [2] [] [1, 15] [(17, .agg #[.int .i64 3, .int .i64 1, .int .u64 0, .int .u64 0, .int .u64 30])] ([]) #[true, true, true, false, false, false, false, false, false, false] al0 ?_
    exact wk (hmx5 () trivial) [1, 15, 17] [[_], [_]] [0, 1] rfl rfl
   ·
    refine mo0 1 [] [1, 15] (fun γ147 => [(2, .pointer (some ⟨γ147 0, 0, none⟩))]) (fun γ147 L => bx (γ147 0) (#[.slice none 0 0]) 24 :: L) (fun γ147 => ?_)
    refine od_ ?_
    exact wk (hmx4 γ147 trivial) [1, 2, 15] [[_], [_], [_]] [0, 1, 2] rfl rfl
  refine any_fork [0, 1, 7] (by kernel_rfl) (by simp) (each_cons _ rfl ?_ (each_cons _ rfl ?_ (each_cons _ rfl ?_ (each_nil))))
  ·
   refine qo0 1 [(0, .go (owns 0 0 1))] [1] [(15, .agg #[.slice (some ⟨γ4 0, 0, none⟩) 2 2])] ?_
   refine od_ ?_
   exact wk (hmx1 () trivial) [1, 15] [[_], [_]] [0, 1] rfl rfl
  ·
   refine cD (.agg #[.int .u64 0, .int .u64 0, .int .u64 30]) Try.call32 (fun w hw => over_t 0 30 w) ?_
   refine od_ ?_
   refine tk (m := 8) [2] [] [1] [(17, .agg #[.int .i64 3, .int .i64 1, .int .u64 0, .int .u64 0, .int .u64 30])] ([]) #[false, true, true, false, false, false, false, false, false, false] al0 ?_
   exact wk (hmx3 () trivial) [1, 17] [[_], [_]] [0, 1] rfl rfl
  ·
   refine mo0 1 [] [1] (fun γ147 => [(2, .pointer (some ⟨γ147 0, 0, none⟩))]) (fun γ147 L => bx (γ147 0) (#[.slice none 0 0]) 24 :: L) (fun γ147 => ?_)
   refine od_ ?_
   exact wk (hmx2 γ147 trivial) [1, 2] [[_], [_], [_]] [0, 1, 2] rfl rfl
 rintro ⟨Y67, c67, n67, q67, γ147⟩ ⟨hO67, hcn67, hl67⟩
 refine any_nil (by kernel_rfl) ?_
 refine ds_ (sq_ (ao_ (mo0 2 [(0, .go (owns 1 0 1))] [2, 3] (fun γ260 => [(22, .agg #[.slice (some ⟨γ4 0, 0, none⟩) 2 2]), (23, .slice (some ⟨γ260 0, 0, none⟩) 1 1)]) (fun γ260 L => bx (γ260 0) (#[.int .i64 2]) 3 :: L) (fun γ260 => cP (fun v L' => ∃ q_ n_ c_ Y_, v = .tuple #[.agg #[.slice q_ n_ c_], .int .i64 0] ∧ L' = List.take 4 (bx (γ260 0) (#[.int .i64 2]) 3 :: bx (γ147 0) (#[.slice q67 n67 c67]) 24 :: bx (γ4 1) (#[.slice (some ⟨γ4 0, 0, none⟩) 2 2]) 24 :: bx (γ4 0) (#[.int .i64 1, .int .i64 1, .int .u64 0, .int .u64 100, .int .u64 10, .int .i64 2, .int .i64 2, .int .u64 0, .int .u64 300, .int .u64 20]) 35 :: (Y67 ++ [])) ++ (Y_ ++ List.drop 4 (bx (γ260 0) (#[.int .i64 2]) 3 :: bx (γ147 0) (#[.slice q67 n67 c67]) 24 :: bx (γ4 1) (#[.slice (some ⟨γ4 0, 0, none⟩) 2 2]) 24 :: bx (γ4 0) (#[.int .i64 1, .int .i64 1, .int .u64 0, .int .u64 100, .int .u64 10, .int .i64 2, .int .i64 2, .int .u64 0, .int .u64 300, .int .u64 20]) 35 :: (Y67 ++ []))) ∧ SlO 35 Y_ q_ n_ c_ ([(⟨1, 1, 0, 100, 10⟩ : Rn), (⟨2, 2, 0, 320, 20⟩ : Rn)] : List Rn)) Try.call16 (fun w hw => (run_t (some ⟨γ4 0, 0, none⟩) 2 2 [(⟨1, 1, 0, 100, 10⟩ : Rn), (⟨2, 2, 0, 300, 20⟩ : Rn)] (some ⟨γ260 0, 0, none⟩) 1 1 [2] 10 w (sv_row (hw.row 3 rfl) rfl) rfl (by decide) lit_U0 (sv_row (hw.row 0 rfl) rfl) rfl (by decide)).mono fun e w' ⟨q_, n_, c_, Y_, he, hO, hb, hY⟩ => by rw [show runV [(⟨1, 1, 0, 100, 10⟩ : Rn), (⟨2, 2, 0, 300, 20⟩ : Rn)] [2] 10 = (([(⟨1, 1, 0, 100, 10⟩ : Rn), (⟨2, 2, 0, 320, 20⟩ : Rn)] : List Rn), 0) from by kernel_rfl] at he hO; exact ⟨_, _, he, ⟨q_, n_, c_, Y_, rfl, rfl, hO⟩, hw.join hb hY 4⟩) ?_))))
 rintro v261 L261 ⟨q261, n261, c261, Y261, rfl, rfl, hO261⟩
 have hl261 := hO261.len
 have hcn261 : n261 = 2 := hO261.len
 refine mo0 6 [(7, .go (owns 0 0 1))] [2, 3] (fun γ262 => [(4, .pointer (some ⟨γ262 0, 0, none⟩)), (5, .int .i64 0)]) (fun γ262 L => bx (γ262 0) (#[.slice q261 n261 c261]) 24 :: L) (fun γ262 => on_ (ds_ (sq_ (ao_ (qo0 1 [(0, .go (owns 2 0 1))] [3, 4, 5] [(28, .agg #[.slice q67 n67 c67])] (cD (.tuple #[.agg #[.int .i64 3, .int .i64 1, .int .u64 0, .int .u64 360, .int .u64 30], .bool true]) Try.call11 (fun w hw => by have := getq_t q67 n67 c67 ([(⟨1, 1, 0, 100, 10⟩ : Rn), (⟨2, 2, 0, 300, 20⟩ : Rn), (⟨3, 1, 0, 360, 30⟩ : Rn)] : List Rn) 3 w (hO67.atN (A := (_ :: _ :: _ :: _ :: _ :: Y261)) hw) hO67.len (by omega) lit_U1 (by decide) (by decide); rw [show getQ ([(⟨1, 1, 0, 100, 10⟩ : Rn), (⟨2, 2, 0, 300, 20⟩ : Rn), (⟨3, 1, 0, 360, 30⟩ : Rn)] : List Rn) 3 = some (⟨3, 1, 0, 360, 30⟩ : Rn) from by kernel_rfl] at this; exact this) (mo0 6 [(6, .go (owns 0 0 5))] [3, 4, 5] (fun γ264 => [(6, .pointer (some ⟨γ264 0, 0, none⟩)), (7, .bool true)]) (fun γ264 L => bx (γ264 0) (#[.int .i64 3, .int .i64 1, .int .u64 0, .int .u64 360, .int .u64 30]) 35 :: L) (fun γ264 => on_ (ds_ (sq_ ?_))))))))))
 refine at_calm rfl (by kernel_rfl) (by kernel_rfl) ?_
 refine cm 12 [(11, .go (owns 0 2 3))] [4] [(41, .bool true), (43, .agg #[.int .u64 0, .int .u64 360, .int .u64 30])] ([]) (by kernel_rfl) rfl al0 ?_
 refine cK (.agg #[.int .u64 0, .int .u64 360, .int .u64 30]) Try.call32 (fun w hw => over_t 360 30 w) ?_
 have hln267 := hO261.len
 obtain ⟨g267, cs267, rfl, rfl, hOw267⟩ := hO261.rowOf (i := 1) (by omega)
 refine cm 14 [(13, .eqs true), (17, .go (owns 1 0 1)), (19, .yes), (23, .go (owns 1 0 1)), (24, .at g267 0 1), (26, .go (ownps 6 (0 + 1 * 5 + 2) [.int .u64 0, .int .u64 320, .int .u64 20]))] [] [(53, .bool true), (58, .agg #[.int .u64 0, .int .u64 320, .int .u64 20])] ([EqRun Try.prog .eql 33 (.tmp 43) (.tmp 44) (.agg #[.int .u64 0, .int .u64 360, .int .u64 30]) (.agg #[.int .u64 0, .int .u64 360, .int .u64 30]) true] ++ ([((n261 : Nat) : Int) = (2 : Int)] ++ ([(some ⟨g267, 0, none⟩ : Option Addr) = some ⟨g267, 0, none⟩, 1 = ((1 : Nat) : Int), 1 < n261] ++ (acellsP cs267 (0 + 1 * 5 + 2) [.int .u64 0, .int .u64 320, .int .u64 20])))) (by kernel_rfl) rfl (alA (al1 (fq_eq_t (a := (⟨0, 360, 30⟩ : Fq)) (b := (⟨0, 360, 30⟩ : Fq)) rfl)) (alA (al1 (by rw [hl261]; rfl)) (alA (al2 rfl (al2 rfl (al1 (by omega)))) (rda_part (hOw267.rdx hO261.len (show ([(⟨1, 1, 0, 100, 10⟩ : Rn), (⟨2, 2, 0, 320, 20⟩ : Rn)] : List Rn)[1]? = some (⟨2, 2, 0, 320, 20⟩ : Rn) from rfl)) 2 _ rfl)))) ?_
 refine cK (.agg #[.int .u64 0, .int .u64 320, .int .u64 20]) Try.call32 (fun w hw => over_t 320 20 w) ?_
 refine cm 3 [(28, .eqs true)] [] [(0, .bool true)] ([EqRun Try.prog .eql 33 (.tmp 58) (.tmp 59) (.agg #[.int .u64 0, .int .u64 320, .int .u64 20]) (.agg #[.int .u64 0, .int .u64 320, .int .u64 20]) true]) (by kernel_rfl) rfl (al1 (fq_eq_t (a := (⟨0, 320, 20⟩ : Fq)) (b := (⟨0, 320, 20⟩ : Fq)) rfl)) ?_
 refine calm_nil' ?_
 refine ds_ (rt ([]) (.bool true) ?_)
 exact fun w' hw => ⟨rfl, hw.below⟩
end Go.Proofs.Ytnhkecfapohlgaa

/-! What is shortened, what is named; plain. -/
namespace Go.Proofs.Ytnhkecfapohlgaa
open Go Go.RowKit

theorem SlO.asE {α : Type} [Enc α] {T : TypeId} {Y : List Ob} {p : Option Addr} {n cap : Nat} {l l' : List α} (h : SlO T Y p n cap l) (e : l = l') : SlO T Y p n cap l' := e ▸ h
theorem take_min {α : Type} {l : List α} {n : Nat} (h : n = l.length) : l.take (min n 17) = l.take 17 := by
  by_cases h2 : n ≤ 17
  · rw [Nat.min_eq_left h2, List.take_of_length_le (by omega), List.take_of_length_le (by omega)]
  · rw [Nat.min_eq_right (by omega)]
theorem take_U {ts : List Rn} {k : Nat} (hU : ∀ r ∈ ts, r.U) : ∀ r ∈ ts.take k, r.U := fun r hr => hU r (List.mem_of_mem_take hr)
def inL (l : List Int) (r : Rn) : Bool := decide (r.id ∈ l)
/-- The numbers that an op names, of those that are there. -/
def namedV (ts : List Rn) (l : List Int) : List Int := (ts.filter (inL l)).map Rn.id
section
variable {l : List Int} {x : Rn} {k : Int} {j : Nat}
theorem inL_yes (hk : l[j]? = some k) (h : k = x.id) : inL l x = true := decide_eq_true (h ▸ List.mem_of_getElem? hk)
theorem inL_no (h : ∀ t y, t < j → l[t]? = some y → ¬ y = x.id) (hj : l.length ≤ j) : inL l x = false := decide_eq_false fun hm => by
  obtain ⟨i, hi⟩ := List.mem_iff_getElem?.1 hm
  exact h i _ (by have := (List.getElem?_eq_some_iff.1 hi).1; omega) hi rfl
theorem seek_on (h : ∀ t y, t < j → l[t]? = some y → ¬ y = k) {z : Int} (hz : l[j]? = some z) (hn : ¬ z = k) : ∀ t y, t < j + 1 → l[t]? = some y → ¬ y = k := by
  intro t y ht hy
  by_cases e : t = j
  · subst e; rw [hz] at hy; cases hy; exact hn
  · exact h t y (by omega) hy
end
end Go.Proofs.Ytnhkecfapohlgaa

/-! What is shortened, what is named. -/
namespace Go.Proofs.Ytnhkecfapohlgaa
open Go Go.RowKit

set_option maxRecDepth 100000 in
theorem rcopy_t (p : Option Addr) (n cap : Nat) (ts : List Rn) (w : World)
 (hts : Sv w p ts) (hn : n = ts.length) (hb : n ≤ 1000)
 : Calls Try.prog 33 #[.agg #[.slice p n cap]] w fun e w' => ∃ q' n' c' Y, e = .returned (.agg #[.slice q' n' c']) ∧ SlO 35 Y q' n' c' ts ∧ Below w.heap.size w w' ∧ Hs w Y w' := by
 refine enter (Hs.start w) Try.func33 rfl Try.ntmps33 rfl (sq_ (ma0 [] [] (fun γ1 => [(1, .pointer (some ⟨γ1 0, 0, none⟩)), (2, .pointer (some ⟨γ1 1, 0, none⟩))]) (fun γ1 L => bx (γ1 1) (#[.slice none 0 0]) 24 :: bx (γ1 0) (#[.slice p n cap]) 24 :: L) (fun γ1 => ds_ (sq_ (ao_ (mo0 3 [(2, .go (owns 2 0 1))] [2] (fun γ2 => [(3, .slice (some ⟨γ2 0, 0, none⟩) 0 0), (5, .slice p n cap)]) (fun γ2 L => bx (γ2 0) (#[]) 35 :: L) (fun γ2 => ops_append (α := Rn) [bx (γ1 1) (#[.slice none 0 0]) 24, bx (γ1 0) (#[.slice p n cap]) 24] ([bx (γ2 0) (#[]) 35]) ([]) (mvE rfl) rfl (by kernel_rfl) (by kernel_rfl) (p := (some ⟨γ2 0, 0, none⟩)) (n := 0) (cap := 0) (m := n) (yv := .slice p n cap) (by kernel_rfl) (by kernel_rfl) (T := 35) (by_ := 40) (by kernel_rfl) ([]) ts (SlO.lit (by rfl) (by rfl) (by simp [maxLen])) (fun w hw => src_svn Try.underlying22 (hts.kept hw.below) hn) hn (by have hmx : maxLen = 9223372036854775807 := rfl; omega) (by have hmx : maxLen = 9223372036854775807 := rfl; omega) (fun Y3 p3 cap3 hO3 => mo0 2 [(5, .go (owns 0 0 1))] [2] (fun _ => []) (fun _ L => (L.set 0 (bx (γ1 1) (#[.slice p3 (0 + n) cap3]) 24))) (fun _ => on_ (ds_ (rt (owns 0 0 1) (.agg #[.slice p3 (0 + n) cap3]) ?_)))))))))))
 exact fun w' hw => ⟨_, _, _, _, rfl, SlO.asE hO3 (by rw [List.nil_append]), hw.below, one_tail (Hs.pick [[bx (γ1 1) (#[.slice p3 (0 + n) cap3]) 24], [bx (γ1 0) (#[.slice p n cap]) 24], Y3] [2] [0, 1] (by kernel_rfl) hw)⟩

set_option maxRecDepth 100000 in
theorem short_t (p : Option Addr) (n cap : Nat) (ts : List Rn) (w : World)
 (hts : Sv w p ts) (hn : n = ts.length) (hcp : n ≤ cap) (hb : n ≤ 9223372036854775807)
 : Calls Try.prog 10 #[.agg #[.slice p n cap]] w fun e w' => ∃ q' n' c' Y, e = .returned (.agg #[.slice q' n' c']) ∧ SlO 35 Y q' n' c' (ts.take 17) ∧ Below w.heap.size w w' ∧ Hs w Y w' := by
 refine enter (Hs.start w) Try.func10 rfl Try.ntmps10 rfl (sq_ (ma0 [] [] (fun γ1 => [(1, .pointer (some ⟨γ1 0, 0, none⟩)), (2, .pointer (some ⟨γ1 1, 0, none⟩))]) (fun γ1 L => bx (γ1 1) (#[.slice none 0 0]) 24 :: bx (γ1 0) (#[.slice p n cap]) 24 :: L) (fun γ1 => ds_ (sq_ (ao_ (qo 8 [(1, .go (owns 1 0 1)), (3, .go (owns 1 0 1)), (6, .sl (.slice p (min n 17) cap))] [2] [(10, .agg #[.slice p (min n 17) cap])] ([SlRun Try.prog 22 (.slice p n cap) none (some (.int .i64 (if (17 : Int) < ((n : Nat) : Int) then 17 else (n : Nat)))) none (.slice p (min n 17) cap)]) (al1 (by rw [min_if17]; exact slE_hi (P := Try.prog) (h := (min n 17)) (T := 22) (e := 35) (k := 5) (by_ := 40) (by kernel_rfl) (by omega))) (cP (fun v L' => ∃ q_ n_ c_ Y_, v = .agg #[.slice q_ n_ c_] ∧ L' = List.take 2 ([bx (γ1 1) (#[.slice none 0 0]) 24, bx (γ1 0) (#[.slice p n cap]) 24]) ++ (Y_ ++ List.drop 2 ([bx (γ1 1) (#[.slice none 0 0]) 24, bx (γ1 0) (#[.slice p n cap]) 24])) ∧ SlO 35 Y_ q_ n_ c_ (ts.take (min n 17))) Try.call33 (fun w hw => (rcopy_t p (min n 17) cap (ts.take (min n 17)) w ((hts.kept hw.below).take (min n 17)) (by rw [List.length_take]; omega) (by omega)).mono fun e w' ⟨q_, n_, c_, Y_, he, hO, hb, hY⟩ => ⟨_, _, he, ⟨q_, n_, c_, Y_, rfl, rfl, hO⟩, hw.join hb hY 2⟩) ?_)))))))
 rintro v3 L3 ⟨q3, n3, c3, Y3, rfl, rfl, hO3⟩
 refine mo0 1 [(9, .go (owns 0 0 1))] [2] (fun _ => []) (fun _ L => (L.set 0 (bx (γ1 1) (#[.slice q3 n3 c3]) 24))) (fun _ => on_ (ds_ (rt (owns 0 0 1) (.agg #[.slice q3 n3 c3]) ?_)))
 exact fun w' hw => ⟨_, _, _, _, rfl, SlO.asE hO3 (take_min hn), hw.below, one_tail (Hs.pick [[bx (γ1 1) (#[.slice q3 n3 c3]) 24], [bx (γ1 0) (#[.slice p n cap]) 24], Y3] [2] [0, 1] (by kernel_rfl) hw)⟩

set_option maxRecDepth 100000 in
theorem ids_t (pi : Option Addr) (m capi : Nat) (il : List Int) (w : World)
 (hil : Sv w pi il) (hmi : m = il.length) (hcpi : m ≤ capi) (hbi : m ≤ 9223372036854775807)
 : Calls Try.prog 44 #[.slice pi m capi] w fun e w' => ∃ q' n' c' Y, e = .returned (.slice q' n' c') ∧ SlO 3 Y q' n' c' (il.take 17) ∧ Below w.heap.size w w' ∧ Hs w Y w' := by
 refine enter (Hs.start w) Try.func44 rfl Try.ntmps44 rfl (sq_ (qa0 [] [0] [] (ds_ (sq_ (ao_ (mo 6 [(5, .sl (.slice pi (min m 17) capi))] [] (fun γ2 => [(3, .slice (some ⟨γ2 0, 0, none⟩) 0 0), (8, .slice pi (min m 17) capi)]) (fun γ2 L => bx (γ2 0) (#[]) 3 :: L) (fun γ2 => [SlRun Try.prog 41 (.slice pi m capi) none (some (.int .i64 (if (17 : Int) < ((m : Nat) : Int) then 17 else (m : Nat)))) none (.slice pi (min m 17) capi)]) (fun γ2 => (al1 (by rw [min_if17]; exact slE_hi (P := Try.prog) (h := (min m 17)) (T := 41) (e := 3) (k := 1) (by_ := 8) (by kernel_rfl) (by omega)))) (fun γ2 => ops_append (α := Int) [] ([bx (γ2 0) (#[]) 3]) ([]) (mvE rfl) rfl (by kernel_rfl) (by kernel_rfl) (p := (some ⟨γ2 0, 0, none⟩)) (n := 0) (cap := 0) (m := (min m 17)) (yv := .slice pi (min m 17) capi) (by kernel_rfl) (by kernel_rfl) (T := 3) (by_ := 8) (by kernel_rfl) ([]) (il.take (min m 17)) (SlO.lit (by rfl) (by rfl) (by simp [maxLen])) (fun w hw => src_svn Try.underlying41 ((hil.kept hw.below).take (min m 17)) (by rw [List.length_take]; omega)) (by rw [List.length_take]; omega) (by have hmx : maxLen = 9223372036854775807 := rfl; omega) (by have hmx : maxLen = 9223372036854775807 := rfl; omega) (fun Y3 p3 cap3 hO3 => qo0 1 [] [] [(2, .slice p3 (0 + (min m 17)) cap3)] (on_ (ds_ (rt ([]) (.slice p3 (0 + (min m 17)) cap3) ?_)))))))))))
 exact fun w' hw => ⟨_, _, _, _, rfl, SlO.asE hO3 (by rw [List.nil_append, take_min hmi]), hw.below, one_tail (Hs.pick [Y3] [0] [] (by kernel_rfl) hw)⟩

set_option maxRecDepth 100000 in
theorem named_t (pi : Option Addr) (m capi : Nat) (il : List Int) (p : Option Addr) (n cap : Nat) (ts : List Rn) (w : World)
 (hil : Sv w pi il) (hmi : m = il.length) (hcpi : m ≤ capi) (hbi : m ≤ 9223372036854775807)
 (hts : Sv w p ts) (hn : n = ts.length) (hb : n ≤ 1000)
 : Calls Try.prog 15 #[.agg #[.int .i64 0, .int .i64 0, .int .i64 0, .int .u64 0, .int .u64 0, .int .u64 0, .int .u64 0, .slice pi m capi, .bool true, .int .i64 0, .int .u64 0, .int .i64 0], .agg #[.slice p n cap]] w fun e w' => ∃ q' n' c' Y, e = .returned (.slice q' n' c') ∧ SlO 3 Y q' n' c' (namedV ts (il.take 17)) ∧ Below w.heap.size w w' ∧ Hs w Y w' := by
 refine enter (Hs.start w) Try.func15 rfl Try.ntmps15 rfl (sq_ (ma0 [] [] (fun γ1 => [(2, .pointer (some ⟨γ1 0, 0, none⟩)), (3, .pointer (some ⟨γ1 1, 0, none⟩))]) (fun γ1 L => bx (γ1 1) (#[.slice p n cap]) 24 :: bx (γ1 0) (#[.int .i64 0, .int .i64 0, .int .i64 0, .int .u64 0, .int .u64 0, .int .u64 0, .int .u64 0, .slice pi m capi, .bool true, .int .i64 0, .int .u64 0, .int .i64 0]) 48 :: L) (fun γ1 => ds_ (sq_ (ao_ (qo0 2 [(1, .go (owns 1 7 1))] [2, 3] [(12, .slice pi m capi)] (cP (fun v L' => ∃ q_ n_ c_ Y_, v = .slice q_ n_ c_ ∧ L' = List.take 2 ([bx (γ1 1) (#[.slice p n cap]) 24, bx (γ1 0) (#[.int .i64 0, .int .i64 0, .int .i64 0, .int .u64 0, .int .u64 0, .int .u64 0, .int .u64 0, .slice pi m capi, .bool true, .int .i64 0, .int .u64 0, .int .i64 0]) 48]) ++ (Y_ ++ List.drop 2 ([bx (γ1 1) (#[.slice p n cap]) 24, bx (γ1 0) (#[.int .i64 0, .int .i64 0, .int .i64 0, .int .u64 0, .int .u64 0, .int .u64 0, .int .u64 0, .slice pi m capi, .bool true, .int .i64 0, .int .u64 0, .int .i64 0]) 48])) ∧ SlO 3 Y_ q_ n_ c_ (il.take 17)) Try.call44 (fun w hw => (ids_t pi m capi il w (hil.kept hw.below) hmi hcpi hbi).mono fun e w' ⟨q_, n_, c_, Y_, he, hO, hb, hY⟩ => ⟨_, _, he, ⟨q_, n_, c_, Y_, rfl, rfl, hO⟩, hw.join hb hY 2⟩) ?_)))))))
 rintro v3 L3 ⟨q3, n3, c3, Y3, rfl, rfl, hO3⟩
 have hli := hO3.len
 rw [List.length_take] at hli
 refine qo0 1 [] [2, 3] [(5, .slice q3 n3 c3)] (on_ (ds_ (sq_ (sq_ (qa0 [(1, .go (owns 1 8 1))] [3, 5] [(16, .bool false)] (ds_ (f_ (at_skip (ds_ (sq_ (qa0 [] [3, 5] [(6, .slice none 0 0)] (ds_ (sq_ (sq_ (qa0 [(1, .go (owns 0 0 1))] [5, 6] [(19, .slice p n cap), (20, .int .i64 (n : Nat)), (21, .int .i64 0)] (ds_ (at_block (at_loop (α := Nat × List Ob × Option Addr × Nat × Nat) [5, 6, 19, 20, 21] (fun ⟨j, Yo, po, nu, co⟩ => [(5, .slice q3 n3 c3), (6, .slice po nu co), (19, .slice p n cap), (20, .int .i64 (n : Nat)), (21, .int .i64 (j : Nat))]) (fun ⟨j, Yo, po, nu, co⟩ => bx (γ1 1) (#[.slice p n cap]) 24 :: bx (γ1 0) (#[.int .i64 0, .int .i64 0, .int .i64 0, .int .u64 0, .int .u64 0, .int .u64 0, .int .u64 0, .slice pi m capi, .bool true, .int .i64 0, .int .u64 0, .int .i64 0]) 48 :: (Yo ++ (Y3 ++ []))) (fun ⟨j, Yo, po, nu, co⟩ => j ≤ n ∧ nu ≤ j ∧ SlO 3 Yo po nu co (outTo (inL (il.take 17)) ts j)) (fun ⟨j, Yo, po, nu, co⟩ => n - j) (0, [], none, 0, 0) (by kernel_rfl) rfl ⟨Nat.zero_le _, Nat.le_refl _, SlO.nil⟩ ?_))))))))))))))))))
 rintro ⟨j, Yo, po, nu, co⟩
 rintro ⟨hj, hnu, hOo⟩
 refine sq_ ?_
 by_cases q9 : ((j : Nat) : Int) < ((n : Nat) : Int)
 ·
  refine qa [(0, .yes)] [5, 6, 19, 20, 21] [(22, .bool true)] ([((j : Nat) : Int) < ((n : Nat) : Int)]) (al1 q9) (ds_ (sq_ (t_ (at_skip (ds_ (sq_ (at_block (sq_ ?_))))))))
  obtain ⟨b12, o12, rfl⟩ := hts.pos (i := j) (by omega)
  obtain ⟨x14, hx14⟩ := get_some (l := ts) (m := j) (by omega)
  refine ma [(0, .at b12 o12 j), (1, .go (outs b12 (o12 + j * 5) [.int .i64 x14.id, .int .i64 x14.each, .int .u64 x14.th, .int .u64 x14.tl, .int .u64 x14.tw])), (3, .go (owns 0 0 5))] [5, 6, 19, 20, 21] (fun γ15 => [(8, .pointer (some ⟨γ15 0, 0, none⟩))]) (fun γ15 L => bx (γ15 0) (#[.int .i64 x14.id, .int .i64 x14.each, .int .u64 x14.th, .int .u64 x14.tl, .int .u64 x14.tw]) 35 :: L) (fun γ15 => [(some ⟨b12, o12, none⟩ : Option Addr) = some ⟨b12, o12, none⟩, (j : Nat) = ((j : Nat) : Int), j < n] ++ (cellsP w b12 (o12 + j * 5) [.int .i64 x14.id, .int .i64 x14.each, .int .u64 x14.th, .int .u64 x14.tl, .int .u64 x14.tw])) (fun γ15 => (alA (al2 rfl (al2 rfl (al1 (by omega)))) (rd_pre (hts.get hx14) _ rfl))) (fun γ15 => ds_ (sq_ (qa0 [] [5, 6, 8, 19, 20, 21] [(25, .slice q3 n3 c3), (26, .int .i64 (n3 : Nat)), (27, .int .i64 0)] (ds_ (at_block (at_loop (α := Nat) [5, 6, 8, 19, 20, 21, 25, 26, 27] (fun i => [(5, .slice q3 n3 c3), (6, .slice po nu co), (8, .pointer (some ⟨γ15 0, 0, none⟩)), (19, .slice (some ⟨b12, o12, none⟩) n cap), (20, .int .i64 (n : Nat)), (21, .int .i64 (j : Nat)), (25, .slice q3 n3 c3), (26, .int .i64 (n3 : Nat)), (27, .int .i64 (i : Nat))]) (fun i => bx (γ15 0) (#[.int .i64 x14.id, .int .i64 x14.each, .int .u64 x14.th, .int .u64 x14.tl, .int .u64 x14.tw]) 35 :: bx (γ1 1) (#[.slice (some ⟨b12, o12, none⟩) n cap]) 24 :: bx (γ1 0) (#[.int .i64 0, .int .i64 0, .int .i64 0, .int .u64 0, .int .u64 0, .int .u64 0, .int .u64 0, .slice pi m capi, .bool true, .int .i64 0, .int .u64 0, .int .i64 0]) 48 :: (Yo ++ (Y3 ++ []))) (fun i => i ≤ n3 ∧ ∀ t y, t < i → (il.take 17)[t]? = some y → ¬ y = x14.id) (fun i => n3 - i) 0 (by kernel_rfl) rfl ⟨Nat.zero_le _, fun t y h => by omega⟩ ?_))))))
  rintro i
  rintro ⟨hi, hI⟩
  refine sq_ ?_
  by_cases q18 : ((i : Nat) : Int) < ((n3 : Nat) : Int)
  ·
   refine qa [(0, .yes)] [5, 6, 8, 19, 20, 21, 25, 26, 27] [(28, .bool true)] ([((i : Nat) : Int) < ((n3 : Nat) : Int)]) (al1 q18) (ds_ (sq_ (t_ (at_skip (ds_ (sq_ (at_block (sq_ (At.pick [[bx (γ15 0) (#[.int .i64 x14.id, .int .i64 x14.each, .int .u64 x14.th, .int .u64 x14.tl, .int .u64 x14.tw]) 35], [bx (γ1 1) (#[.slice (some ⟨b12, o12, none⟩) n cap]) 24], [bx (γ1 0) (#[.int .i64 0, .int .i64 0, .int .i64 0, .int .u64 0, .int .u64 0, .int .u64 0, .int .u64 0, .slice pi m capi, .bool true, .int .i64 0, .int .u64 0, .int .i64 0]) 48], Yo, Y3] [0, 1, 2, 4, 3] [] (bx (γ15 0) (#[.int .i64 x14.id, .int .i64 x14.each, .int .u64 x14.th, .int .u64 x14.tl, .int .u64 x14.tw]) 35 :: bx (γ1 1) (#[.slice (some ⟨b12, o12, none⟩) n cap]) 24 :: bx (γ1 0) (#[.int .i64 0, .int .i64 0, .int .i64 0, .int .u64 0, .int .u64 0, .int .u64 0, .int .u64 0, .slice pi m capi, .bool true, .int .i64 0, .int .u64 0, .int .i64 0]) 48 :: (Y3 ++ (Yo ++ []))) (by kernel_rfl) rfl rfl ?_)))))))))
   have hln21 := hO3.len
   obtain ⟨g21, cs21, rfl, rfl, hOw21⟩ := hO3.rowOf (i := i) (by omega)
   obtain ⟨x23, hx23⟩ := get_some (l := (il.take 17)) (m := i) (by omega)
   refine qa [(0, .at g21 0 i), (1, .go (ownps 3 (0 + i * 1) [.int .i64 x23]))] [5, 6, 8, 19, 20, 21, 25, 26, 27] [(10, .int .i64 x23)] ([(some ⟨g21, 0, none⟩ : Option Addr) = some ⟨g21, 0, none⟩, (i : Nat) = ((i : Nat) : Int), i < n3] ++ (acellsP cs21 (0 + i * 1) [.int .i64 x23])) (alA (al2 rfl (al2 rfl (al1 (by omega)))) (rda_pre (hOw21.rdx hO3.len hx23) _ rfl)) (ds_ (sq_ ?_))
   by_cases q26 : (x23 : Int) = (x14.id : Int)
   ·
    refine qa [(2, .go (owns 0 0 1)), (3, .yes)] [5, 6, 8, 10, 19, 20, 21, 25, 26, 27] [(34, .bool true)] ([(x23 : Int) = (x14.id : Int)]) (al1 q26) (ds_ (t_ (sq_ (ao_ (mo0 3 [] [5, 19, 20, 21] (fun γ28 => [(35, .slice po nu co), (37, .slice (some ⟨γ28 0, 0, none⟩) 1 1)]) (fun γ28 L => bx (γ28 0) (#[.int .i64 x23]) 3 :: L) (fun γ28 => ops_append (α := Int) [bx (γ28 0) (#[.int .i64 x23]) 3, bx (γ15 0) (#[.int .i64 x14.id, .int .i64 x14.each, .int .u64 x14.th, .int .u64 x14.tl, .int .u64 x14.tw]) 35, bx (γ1 1) (#[.slice (some ⟨b12, o12, none⟩) n cap]) 24, bx (γ1 0) (#[.int .i64 0, .int .i64 0, .int .i64 0, .int .u64 0, .int .u64 0, .int .u64 0, .int .u64 0, .slice pi m capi, .bool true, .int .i64 0, .int .u64 0, .int .i64 0]) 48, bx g21 cs21 3] Yo ([]) (.refl _) rfl (by kernel_rfl) (by kernel_rfl) (p := po) (n := nu) (cap := co) (m := 1) (yv := .slice (some ⟨γ28 0, 0, none⟩) 1 1) (by kernel_rfl) (by kernel_rfl) (T := 3) (by_ := 8) (by kernel_rfl) (outTo (inL (il.take 17)) ts j) ([x23]) hOo (fun w hw => src_svn Try.underlying41 (sv_row (hw.row 0 rfl) (by rfl)) (by rfl)) (by rfl) (by have hmx : maxLen = 9223372036854775807 := rfl; omega) (by have hmx : maxLen = 9223372036854775807 := rfl; omega) (fun Y29 p29 cap29 hO29 => qo0 1 [] [5, 19, 20, 21] [(6, .slice p29 (nu + 1) cap29)] (on_ (ds_ (at_leave _ rfl (done_block (ds_ (qa [(0, .fit)] [5, 6, 19, 20] [(21, .int .i64 (j + 1 : Nat))] ([Fit .i64 ((j + 1 : Nat))]) (al1 (fit64 (by omega) (by omega))) (Done.pick [[bx (γ28 0) (#[.int .i64 x23]) 3], [bx (γ15 0) (#[.int .i64 x14.id, .int .i64 x14.each, .int .u64 x14.th, .int .u64 x14.tl, .int .u64 x14.tw]) 35], [bx (γ1 1) (#[.slice (some ⟨b12, o12, none⟩) n cap]) 24], [bx (γ1 0) (#[.int .i64 0, .int .i64 0, .int .i64 0, .int .u64 0, .int .u64 0, .int .u64 0, .int .u64 0, .slice pi m capi, .bool true, .int .i64 0, .int .u64 0, .int .i64 0]) 48], [bx g21 cs21 3], Y29] [2, 3, 5, 4] [0, 1] (bx (γ1 1) (#[.slice (some ⟨b12, o12, none⟩) n cap]) 24 :: bx (γ1 0) (#[.int .i64 0, .int .i64 0, .int .i64 0, .int .u64 0, .int .u64 0, .int .u64 0, .int .u64 0, .slice pi m capi, .bool true, .int .i64 0, .int .u64 0, .int .i64 0]) 48 :: (Y29 ++ ([bx g21 cs21 3]))) (by kernel_rfl) rfl rfl ?_))))))))))))))
    exact dr [5, 6, 19, 20, 21] (j + 1, Y29, p29, (nu + 1), cap29) ⟨by omega, by omega, by rw [outTo_yes hx14 (inL_yes hx23 q26), ← q26]; exact hO29⟩
   ·
    refine qa [(2, .go (owns 0 0 1)), (3, .no)] [5, 6, 8, 10, 19, 20, 21, 25, 26, 27] [(34, .bool false)] ([¬ ((x23 : Int) = (x14.id : Int))]) (al1 q26) (ds_ (f_ (at_skip (done_block (ds_ (qa [(0, .fit)] [5, 6, 8, 19, 20, 21, 25, 26] [(27, .int .i64 (i + 1 : Nat))] ([Fit .i64 ((i + 1 : Nat))]) (al1 (fit64 (by omega) (by omega))) (Done.pick [[bx (γ15 0) (#[.int .i64 x14.id, .int .i64 x14.each, .int .u64 x14.th, .int .u64 x14.tl, .int .u64 x14.tw]) 35], [bx (γ1 1) (#[.slice (some ⟨b12, o12, none⟩) n cap]) 24], [bx (γ1 0) (#[.int .i64 0, .int .i64 0, .int .i64 0, .int .u64 0, .int .u64 0, .int .u64 0, .int .u64 0, .slice pi m capi, .bool true, .int .i64 0, .int .u64 0, .int .i64 0]) 48], [bx g21 cs21 3], Yo] [0, 1, 2, 4, 3] [] (bx (γ15 0) (#[.int .i64 x14.id, .int .i64 x14.each, .int .u64 x14.th, .int .u64 x14.tl, .int .u64 x14.tw]) 35 :: bx (γ1 1) (#[.slice (some ⟨b12, o12, none⟩) n cap]) 24 :: bx (γ1 0) (#[.int .i64 0, .int .i64 0, .int .i64 0, .int .u64 0, .int .u64 0, .int .u64 0, .int .u64 0, .slice pi m capi, .bool true, .int .i64 0, .int .u64 0, .int .i64 0]) 48 :: (Yo ++ ([bx g21 cs21 3]))) (by kernel_rfl) rfl rfl ?_)))))))
    exact dr [5, 6, 8, 19, 20, 21, 25, 26, 27] (i + 1) ⟨by omega, seek_on hI hx23 q26⟩
  ·
   refine qa [(0, .no)] [5, 6, 8, 19, 20, 21, 25, 26, 27] [(28, .bool false)] ([¬ (((i : Nat) : Int) < ((n3 : Nat) : Int))]) (al1 q18) (ds_ (sq_ (f_ (at_leave _ rfl (done_block (ds_ (qa [(0, .fit)] [5, 6, 19, 20] [(21, .int .i64 (j + 1 : Nat))] ([Fit .i64 ((j + 1 : Nat))]) (al1 (fit64 (by omega) (by omega))) (Done.pick [[bx (γ15 0) (#[.int .i64 x14.id, .int .i64 x14.each, .int .u64 x14.th, .int .u64 x14.tl, .int .u64 x14.tw]) 35], [bx (γ1 1) (#[.slice (some ⟨b12, o12, none⟩) n cap]) 24], [bx (γ1 0) (#[.int .i64 0, .int .i64 0, .int .i64 0, .int .u64 0, .int .u64 0, .int .u64 0, .int .u64 0, .slice pi m capi, .bool true, .int .i64 0, .int .u64 0, .int .i64 0]) 48], Yo, Y3] [1, 2, 3, 4] [0] (bx (γ1 1) (#[.slice (some ⟨b12, o12, none⟩) n cap]) 24 :: bx (γ1 0) (#[.int .i64 0, .int .i64 0, .int .i64 0, .int .u64 0, .int .u64 0, .int .u64 0, .int .u64 0, .slice pi m capi, .bool true, .int .i64 0, .int .u64 0, .int .i64 0]) 48 :: (Yo ++ (Y3 ++ []))) (by kernel_rfl) rfl rfl ?_))))))))
   exact dr [5, 6, 19, 20, 21] (j + 1, Yo, po, nu, co) ⟨by omega, by omega, by rw [outTo_no hx14 (inL_no hI (by rw [List.length_take]; omega))]; exact hOo⟩
 ·
  refine qa [(0, .no)] [5, 6, 19, 20, 21] [(22, .bool false)] ([¬ (((j : Nat) : Int) < ((n : Nat) : Int))]) (al1 q9) (ds_ (sq_ (f_ (at_leave _ rfl (ds_ (sq_ (qa0 [] [] [(4, .slice po nu co)] (ds_ (rt ([]) (.slice po nu co) ?_)))))))))
  rw [outTo_all (by omega)] at hOo
  exact fun w' hw => ⟨_, _, _, _, rfl, SlO.asE hOo (rfl), hw.below, one_tail (Hs.pick [[bx (γ1 1) (#[.slice p n cap]) 24], [bx (γ1 0) (#[.int .i64 0, .int .i64 0, .int .i64 0, .int .u64 0, .int .u64 0, .int .u64 0, .int .u64 0, .slice pi m capi, .bool true, .int .i64 0, .int .u64 0, .int .i64 0]) 48], Yo, Y3] [2] [0, 1, 3] (by kernel_rfl) hw)⟩
end Go.Proofs.Ytnhkecfapohlgaa

/-! Queues: Weigh. -/
namespace Go.Proofs.Ytnhkecfapohlgaa
open Go Go.RowKit

end Go.Proofs.Ytnhkecfapohlgaa

/-! What comes of changes; plain. -/
namespace Go.Proofs.Ytnhkecfapohlgaa
open Go Go.RowKit

section
variable {f : Rn → Rn × Int} {ts : List Rn} {l : List Int} {x y r : Rn} {j i : Nat} {k e e0 la : Int} {ok : Bool}
/-- What a change keeps. -/
def Keeps (f : Rn → Rn × Int) : Prop := ∀ r : Rn, rnB r = true → r.U → (f r).2 = 0 → rnB (f r).1 = true ∧ (f r).1.id = r.id ∧ (f r).1.U
theorem altE_zero : altE f ts l = 0 ↔ ∀ k ∈ l, errF f ts k = 0 := by
  induction l with
  | nil => simp [altE]
  | cons k l ih =>
    rw [altE]
    by_cases h : errF f ts k = 0
    · rw [if_neg (by omega), ih]; simp [h]
    · rw [if_pos h]; simp [h]
structure AltOk (f : Rn → Rn × Int) (ts : List Rn) (ok : Bool) (l : List Int) : Prop where
  good : GoodQ ts
  yes : ok = true
  ris : risI l = true
  has : ∀ k ∈ l, ∃ r, getK Rn.id ts k = some r ∧ (f r).2 = 0
  eq : (alterV f ts ok l).1 = altL f ts l
theorem alter_yes (h : (alterV f ts ok l).2 = 0) : AltOk f ts ok l := by
  cases hc : chkQ ts with
  | false => rw [alter_bad hc] at h; cases h
  | true =>
    cases hk : ok with
    | false => rw [alter_arg hc hk] at h; cases h
    | true =>
      subst hk
      by_cases hx : altX f ts (placesE ts l) l = 0
      · obtain ⟨h0, h1⟩ := altX_e0 hx
        obtain ⟨h2, h3⟩ := places_zero.1 h0
        refine ⟨chk_iff.1 hc, rfl, h2, fun k hk => ?_, by rw [alter_ok hc rfl hx]⟩
        have h4 := h3 k hk
        have h5 := altE_zero.1 h1 k hk
        unfold hasQ at h4
        unfold errF at h5
        cases hg : getK Rn.id ts k with
        | none => rw [hg] at h4; cases h4
        | some r => rw [hg] at h5; exact ⟨r, rfl, h5⟩
      · rw [alter_err hc rfl hx] at h; exact absurd h hx
theorem alter_nil (h : (alterV f ts ok l).2 ≠ 0) : (alterV f ts ok l).1 = [] := by
  cases hc : chkQ ts with
  | false => rw [alter_bad hc]
  | true =>
    cases hk : ok with
    | false => rw [alter_arg hc rfl]
    | true =>
      by_cases hx : altX f ts (placesE ts l) l = 0
      · rw [hk, alter_ok hc rfl hx] at h; exact absurd rfl h
      · rw [alter_err hc rfl hx]
theorem alter_len : (alterV f ts ok l).1.length ≤ ts.length := by
  by_cases h : (alterV f ts ok l).2 = 0
  · rw [(alter_yes h).eq, altL_len]; exact Nat.le_refl _
  · rw [alter_nil h]; simp
theorem mem_altL (h : x ∈ altL f ts l) : ∃ r ∈ ts, x = if r.id ∈ l then (f r).1 else r := by
  unfold altL at h
  obtain ⟨r, hr, rfl⟩ := List.mem_map.1 h
  exact ⟨r, hr, rfl⟩
theorem AltOk.err (h : AltOk f ts ok l) (hr : r ∈ ts) (hl : r.id ∈ l) : (f r).2 = 0 := by
  obtain ⟨r', hg, he⟩ := h.has _ hl
  have := (getK_iff h.good.rs).2 ⟨hr, rfl⟩
  rw [hg] at this
  cases this; exact he
theorem AltOk.U (h : AltOk f ts ok l) (hf : Keeps f) (hU : ∀ r ∈ ts, r.U) : ∀ r ∈ altL f ts l, r.U := by
  intro x hx
  obtain ⟨r, hr, rfl⟩ := mem_altL hx
  by_cases hl : r.id ∈ l
  · rw [if_pos hl]; exact (hf r (h.good.rn r hr) (hU r hr) (h.err hr hl)).2.2
  · rw [if_neg hl]; exact hU r hr
theorem alter_U (hf : Keeps f) (hU : ∀ r ∈ ts, r.U) : ∀ r ∈ (alterV f ts ok l).1, r.U := by
  by_cases h : (alterV f ts ok l).2 = 0
  · rw [(alter_yes h).eq]; exact (alter_yes h).U hf hU
  · rw [alter_nil h]; intro r hr; cases hr
theorem AltOk.idk (h : AltOk f ts ok l) (hf : Keeps f) (hU : ∀ r ∈ ts, r.U) (hr : r ∈ ts) : (if r.id ∈ l then (f r).1 else r).id = r.id := by
  by_cases hl : r.id ∈ l
  · rw [if_pos hl]; exact (hf r (h.good.rn r hr) (hU r hr) (h.err hr hl)).2.1
  · rw [if_neg hl]
theorem AltOk.chk (h : AltOk f ts ok l) (hf : Keeps f) (hU : ∀ r ∈ ts, r.U) : GoodQ (altL f ts l) := by
  refine ⟨?_, fun x hx => ?_⟩
  · unfold altL Ris
    rw [List.pairwise_map]
    refine List.Pairwise.imp_of_mem (fun {a b} ha hb hab => ?_) h.good.rs
    rw [h.idk hf hU ha, h.idk hf hU hb]; exact hab
  · obtain ⟨r, hr, rfl⟩ := mem_altL hx
    by_cases hl : r.id ∈ l
    · rw [if_pos hl]; exact (hf r (h.good.rn r hr) (hU r hr) (h.err hr hl)).1
    · rw [if_neg hl]; exact h.good.rn r hr
theorem AltOk.get (h : AltOk f ts ok l) (hf : Keeps f) (hU : ∀ r ∈ ts, r.U) (hg : getK Rn.id ts k = some r) : getK Rn.id (altL f ts l) k = some (if r.id ∈ l then (f r).1 else r) := by
  obtain ⟨hm, hid⟩ := (getK_iff h.good.rs).1 hg
  refine (getK_iff (h.chk hf hU).rs).2 ⟨?_, by rw [h.idk hf hU hm, hid]⟩
  unfold altL
  exact List.mem_map.2 ⟨r, hm, rfl⟩
end
/- the order of fractions -/
section
variable {a b f t : Fq} {n w s x y d : Int}
theorem up_le (hd : 1 ≤ d) : x ≤ upD x d * d := by
  unfold upD
  have h1 := Int.mul_ediv_add_emod (x + d - 1) d
  have h2 := Int.emod_lt_of_pos (x + d - 1) (show 0 < d by omega)
  rw [Int.mul_comm] at h1
  omega
theorem up_lt (hd : 1 ≤ d) : (upD x d - 1) * d < x := by
  unfold upD
  have h1 := Int.mul_ediv_add_emod (x + d - 1) d
  have h2 := Int.emod_nonneg (x + d - 1) (show d ≠ 0 by omega)
  rw [Int.mul_comm] at h1
  rw [Int.sub_mul]
  omega
theorem up_least (hd : 1 ≤ d) (h : x ≤ y * d) : upD x d ≤ y := by
  have h1 := up_lt (x := x) hd
  have h2 : (upD x d - 1) * d < y * d := by omega
  have := Int.lt_of_mul_lt_mul_right h2 (show 0 ≤ d by omega)
  omega
theorem cmpI_neg : cmpI x y < 0 ↔ x < y := by unfold cmpI; split <;> (try split) <;> omega
theorem cmpI_pos : 0 < cmpI x y ↔ y < x := by unfold cmpI; split <;> (try split) <;> omega
theorem cmp_yes (ha : a.ok = true) (hb : b.ok = true) : cmpF a b = cmpI (a.num * b.w) (b.num * a.w) := cmpF_yes (by rw [ha, hb]; rfl)
structure OverOk (f : Fq) (w : Int) : Prop where
  eq : (overV f w).1 = mkF (upD (f.num * w) f.w) w
  U : (overV f w).1.U
  ok : (overV f w).1.ok = true
  num : (overV f w).1.num = upD (f.num * w) f.w
  lt : upD (f.num * w) f.w < 1267650600228229401496703205376
theorem over_cases (hU : f.U) (hk : f.ok = true) (hw : wB w = true) : (overV f w).2 = 0 ∧ OverOk f w ∨ (overV f w).2 = 131 ∧ ¬ upD (f.num * w) f.w < 1267650600228229401496703205376 := by
  rw [over_yes hk hw]
  by_cases h : hiV (upD (f.num * w) f.w) < 68719476736
  · rw [with_yes rfl h]
    have e : (overV f w).1 = mkF (upD (f.num * w) f.w) w := by rw [over_yes hk hw, with_yes rfl h]
    have hw2 := wB_iff.1 hw
    refine .inl ⟨rfl, e, over_U hU, ?_, by rw [e]; exact num_mk, hi_36.1 h⟩
    rw [e]; exact ok_yes hw2.1 hw2.2 h
  · rw [with_no (.inr h)]; exact .inr ⟨rfl, fun n => h (hi_36.2 n)⟩
theorem less_ok (hU : f.U) (hk : f.ok = true) (hn : 0 ≤ n) : (lessV f n).2 = 0 ∧ (lessV f n).1.ok = true ∧ (lessV f n).1.num = subV f.num n ∧ (lessV f n).1.w = f.w := by
  rw [less_yesV hk]
  have h1 := ok_iff.1 hk
  exact ⟨rfl, ok_yes h1.1.1 h1.1.2 (hi_36.2 (less_r hU hk hn).2), num_mk, rfl⟩
end
section
variable {ts : List Rn} {l : List Int} {r : Rn} {k wt many dt : Int}
/-- VtimeWeighs, told by what is reckoned. -/
structure WeighFacts (ts : List Rn) (k wt many : Int) (r : Rn) : Prop where
  U : r.U
  get : getQ ts k = some r
  get2 : getQ (weighV ts [k] wt many).1 k = some (weighF wt many r).1
  U2 : (weighF wt many r).1.U
  tt : (weighF wt many r).1.t = (overV r.t wt).1
  tw : (overV r.t wt).1.w = wt
  Uo : (overV r.t wt).1.U
  ge : 0 ≤ cmpF (overV r.t wt).1 r.t
  ls : (lessV (overV r.t wt).1 1).2 = 0
  lt : ¬ ((overV r.t wt).1.hi = 0 ∧ (overV r.t wt).1.lo = 0) → cmpF (lessV (overV r.t wt).1 1).1 r.t < 0
  err : (weighV (weighV ts [k] wt many).1 [k] r.tw r.each).2 = 0 ∨ (weighV (weighV ts [k] wt many).1 [k] r.tw r.each).2 = 131
  back : (weighV (weighV ts [k] wt many).1 [k] r.tw r.each).2 = 0 → getQ (weighV (weighV ts [k] wt many).1 [k] r.tw r.each).1 k = some (weighF r.tw r.each (weighF wt many r).1).1 ∧ 0 ≤ cmpF (overV (overV r.t wt).1 r.tw).1 r.t
end
end Go.Proofs.Ytnhkecfapohlgaa

/-! The statement VtimeWeighs, walked. -/
namespace Go.Proofs.Ytnhkecfapohlgaa
open Go Go.RowKit
structure Wd where
 hi : Int
 lo : Int
deriving DecidableEq
end Go.Proofs.Ytnhkecfapohlgaa

/-! What comes of joining and leaving; plain. -/
namespace Go.Proofs.Ytnhkecfapohlgaa
open Go Go.RowKit

section
variable {a b f t : Fq} {n w s x y d : Int}
theorem fq_ext (ha : a.U) (hb : b.U) (hn : a.num = b.num) (hw : a.w = b.w) : a = b := by
  have h1 := ha.hl
  have h2 := hb.hl
  rw [hn] at h1
  have e1 : a.hi = b.hi := h1.1.symm.trans h2.1
  have e2 : a.lo = b.lo := h1.2.symm.trans h2.2
  cases a; cases b
  simp only at e1 e2 hw
  subst e1; subst e2; subst hw; rfl
theorem mul_lt_iff (hd : 0 < d) : x * d < y * d ↔ x < y := ⟨fun h => Int.lt_of_mul_lt_mul_right h (by omega), fun h => Int.mul_lt_mul_of_pos_right h hd⟩
theorem cmp_same (ha : a.ok = true) (hb : b.ok = true) (hw : a.w = b.w) : (cmpF a b < 0 ↔ a.num < b.num) ∧ (0 < cmpF a b ↔ b.num < a.num) := by
  have h1 := ok_iff.1 hb
  rw [cmp_yes ha hb, cmpI_neg, cmpI_pos, hw]
  exact ⟨mul_lt_iff (by omega), mul_lt_iff (by omega)⟩
theorem maxS_same (ha : a.ok = true) (hb : b.ok = true) (hw : a.w = b.w) : (maxS a b = a ∧ b.num ≤ a.num) ∨ (maxS a b = b ∧ a.num < b.num) := by
  have h := (cmp_same hb ha hw.symm).2
  by_cases h1 : 0 < cmpF b a
  · exact .inr ⟨maxS_yes h1, h.1 h1⟩
  · exact .inl ⟨maxS_no h1, by have := mt h.2 h1; omega⟩
/-- What a raise answers. -/
structure RaiseOk (t : Fq) (w : Int) (R : Fq) : Prop where
  U : R.U
  ok : R.ok = true
  wt : R.w = w
  ge : subV t.num (268435456 * t.w) * w ≤ R.num * t.w
  le : R.num ≤ upD (t.num * w) t.w
theorem floor_num : (floorV t s).num = subV t.num (s * t.w) := num_mk
theorem raise_cases (hV : t.U) (hk : t.ok = true) (hw : wB w = true) : ((raiseV ⟨0, 0, w⟩ t 268435456).2 = 0 ∧ RaiseOk t w (raiseV ⟨0, 0, w⟩ t 268435456).1) ∨ (raiseV ⟨0, 0, w⟩ t 268435456).2 = 131 := by
  have hw2 := wB_iff.1 hw
  have hk2 := ok_iff.1 hk
  have h0ok : (⟨0, 0, w⟩ : Fq).ok = true := ok_yes hw2.1 hw2.2 (by show (0 : Int) < _; decide)
  have h0U : (⟨0, 0, w⟩ : Fq).U := w_U (by omega) (by omega)
  have h0n : (⟨0, 0, w⟩ : Fq).num = 0 := rfl
  have hN := up_r (mul_lt hV.n0 (num_lt hV hk) (show 0 ≤ w by omega) hw2.2).1 hk2.1.1
  have hboth : ((⟨0, 0, w⟩ : Fq).ok && t.ok) = true := by rw [h0ok, hk]; rfl
  have hfk := floor_ok hV hk (show (0 : Int) ≤ 268435456 by decide)
  have hfU := floor_U hV hk (show (0 : Int) ≤ 268435456 by decide)
  cases hb : behV ⟨0, 0, w⟩ t 268435456 with
  | false =>
    rw [raise_same hboth hb]
    refine .inl ⟨rfl, h0U, h0ok, rfl, ?_, by rw [h0n]; exact hN.1⟩
    rw [beh_yes hboth] at hb
    have h1 := of_decide_eq_false hb
    rw [cmp_yes h0ok hfk, cmpI_neg, floor_num, h0n] at h1
    rw [h0n]
    simp only [Int.zero_mul] at h1 ⊢
    omega
  | true =>
    rw [raise_up hboth hb]
    have hw3 : (floorV t 268435456).w = t.w := rfl
    rcases over_cases hfU hfk hw with h1 | h1
    · refine .inl ⟨h1.1, h1.2.U, h1.2.ok, by rw [h1.2.eq], ?_, ?_⟩
      · rw [h1.2.num, floor_num, hw3]; exact up_le hk2.1.1
      · rw [h1.2.num, floor_num, hw3]
        refine up_least hk2.1.1 (Int.le_trans (Int.mul_le_mul_of_nonneg_right ?_ (by omega)) (up_le hk2.1.1))
        exact (sub_r hV.n0 (Int.mul_nonneg (by decide) hV.w0)).2
    · exact .inr h1.1
/-- Where one is held. -/
structure HeldOk (t : Fq) (r : Rn) (boost : Int) (R : Fq) : Prop where
  U : R.U
  ok : R.ok = true
  w : R.w = r.tw
  le : R.num ≤ upD (t.num * r.tw) t.w
  ge : subV t.num (268435456 * t.w) * r.tw ≤ R.num * t.w
  b0 : boost = 0 → R.num = upD (t.num * r.tw) t.w
  same : r.t.num = upD (t.num * r.tw) t.w → R = r.t
theorem bounds_cases {r : Rn} {boost : Int} (hV : t.U) (hk : t.ok = true) (hr : r.U) (hb : rnB r = true) (h0 : 0 ≤ boost) : (timeV (t, true) r boost).2 = 0 ∧ HeldOk t r boost (timeV (t, true) r boost).1 ∨ (timeV (t, true) r boost).2 = 131 := by
  have hb2 := rnB_iff.1 hb
  have hw : wB r.tw = true := wB_of hb2.2.2
  have hw2 := wB_iff.1 hw
  have hk2 := ok_iff.1 hk
  have hm : 0 ≤ boost * r.each := Int.mul_nonneg h0 (by omega)
  have e2 : (timeV (t, true) r boost).2 = (boundsV t r boost).2.2 := rfl
  rcases over_cases hV hk hw with ⟨h1, o⟩ | ⟨h1, _⟩
  · obtain ⟨l0, l1, l2, l3⟩ := less_ok o.U o.ok hm
    have lU := less_U o.U hm
    rcases raise_cases hV hk hw with ⟨r0, ra⟩ | r0
    · have eb := bounds_4 (t := t) (r := r) (boost := boost) (by omega) (by omega) (by omega)
      left
      rw [e2, eb]
      refine ⟨rfl, ?_⟩
      generalize hL : (lessV (overV t r.tw).1 (boost * r.each)).1 = L at l1 l2 l3 lU eb
      generalize hF : (raiseV ⟨0, 0, r.tw⟩ t 268435456).1 = F at ra eb
      have ow : (overV t r.tw).1.w = r.tw := by rw [o.eq]
      have oN := o.num
      have oU := o.U
      have oK := o.ok
      generalize hO : (overV t r.tw).1 = O at l2 l3 ow oN oU oK eb
      rw [ow] at l3
      -- low
      have hlow : ∃ W : Fq, greatV L F = W ∧ W.U ∧ W.ok = true ∧ W.w = r.tw ∧ L.num ≤ W.num ∧ F.num ≤ W.num ∧ W.num ≤ O.num := by
        have hLO : L.num ≤ O.num := by rw [l2]; exact (sub_r oU.n0 hm).2
        have hFO : F.num ≤ O.num := by rw [oN]; exact ra.le
        rcases maxS_same l1 ra.ok (l3.trans ra.wt.symm) with ⟨e, h⟩ | ⟨e, h⟩
        · exact ⟨L, e, lU, l1, l3, Int.le_refl _, h, hLO⟩
        · exact ⟨F, e, ra.U, ra.ok, ra.wt, by omega, Int.le_refl _, hFO⟩
      obtain ⟨W, eW, WU, WK, WW, hLW, hFW, hWO⟩ := hlow
      have hrw : r.t.w = r.tw := rfl
      have hmid : ∃ M : Fq, greatV W r.t = M ∧ M.U ∧ M.ok = true ∧ M.w = r.tw ∧ W.num ≤ M.num ∧ r.t.num ≤ M.num ∧ (M = W ∨ M = r.t) ∧ (M.num ≤ W.num ∨ M.num ≤ r.t.num) := by
        rcases maxS_same WK hb2.2.2 (WW.trans hrw.symm) with ⟨e, h⟩ | ⟨e, h⟩
        · exact ⟨W, e, WU, WK, WW, Int.le_refl _, h, .inl rfl, .inl (Int.le_refl _)⟩
        · exact ⟨r.t, e, hr.t, hb2.2.2, hrw, by omega, Int.le_refl _, .inr rfl, .inr (Int.le_refl _)⟩
      obtain ⟨M, eM, MU, MK, MW, hWM, hrM, hMc, hMn⟩ := hmid
      have hb1 : (boundsV t r boost).1 = W := by rw [eb]; exact eW
      have hb3 : (boundsV t r boost).2.1 = O := by rw [eb]
      have hb0L : boost = 0 → L.num = O.num := fun h => by rw [l2, h, Int.zero_mul, sub_ge (by have := oU.n0; omega)]; omega
      have hcmp := (cmp_same MK oK (MW.trans ow.symm)).2
      have hgeF : ∀ Z : Fq, F.num ≤ Z.num → subV t.num (268435456 * t.w) * r.tw ≤ Z.num * t.w := fun Z h => Int.le_trans ra.ge (Int.mul_le_mul_of_nonneg_right h (by omega))
      by_cases hc : 0 < cmpF M O
      · have hlt := hcmp.1 hc
        have e1 : (timeV (t, true) r boost).1 = O := by
          rw [time_hi rfl (by rw [hb1, hb3]; show 0 < cmpF (greatV W r.t) O; rw [eM]; exact hc)]; exact hb3
        rw [e1]
        refine ⟨oU, oK, ow, by rw [oN]; exact Int.le_refl _, hgeF O (by omega), fun _ => oN, fun hs => ?_⟩
        rw [← oN] at hs
        rcases hMn with h | h <;> omega
      · have hle : M.num ≤ O.num := by have := mt hcmp.2 hc; omega
        have e1 : (timeV (t, true) r boost).1 = M := by
          rw [time_lo rfl (by rw [hb1, hb3]; show ¬ 0 < cmpF (greatV W r.t) O; rw [eM]; exact hc), hb1]; exact eM
        rw [e1]
        refine ⟨MU, MK, MW, by rw [← oN]; exact hle, hgeF M (by omega), fun h => ?_, fun hs => ?_⟩
        · have := hb0L h; omega
        · rw [← oN] at hs
          exact fq_ext MU hr.t (by omega) (MW.trans hrw.symm)
    · right; rw [e2, bounds_3 (by omega) (by omega) (by omega)]; exact r0
  · right; rw [e2, bounds_1 (by omega)]; exact h1
end
section
variable {ts : List Rn} {r x : Rn} {k boost : Int}
theorem top_mem (h : (topV ts).2 = true) : ∃ r ∈ ts, (topV ts).1 = r.t := by
  have := topV_ind (ts := ts) (P := fun s => s.2 = true → ∃ r ∈ ts, s.1 = r.t) (fun h => by cases h) (fun s r hr _ _ => ⟨r, hr, rfl⟩)
  exact this h
theorem top_ok (hg : GoodQ ts) (h : (topV ts).2 = true) : (topV ts).1.ok = true := by
  obtain ⟨r, hr, e⟩ := top_mem h
  rw [e]; exact (hg.bnd hr).2.2.2.2
structure JoinOk (ts : List Rn) (r : Rn) (boost : Int) : Prop where
  good : GoodQ ts
  rn : rnB r = true
  none : getK Rn.id ts r.id = none
  b0 : boost ≤ 10000000
  time : (timeV (topV ts) r boost).2 = 0
  eq : (joinV ts r boost).1 = insK Rn.id ts (newR ts r boost)
theorem time_split : timeV (topV ts) r boost = timeV ((topV ts).1, (topV ts).2) r boost := rfl
/-- What is held of who joins. -/
theorem new_facts (hU : ∀ x ∈ ts, x.U) (hr : r.U) (h0 : 0 ≤ boost) (J : JoinOk ts r boost) : (newR ts r boost).U ∧ rnB (newR ts r boost) = true ∧ (newR ts r boost).t.w = r.tw ∧ ((topV ts).2 = false → newR ts r boost = r) ∧ ((topV ts).2 = true → HeldOk (topV ts).1 r boost (newR ts r boost).t) := by
  have hb2 := rnB_iff.1 J.rn
  have et : (newR ts r boost).t = (timeV (topV ts) r boost).1 := rfl
  cases ha : (topV ts).2 with
  | false =>
    have e : newR ts r boost = r := by unfold newR; rw [time_none ha]; rfl
    rw [e]
    exact ⟨hr, J.rn, rfl, fun _ => rfl, fun h => by cases h⟩
  | true =>
    have hs : timeV (topV ts) r boost = timeV ((topV ts).1, true) r boost := by rw [time_split, ha]
    rcases bounds_cases (topV_U hU) (top_ok J.good ha) hr J.rn h0 with ⟨_, H⟩ | h
    · rw [← hs, ← et] at H
      exact ⟨⟨hr.i0, hr.i1, hr.e0, hr.e1, H.U⟩, rnB_iff.2 ⟨hb2.1, hb2.2.1, H.ok⟩, H.w, (fun h => by cases h), fun _ => H⟩
    · have := J.time; rw [hs] at this; omega
theorem JoinOk.chk (J : JoinOk ts r boost) (hU : ∀ x ∈ ts, x.U) (hr : r.U) (h0 : 0 ≤ boost) : GoodQ (insK Rn.id ts (newR ts r boost)) ∧ ∀ x ∈ insK Rn.id ts (newR ts r boost), x.U := by
  have N := new_facts hU hr h0 J
  refine ⟨⟨ris_insK J.good.rs J.none, fun x hx => ?_⟩, fun x hx => ?_⟩
  · rcases mem_insK.1 hx with rfl | hx
    · exact N.2.1
    · exact J.good.rn x hx
  · rcases mem_insK.1 hx with rfl | hx
    · exact N.1
    · exact hU x hx
theorem JoinOk.get (J : JoinOk ts r boost) (hU : ∀ x ∈ ts, x.U) (hr : r.U) (h0 : 0 ≤ boost) : getQ (joinV ts r boost).1 r.id = some (newR ts r boost) := by
  rw [J.eq, getQ_ok (chk_iff.2 (J.chk hU hr h0).1)]
  exact (getK_iff (J.chk hU hr h0).1.rs).2 ⟨mem_insK.2 (.inl rfl), rfl⟩
/-- VtimeNear, told by what is reckoned. -/
structure NearFacts (ts : List Rn) (r : Rn) (boost : Int) (own : Rn) (s : Fq × Bool) : Prop where
  U : own.U
  get : getQ (joinV ts r boost).1 r.id = some own
  chk : chkQ (joinV ts r boost).1 = true
  len : (joinV ts r boost).1.length = ts.length + 1
  each : own.each = r.each
  w : own.tw = r.tw
  tU : s.1.U
  empty : s.2 = false → own = r
  less : (lessV own.t 1).2 = 0
  beh : s.2 = true → behV own.t s.1 268435456 = false
  near : s.2 = true → ¬ (own.th = 0 ∧ own.tl = 0) → cmpF (lessV own.t 1).1 s.1 < 0
  b0 : s.2 = true → boost = 0 → 0 ≤ cmpF own.t s.1
  same : s.2 = true → cmpF r.t s.1 = 0 → own.t = r.t
  leave : leaveV (joinV ts r boost).1 r.id = (ts, some own, 0)
/-- VtimeGains, told by what is reckoned. -/
structure GainFacts (n : List Rn) (r : Rn) (k : Int) : Prop where
  U : r.U
  UL : ∀ x ∈ n, x.U
  none : getQ n k = none
  err : (joinV n r 0).2 = 0 ∨ (joinV n r 0).2 = 131
  get : (joinV n r 0).2 = 0 → getQ (joinV n r 0).1 k = some (newR n r 0)
  nU : (joinV n r 0).2 = 0 → (newR n r 0).U
  ge : (joinV n r 0).2 = 0 → 0 ≤ cmpF (newR n r 0).t r.t ∨ ((topQ n).2 = true ∧ 0 < cmpF r.t (topQ n).1)
  top : (joinV n r 0).2 = 0 → (topQ n).2 = true → 0 ≤ cmpF (newR n r 0).t (topQ n).1
end
end Go.Proofs.Ytnhkecfapohlgaa

/-! What comes of running; plain. -/
namespace Go.Proofs.Ytnhkecfapohlgaa
open Go Go.RowKit

section
variable {f : Fq} {m n : Int}
theorem add_ok (hU : f.U) (hk : f.ok = true) (h : (addV f n).2 = 0) : (addV f n).1 = mkF (f.num + n) f.w ∧ (addV f n).1.ok = true ∧ (addV f n).1.num = f.num + n := by
  rw [add_yes hk] at h ⊢
  have h1 := ok_iff.1 hk
  by_cases hh : hiV (f.num + n) < 68719476736
  · rw [with_yes rfl hh]; exact ⟨rfl, ok_yes h1.1.1 h1.1.2 hh, num_mk⟩
  · rw [with_no (.inr hh)] at h; cases h
theorem add_add (hU : f.U) (hk : f.ok = true) (h : (addV f m).2 = 0) : addV (addV f m).1 n = addV f (m + n) := by
  obtain ⟨e, k, hn⟩ := add_ok hU hk h
  have ew : (addV f m).1.w = f.w := by rw [e]
  rw [add_yes k, hn, ew, add_yes hk, Int.add_assoc]
end
section
variable {ts : List Rn} {l : List Int} {r x : Rn} {a b k dt : Int}
theorem keeps_run (h0 : 0 ≤ dt) (h1 : dt ≤ 10000000) : Keeps (runF dt) := fun r hr hU he => by
  have hb := rnB_iff.1 hr
  have hm := mul_each hb.2.1.1 hb.2.1.2 h0 h1
  have o := add_ok hU.t hb.2.2 he
  exact ⟨rnB_iff.2 ⟨hb.1, hb.2.1, o.2.1⟩, rfl, ⟨hU.i0, hU.i1, hU.e0, hU.e1, add_U hU.t hm.1 (by omega)⟩⟩
theorem runB_iff : runB dt = true ↔ 0 ≤ dt ∧ dt ≤ 10000000 := by unfold runB; rw [decide_eq_true_eq]
theorem run_U (hU : ∀ r ∈ ts, r.U) : ∀ r ∈ (runV ts l dt).1, r.U := by
  by_cases h : (runV ts l dt).2 = 0
  · have ok := runB_iff.1 (alter_yes h).yes
    exact alter_U (keeps_run ok.1 ok.2) hU
  · intro r hr; rw [runV, alter_nil h] at hr; cases hr
theorem run_len : (runV ts l dt).1.length ≤ ts.length := alter_len
theorem run_nil (h : (runV ts l dt).2 ≠ 0) : (runV ts l dt).1 = [] := alter_nil h
theorem run_run (hU : r.U) (hb : rnB r = true) (h : (runF a r).2 = 0) : runF b (runF a r).1 = runF (a + b) r := by
  have hb2 := rnB_iff.1 hb
  have e := add_add (n := r.each * b) hU.t hb2.2.2 h
  have et : (runF a r).1.t = (addV r.t (r.each * a)).1 := rfl
  show ((⟨r.id, r.each, _, _, _⟩ : Rn), _) = _
  unfold runF
  simp only
  have e2 : addV (⟨r.id, r.each, (addV r.t (r.each * a)).1.hi, (addV r.t (r.each * a)).1.lo, (addV r.t (r.each * a)).1.w⟩ : Rn).t (r.each * b) = addV r.t (r.each * (a + b)) := by
    rw [Int.mul_add]; exact e
  rw [e2]
theorem has_alt (A : AltOk (runF a) ts (runB a) l) (hU : ∀ r ∈ ts, r.U) (hg : getK Rn.id ts k = some r) (hk : k ∈ l) : getK Rn.id (altL (runF a) ts l) k = some (runF a r).1 := by
  have ok := runB_iff.1 A.yes
  have h := A.get (keeps_run ok.1 ok.2) hU hg
  rwa [if_pos (by rw [((getK_iff A.good.rs).1 hg).2]; exact hk)] at h
theorem altE_congr {f g : Rn → Rn × Int} {us : List Rn} : ∀ {l : List Int}, (∀ k ∈ l, errF f ts k = errF g us k) → altE f ts l = altE g us l
  | [], _ => rfl
  | k :: l, h => by
    rw [altE, altE, h k (List.mem_cons_self ..), altE_congr (l := l) fun z hz => h z (List.mem_cons_of_mem _ hz)]
/-- To run twice is to run so long at once. -/
theorem run_twice (hU : ∀ r ∈ ts, r.U) (h : (runV ts l a).2 = 0) (hb : 0 ≤ b) (hab : a + b ≤ 10000000) : runV (runV ts l a).1 l b = runV ts l (a + b) := by
  have A := alter_yes h
  have ok := runB_iff.1 A.yes
  have K := keeps_run ok.1 ok.2
  have e1 : (runV ts l a).1 = altL (runF a) ts l := A.eq
  rw [e1]
  have G2 := A.chk K hU
  have hck := chk_iff.2 A.good
  have hck2 := chk_iff.2 G2
  have hB : runB b = true := runB_iff.2 ⟨hb, by omega⟩
  have hAB : runB (a + b) = true := runB_iff.2 ⟨by omega, hab⟩
  have hp1 : placesE ts l = 0 := places_zero.2 ⟨A.ris, fun k hk => by obtain ⟨r, hg, _⟩ := A.has k hk; unfold hasQ; rw [hg]; rfl⟩
  have hp2 : placesE (altL (runF a) ts l) l = 0 := places_zero.2 ⟨A.ris, fun k hk => by obtain ⟨r, hg, _⟩ := A.has k hk; unfold hasQ; rw [has_alt A hU hg hk]; rfl⟩
  have hE : altE (runF b) (altL (runF a) ts l) l = altE (runF (a + b)) ts l := altE_congr fun k hk => by
    obtain ⟨r, hg, he⟩ := A.has k hk
    have hm := (getK_iff A.good.rs).1 hg
    unfold errF
    rw [has_alt A hU hg hk, hg]
    simp only
    rw [run_run (hU r hm.1) (A.good.rn r hm.1) he]
  have hX : altX (runF b) (altL (runF a) ts l) (placesE (altL (runF a) ts l) l) l = altX (runF (a + b)) ts (placesE ts l) l := by
    unfold altX; rw [hp1, hp2, hE]
  show alterV (runF b) (altL (runF a) ts l) (runB b) l = alterV (runF (a + b)) ts (runB (a + b)) l
  by_cases hz : altX (runF (a + b)) ts (placesE ts l) l = 0
  · rw [alter_ok hck2 hB (hX.trans hz), alter_ok hck hAB hz]
    congr 1
    unfold altL
    rw [List.map_map]
    refine List.map_congr_left fun r hr => ?_
    show (if (if r.id ∈ l then (runF a r).1 else r).id ∈ l then (runF b (if r.id ∈ l then (runF a r).1 else r)).1 else (if r.id ∈ l then (runF a r).1 else r)) = (if r.id ∈ l then (runF (a + b) r).1 else r)
    by_cases hl : r.id ∈ l
    · have e2 : (if r.id ∈ l then (runF a r).1 else r) = (runF a r).1 := if_pos hl
      rw [e2, if_pos (show (runF a r).1.id ∈ l from hl), if_pos hl, run_run (hU r hr) (A.good.rn r hr) (A.err hr hl)]
    · have e2 : (if r.id ∈ l then (runF a r).1 else r) = r := if_neg hl
      rw [e2, if_neg hl, if_neg hl]
  · rw [alter_err hck2 hB (by rw [hX]; exact hz), alter_err hck hAB hz, hX]
/-- What is seen at one place behind a run. -/
structure RunAt (ts : List Rn) (l : List Int) (a : Int) (x r : Rn) : Prop where
  get : getQ ts x.id = some r
  rU : r.U
  xU : x.U
  e0 : 1 ≤ r.each
  e1 : r.each ≤ 8
  err : x.id ∈ l → (addV r.t (r.each * a)).2 = 0
  grown : x.id ∈ l → (addV r.t (r.each * a)).1 = x.t
  same : x.id ∉ l → x = r
theorem ran_at (hU : ∀ r ∈ ts, r.U) (h : (runV ts l a).2 = 0) {j : Nat} (hx : (runV ts l a).1[j]? = some x) : ∃ r, RunAt ts l a x r := by
  have A := alter_yes h
  have ok := runB_iff.1 A.yes
  have K := keeps_run ok.1 ok.2
  have e1 : (runV ts l a).1 = altL (runF a) ts l := A.eq
  rw [e1] at hx
  have hxU := A.U K hU x (List.mem_of_getElem? hx)
  unfold altL at hx
  rw [List.getElem?_map] at hx
  cases hr : ts[j]? with
  | none => rw [hr] at hx; cases hx
  | some r =>
    rw [hr] at hx
    have hm := List.mem_of_getElem? hr
    have hb := rnB_iff.1 (A.good.rn r hm)
    obtain rfl : (if r.id ∈ l then (runF a r).1 else r) = x := Option.some.inj hx
    have hid : (if r.id ∈ l then (runF a r).1 else r).id = r.id := A.idk K hU hm
    refine ⟨r, ?_, hU r hm, hxU, hb.2.1.1, hb.2.1.2, fun hl => ?_, fun hl => ?_, fun hl => ?_⟩
    · rw [hid, getQ_ok (chk_iff.2 A.good)]; exact (getK_iff A.good.rs).2 ⟨hm, rfl⟩
    all_goals rw [hid] at hl
    · exact A.err hm hl
    · rw [if_pos hl]; rfl
    · rw [if_neg hl]
end
/- the spans -/
def spanV (s : Int) : Int := Int.tmod (Int.tmod s 10000000 + 10000000) 10000000
theorem span_r (s : Int) : 0 ≤ spanV s ∧ spanV s < 10000000 := by
  unfold spanV
  have h1 := Int.tmod_lt_of_pos s (show (0 : Int) < 10000000 by decide)
  have h2 : -10000000 < Int.tmod s 10000000 := by
    have := Int.tmod_lt_of_pos (-s) (show (0 : Int) < 10000000 by decide)
    rw [Int.neg_tmod] at this; omega
  have h3 := Int.tmod_nonneg 10000000 (show 0 ≤ Int.tmod s 10000000 + 10000000 by omega)
  have h4 := Int.tmod_lt_of_pos (Int.tmod s 10000000 + 10000000) (show (0 : Int) < 10000000 by decide)
  exact ⟨h3, h4⟩
theorem tmod_r (s : Int) : -10000000 < Int.tmod s 10000000 ∧ Int.tmod s 10000000 < 10000000 := by
  have h1 := Int.tmod_lt_of_pos s (show (0 : Int) < 10000000 by decide)
  have := Int.tmod_lt_of_pos (-s) (show (0 : Int) < 10000000 by decide)
  rw [Int.neg_tmod] at this
  omega
section
variable {l : List Int} {k y : Int} {i : Nat}
theorem seen_t (hy : l[i]? = some y) (h : decide (k ∈ l.take i) = true) : true = decide (k ∈ l.take (i + 1)) := by
  refine (decide_eq_true ?_).symm
  rw [List.take_add_one]; exact List.mem_append.2 (.inl (of_decide_eq_true h))
theorem seen_eq (hy : l[i]? = some y) (h : y = k) : true = decide (k ∈ l.take (i + 1)) := by
  refine (decide_eq_true ?_).symm
  rw [List.take_add_one, hy]; exact List.mem_append.2 (.inr (by simp [h]))
theorem seen_f (hy : l[i]? = some y) (h : decide (k ∈ l.take i) = false) (hn : ¬ y = k) : false = decide (k ∈ l.take (i + 1)) := by
  refine (decide_eq_false fun hm => ?_).symm
  rw [List.take_add_one, hy] at hm
  rcases List.mem_append.1 hm with hm | hm
  · exact of_decide_eq_false h hm
  · simp only [Option.toList_some, List.mem_singleton] at hm; exact hn hm.symm
end
end Go.Proofs.Ytnhkecfapohlgaa
