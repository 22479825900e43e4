/- Texts of this proof, one behind the other. -/
import Derived.Test.YtnhkecfapohlgaaZc
import Derived.Test.YtnhkecfapohlgaaZb
/-! Who is lifted; plain. -/
namespace Go.Proofs.Ytnhkecfapohlgaa
open Go Go.RowKit

theorem rd_row {w : World} {g k : Nat} {cs : Array Value} {T : TypeId} {f : Nat × Nat} (h : w.heap[g]? = some (.cells cs T f)) : Rd w g (0 + 0 * k) cs.toList := fun j u hj => by
  rw [show (⟨g, 0 + 0 * k + j, none⟩ : Addr) = ⟨g, j, none⟩ from by congr 1; omega, cell_own h]
  simpa using hj
def clR (tp : Fq) (r : Rn) : Rn := ⟨r.id, r.each, (raiseV r.t tp 268435456).1.hi, (raiseV r.t tp 268435456).1.lo, (raiseV r.t tp 268435456).1.w⟩
def clE (tp : Fq) (r : Rn) : Int := (raiseV r.t tp 268435456).2
def chg (tp : Fq) (r : Rn) : Bool := decide (¬ (raiseV r.t tp 268435456).1 = r.t)
def errL (g : Rn → Int) : List Rn → Int
  | [] => 0
  | r :: l => if g r ≠ 0 then g r else errL g l
def mapTo (g : Rn → Rn) (ts : List Rn) (j : Nat) : List Rn := (ts.take j).map g ++ ts.drop j
def outTo (p : Rn → Bool) (ts : List Rn) (j : Nat) : List Int := ((ts.take j).filter p).map Rn.id
def clipV (ts : List Rn) : List Rn × List Int × Int :=
  if chkQ ts = true then (if errL (clE (topV ts).1) ts ≠ 0 then ([], [], errL (clE (topV ts).1) ts) else (ts.map (clR (topV ts).1), (ts.filter (chg (topV ts).1)).map Rn.id, 0)) else ([], [], 200)
section
variable {tp : Fq} {r x : Rn} {ts : List Rn} {g : Rn → Rn} {e : Rn → Int} {p : Rn → Bool} {j : Nat}
theorem chg_yes (h : ¬ (raiseV r.t tp 268435456).1 = r.t) : chg tp r = true := decide_eq_true h
theorem chg_no (h : (raiseV r.t tp 268435456).1 = r.t) : chg tp r = false := decide_eq_false (fun n => n h)
theorem clR_same (h : (raiseV r.t tp 268435456).1 = r.t) : clR tp r = r := by unfold clR; rw [h]; rfl
theorem mapTo_get : (mapTo g ts j)[j]? = ts[j]? := by
  unfold mapTo
  by_cases h : j < ts.length
  · rw [List.getElem?_append_right (by rw [List.length_map, List.length_take]; omega), List.length_map, List.length_take, List.getElem?_drop]
    congr 1; omega
  · rw [List.getElem?_eq_none (by simp; omega), List.getElem?_eq_none (by omega)]
theorem mapTo_len : (mapTo g ts j).length = ts.length := by unfold mapTo; simp; omega
theorem mapTo_on (hx : ts[j]? = some x) : mapTo g ts (j + 1) = (mapTo g ts j).set j (g x) := by
  obtain ⟨hj, he⟩ := List.getElem?_eq_some_iff.1 hx
  unfold mapTo
  rw [List.take_add_one, hx, List.map_append, List.set_append_right _ _ (by simp; omega)]
  have e1 : j - ((ts.take j).map g).length = 0 := by simp; omega
  rw [e1, ← List.getElem_cons_drop hj, he]
  simp
theorem mapTo_same (hx : ts[j]? = some x) (h : g x = x) : mapTo g ts (j + 1) = mapTo g ts j := by
  rw [mapTo_on hx, h]
  have hg : (mapTo g ts j)[j]? = some x := by rw [mapTo_get]; exact hx
  obtain ⟨hj, he⟩ := List.getElem?_eq_some_iff.1 hg
  rw [← he]; exact List.set_getElem_self hj
theorem mapTo_zero : mapTo g ts 0 = ts := by simp [mapTo]
theorem mapTo_all (h : ts.length ≤ j) : mapTo g ts j = ts.map g := by unfold mapTo; rw [List.take_of_length_le h, List.drop_of_length_le h, List.append_nil]
theorem outTo_yes (hx : ts[j]? = some x) (h : p x = true) : outTo p ts (j + 1) = outTo p ts j ++ [x.id] := by unfold outTo; rw [List.take_add_one, hx, List.filter_append, List.map_append]; simp [h]
theorem outTo_no (hx : ts[j]? = some x) (h : p x = false) : outTo p ts (j + 1) = outTo p ts j := by unfold outTo; rw [List.take_add_one, hx, List.filter_append, List.map_append]; simp [h]
theorem outTo_all (h : ts.length ≤ j) : outTo p ts j = (ts.filter p).map Rn.id := by unfold outTo; rw [List.take_of_length_le h]
theorem errL_zero : ∀ {l : List Rn}, (∀ y ∈ l, e y = 0) → errL e l = 0
  | [], _ => rfl
  | r :: l, h => by simp only [errL, h r (List.mem_cons_self ..), ne_eq, not_true_eq_false, if_false]; exact errL_zero fun y hy => h y (List.mem_cons_of_mem _ hy)
theorem errL_end (h : ∀ y ∈ ts.take j, e y = 0) (hj : ts.length ≤ j) : errL e ts = 0 := by rw [List.take_of_length_le hj] at h; exact errL_zero h
theorem errL_skip : ∀ {l m : List Rn}, (∀ y ∈ l, e y = 0) → errL e (l ++ m) = errL e m
  | [], _, _ => rfl
  | r :: l, m, h => by simp only [List.cons_append, errL, h r (List.mem_cons_self ..), ne_eq, not_true_eq_false, if_false]; exact errL_skip fun y hy => h y (List.mem_cons_of_mem _ hy)
theorem errL_at (h : ∀ y ∈ ts.take j, e y = 0) (hx : ts[j]? = some x) (hn : e x ≠ 0) : errL e ts = e x := by
  obtain ⟨hj, he⟩ := List.getElem?_eq_some_iff.1 hx
  conv => lhs; rw [← List.take_append_drop j ts]
  rw [errL_skip h, ← List.getElem_cons_drop hj, he]
  simp only [errL]; rw [if_pos hn]
theorem clip_bad (h : chkQ ts = false) : clipV ts = ([], [], 200) := by unfold clipV; rw [h]; rfl
theorem clip_err (h : chkQ ts = true) (h2 : errL (clE (topV ts).1) ts ≠ 0) : clipV ts = ([], [], errL (clE (topV ts).1) ts) := by unfold clipV; rw [if_pos h, if_pos h2]
theorem clip_ok (h : chkQ ts = true) (h2 : errL (clE (topV ts).1) ts = 0) : clipV ts = (ts.map (clR (topV ts).1), (ts.filter (chg (topV ts).1)).map Rn.id, 0) := by unfold clipV; rw [if_pos h, if_neg (by omega)]
end
end Go.Proofs.Ytnhkecfapohlgaa

/-! Queues: the top; where one is. -/
namespace Go.Proofs.Ytnhkecfapohlgaa
open Go Go.RowKit

set_option maxRecDepth 100000 in
theorem top_t (p : Option Addr) (n cap : Nat) (ts : List Rn) (w : World)
 (hts : Sv w p ts) (hn : n = ts.length) (hb : n ≤ 1000)
 (hU : ∀ r ∈ ts, r.U)
 : Calls Try.prog 49 #[.agg #[.slice p n cap]] w fun e w' => e = .returned (.tuple #[.agg #[.int .u64 (topV ts).1.hi, .int .u64 (topV ts).1.lo, .int .u64 (topV ts).1.w], .bool (topV ts).2]) ∧ Below w.heap.size w w' := by
 refine enter (Hs.start w) Try.func49 rfl Try.ntmps49 rfl (sq_ (ma0 [] [] (fun γ1 => [(1, .pointer (some ⟨γ1 0, 0, none⟩)), (2, .pointer (some ⟨γ1 1, 0, none⟩)), (3, .bool false)]) (fun γ1 L => bx (γ1 1) (#[.int .u64 0, .int .u64 0, .int .u64 0]) 33 :: bx (γ1 0) (#[.slice p n cap]) 24 :: L) (fun γ1 => ds_ (sq_ (sq_ (qa0 [(1, .go (owns 1 0 1))] [2, 3] [(7, .slice p n cap), (8, .int .i64 (n : Nat)), (9, .int .i64 0)] (ds_ (at_block (at_loop (α := Nat × Fq × Bool) [2, 3, 7, 8, 9] (fun ⟨j, f, b⟩ => [(2, .pointer (some ⟨γ1 1, 0, none⟩)), (3, .bool b), (7, .slice p n cap), (8, .int .i64 (n : Nat)), (9, .int .i64 (j : Nat))]) (fun ⟨j, f, b⟩ => [bx (γ1 1) (#[.int .u64 f.hi, .int .u64 f.lo, .int .u64 f.w]) 33, bx (γ1 0) (#[.slice p n cap]) 24]) (fun ⟨j, f, b⟩ => j ≤ n ∧ (f, b) = ((ts.take j).foldl topS (zF, false))) (fun ⟨j, f, b⟩ => n - j) (0, zF, false) (by kernel_rfl) rfl ⟨Nat.zero_le _, rfl⟩ ?_)))))))))
 rintro ⟨j, f, b⟩
 rintro ⟨hj, hs⟩
 have hUs : f.U := by have := foldT_U (j := j) hU; rw [← hs] at this; exact this
 refine sq_ ?_
 by_cases q4 : ((j : Nat) : Int) < ((n : Nat) : Int)
 ·
  refine qa [(0, .yes)] [2, 3, 7, 8, 9] [(10, .bool true)] ([((j : Nat) : Int) < ((n : Nat) : Int)]) (al1 q4) (ds_ (sq_ (t_ (at_skip (ds_ (sq_ (at_block (sq_ ?_))))))))
  obtain ⟨b7, o7, rfl⟩ := hts.pos (i := j) (by omega)
  obtain ⟨x9, hx9⟩ := get_some (l := ts) (m := j) (by omega)
  have hUx9 := hU x9 (List.mem_of_getElem? hx9)
  refine ma [(0, .at b7 o7 j), (1, .go (outs b7 (o7 + j * 5) [.int .i64 x9.id, .int .i64 x9.each, .int .u64 x9.th, .int .u64 x9.tl, .int .u64 x9.tw])), (3, .go (owns 0 0 5))] [2, 3, 7, 8, 9] (fun γ10 => [(5, .pointer (some ⟨γ10 0, 0, none⟩))]) (fun γ10 L => bx (γ10 0) (#[.int .i64 x9.id, .int .i64 x9.each, .int .u64 x9.th, .int .u64 x9.tl, .int .u64 x9.tw]) 35 :: L) (fun γ10 => [(some ⟨b7, o7, none⟩ : Option Addr) = some ⟨b7, o7, none⟩, (j : Nat) = ((j : Nat) : Int), j < n] ++ (cellsP w b7 (o7 + j * 5) [.int .i64 x9.id, .int .i64 x9.each, .int .u64 x9.th, .int .u64 x9.tl, .int .u64 x9.tw])) (fun γ10 => (alA (al2 rfl (al2 rfl (al1 (by omega)))) (rd_pre (hts.get hx9) _ rfl))) (fun γ10 => ds_ (sq_ ?_))
  rcases q12 : b with _ | _
  ·
   refine qa0 [] [2, 3, 5, 7, 8, 9] [(21, .bool true)] (ds_ (t_ (ma0 [(1, .go (owns 0 2 3)), (2, .go (owns 1 0 3))] [2, 7, 8, 9] (fun _ => [(3, .bool true)]) (fun _ L => (L.set 1 (bx (γ1 1) (#[.int .u64 x9.th, .int .u64 x9.tl, .int .u64 x9.tw]) 33))) (fun _ => done_block (ds_ (qa [(0, .fit)] [2, 3, 7, 8] [(9, .int .i64 (j + 1 : Nat))] ([Fit .i64 ((j + 1 : Nat))]) (al1 (fit64 (by omega) (by omega))) (Done.drop (L' := [bx (γ1 1) (#[.int .u64 x9.th, .int .u64 x9.tl, .int .u64 x9.tw]) 33, bx (γ1 0) (#[.slice (some ⟨b7, o7, none⟩) n cap]) 24]) ?_ (List.Sublist.cons _ (List.Sublist.cons_cons _ (List.Sublist.cons_cons _ (List.Sublist.refl _)))))))))))
   exact dr [2, 3, 7, 8, 9] (j + 1, x9.t, true) ⟨by omega, by rw [top_on hx9, ← hs, topS_yes (.inl q12)]⟩
  ·
   refine ao_ (qo0 6 [(4, .go (owns 0 2 3)), (5, .go (owns 1 0 3))] [2, 3, 5, 7, 8, 9] [(15, .bool false), (17, .agg #[.int .u64 x9.th, .int .u64 x9.tl, .int .u64 x9.tw]), (18, .agg #[.int .u64 f.hi, .int .u64 f.lo, .int .u64 f.w])] (cD (.int .i64 (cmpF x9.t f)) Try.call13 (fun w hw => fcmp_t x9.t f w hUx9.t hUs) ?_))
   by_cases q18 : ((cmpF x9.t f) : Int) > (0 : Int)
   ·
    refine qo 2 [(7, .yes)] [2, 3, 5, 7, 8, 9] [(21, .bool true)] ([((cmpF x9.t f) : Int) > (0 : Int)]) (al1 q18) (on_ (ds_ (t_ (ma0 [(1, .go (owns 0 2 3)), (2, .go (owns 1 0 3))] [2, 7, 8, 9] (fun _ => [(3, .bool true)]) (fun _ L => (L.set 1 (bx (γ1 1) (#[.int .u64 x9.th, .int .u64 x9.tl, .int .u64 x9.tw]) 33))) (fun _ => done_block (ds_ (qa [(0, .fit)] [2, 3, 7, 8] [(9, .int .i64 (j + 1 : Nat))] ([Fit .i64 ((j + 1 : Nat))]) (al1 (fit64 (by omega) (by omega))) (Done.drop (L' := [bx (γ1 1) (#[.int .u64 x9.th, .int .u64 x9.tl, .int .u64 x9.tw]) 33, bx (γ1 0) (#[.slice (some ⟨b7, o7, none⟩) n cap]) 24]) ?_ (List.Sublist.cons _ (List.Sublist.cons_cons _ (List.Sublist.cons_cons _ (List.Sublist.refl _))))))))))))
    exact dr [2, 3, 7, 8, 9] (j + 1, x9.t, true) ⟨by omega, by rw [top_on hx9, ← hs, topS_yes (.inr (by omega))]⟩
   ·
    refine qo 2 [(7, .no)] [2, 3, 5, 7, 8, 9] [(21, .bool false)] ([¬ (((cmpF x9.t f) : Int) > (0 : Int))]) (al1 q18) (on_ (ds_ (f_ (at_skip (done_block (ds_ (qa [(0, .fit)] [2, 3, 7, 8] [(9, .int .i64 (j + 1 : Nat))] ([Fit .i64 ((j + 1 : Nat))]) (al1 (fit64 (by omega) (by omega))) (Done.drop (L' := [bx (γ1 1) (#[.int .u64 f.hi, .int .u64 f.lo, .int .u64 f.w]) 33, bx (γ1 0) (#[.slice (some ⟨b7, o7, none⟩) n cap]) 24]) ?_ (List.Sublist.cons _ (List.Sublist.cons_cons _ (List.Sublist.cons_cons _ (List.Sublist.refl _))))))))))))
    exact dr [2, 3, 7, 8, 9] (j + 1, f, true) ⟨by omega, by rw [top_on hx9, ← hs, topS_no q12 (by omega)]; exact Prod.ext rfl q12.symm⟩
 ·
  refine qa [(0, .no)] [2, 3, 7, 8, 9] [(10, .bool false)] ([¬ (((j : Nat) : Int) < ((n : Nat) : Int))]) (al1 q4) (ds_ (sq_ (f_ (at_leave _ rfl (ds_ (sq_ (qa0 [(0, .go (owns 0 0 3)), (2, .go (owns 0 0 3))] [2] [(3, .bool b)] (ds_ (rt (owns 0 0 3) (.tuple #[.agg #[.int .u64 f.hi, .int .u64 f.lo, .int .u64 f.w], .bool b]) ?_)))))))))
  exact fun w' hw => ⟨by rw [← top_end (ts := ts) (j := j) (by omega), ← hs], hw.below⟩

set_option maxRecDepth 100000 in
theorem topq_t (p : Option Addr) (n cap : Nat) (ts : List Rn) (w : World)
 (hts : Sv w p ts) (hn : n = ts.length) (hb : n ≤ 1000)
 (hU : ∀ r ∈ ts, r.U)
 : Calls Try.prog 22 #[.agg #[.slice p n cap]] w fun e w' => e = .returned (.tuple #[.agg #[.int .u64 (topQ ts).1.hi, .int .u64 (topQ ts).1.lo, .int .u64 (topQ ts).1.w], .bool (topQ ts).2]) ∧ Below w.heap.size w w' := by
 refine enter (Hs.start w) Try.func22 rfl Try.ntmps22 rfl (sq_ (ma0 [] [] (fun γ1 => [(1, .pointer (some ⟨γ1 0, 0, none⟩)), (2, .pointer (some ⟨γ1 1, 0, none⟩))]) (fun γ1 L => bx (γ1 1) (#[.int .u64 0, .int .u64 0, .int .u64 0]) 33 :: bx (γ1 0) (#[.slice p n cap]) 24 :: L) (fun γ1 => ds_ (sq_ (sq_ (ao_ (qo0 1 [(0, .go (owns 1 0 1))] [1, 2] [(4, .agg #[.slice p n cap])] ?_)))))))
 rcases q3 : chkQ ts with _ | _
 ·
  refine cD (.int .i64 200) Try.call20 (fun w hw => by have := qcheck_t p n cap ts w (hts.kept hw.below) hn (by omega); rw [q3] at this; exact this) (qo0 1 [] [1, 2] [(6, .bool true)] (on_ (ds_ (t_ (sq_ (qa0 [(1, .go (owns 0 0 3))] [2] [(3, .bool false)] (ds_ (rt (owns 0 0 3) (.tuple #[.agg #[.int .u64 0, .int .u64 0, .int .u64 0], .bool false]) ?_))))))))
  exact fun w' hw => ⟨by rw [topQ_bad q3], hw.below⟩
 ·
  refine cD (.int .i64 0) Try.call20 (fun w hw => by have := qcheck_t p n cap ts w (hts.kept hw.below) hn (by omega); rw [q3] at this; exact this) (qo0 1 [] [1, 2] [(6, .bool false)] (on_ (ds_ (f_ (at_skip (ds_ (sq_ (ao_ (qo0 1 [(0, .go (owns 1 0 1))] [2] [(8, .agg #[.slice p n cap])] (cD (.tuple #[.agg #[.int .u64 ((topV ts).1.hi), .int .u64 ((topV ts).1.lo), .int .u64 ((topV ts).1.w)], .bool ((topV ts).2)]) Try.call49 (fun w hw => top_t p n cap ts w (hts.kept hw.below) hn (by omega) hU) (mo0 4 [(4, .go (owns 0 0 3))] [2] (fun _ => [(3, .bool ((topV ts).2))]) (fun _ L => (L.set 0 (bx (γ1 1) (#[.int .u64 ((topV ts).1.hi), .int .u64 ((topV ts).1.lo), .int .u64 ((topV ts).1.w)]) 33))) (fun _ => on_ (ds_ (rt (owns 0 0 3) (.tuple #[.agg #[.int .u64 ((topV ts).1.hi), .int .u64 ((topV ts).1.lo), .int .u64 ((topV ts).1.w)], .bool ((topV ts).2)]) ?_))))))))))))))
  exact fun w' hw => ⟨by rw [topQ_ok q3], hw.below⟩

set_option maxRecDepth 100000 in
theorem at1_t (x : Rn) (k : Int) (w : World)
 : Calls Try.prog 67 #[.agg #[.int .i64 x.id, .int .i64 x.each, .int .u64 x.th, .int .u64 x.tl, .int .u64 x.tw], .int .i64 k] w fun e w' => e = .returned (.int .i64 (subW x.id k)) ∧ Below w.heap.size w w' := by
 refine enter (Hs.start w) Try.func67 rfl Try.ntmps67 rfl (sq_ (ma0 [] [1] (fun γ1 => [(2, .pointer (some ⟨γ1 0, 0, none⟩))]) (fun γ1 L => bx (γ1 0) (#[.int .i64 x.id, .int .i64 x.each, .int .u64 x.th, .int .u64 x.tl, .int .u64 x.tw]) 35 :: L) (fun γ1 => ds_ (sq_ (ao_ (qo0 3 [(1, .go (owns 0 0 1))] [] [(6, .int .i64 x.id), (7, .int .i64 k)] (ops_opv (.int .i64 (subW x.id k)) (by kernel_rfl) (by kernel_rfl) (by kernel_rfl) (fun w => run_subW (a := x.id) (b := k) (subW x.id k) rfl (by kernel_rfl) (by kernel_rfl) rfl w) (qo0 1 [] [] [(4, .int .i64 (subW x.id k))] (on_ (ds_ (rt ([]) (.int .i64 (subW x.id k)) ?_)))))))))))
 exact fun w' hw => ⟨rfl, hw.below⟩

set_option maxRecDepth 100000 in
theorem bst (g : FuncId) (cb : Array Value) (p : Option Addr) (n cap : Nat) (l : List Rn) (f c : Rn → Int) (k : Int) (w : World)
 (hg : ∀ args w, (callFunc g args).run Try.prog w = .ok (.enter g args) w)
 (hsl : Sv w p l) (hn : n = l.length) (hb : n ≤ 4611686018427387903)
 (hc : ∀ x ∈ l, ∀ w', Below w.heap.size w w' → Calls Try.prog g (#[.agg #[.int .i64 x.id, .int .i64 x.each, .int .u64 x.th, .int .u64 x.tl, .int .u64 x.tw], .int .i64 k] ++ cb) w' fun e w1 => e = .returned (.int .i64 (c x)) ∧ Below w'.heap.size w' w1)
 (hs : ∀ x ∈ l, (c x < 0 ↔ f x < k) ∧ (c x = 0 ↔ f x = k)) (ha : AscK f l)
 : Calls Try.prog 66 #[.slice p n cap, .int .i64 k, .func (.func g) #[] cb] w fun e w' => e = .returned (.tuple #[.int .i64 (posK f l k : Nat), .bool (hasK f l k)]) ∧ Below w.heap.size w w' := by
 refine enter (Hs.start w) Try.func66 rfl Try.ntmps66 rfl (sq_ (qa0 [] [0, 1, 2] [] (ds_ (sq_ (qa0 [] [0, 1, 2] [(8, .int .i64 (n : Nat))] (ds_ (sq_ (qa0 [] [0, 1, 2, 8] [(9, .int .i64 0), (10, .int .i64 (n : Nat))] (ds_ (sq_ (at_block (at_loop (α := Nat × Nat) [0, 1, 2, 8, 9, 10] (fun ⟨lo, hi⟩ => [(0, .slice p n cap), (1, .int .i64 k), (2, .func (.func g) #[] cb), (8, .int .i64 (n : Nat)), (9, .int .i64 (lo : Nat)), (10, .int .i64 (hi : Nat))]) (fun ⟨lo, hi⟩ => []) (fun ⟨lo, hi⟩ => lo ≤ hi ∧ hi ≤ n ∧ BsK f l k lo hi) (fun ⟨lo, hi⟩ => hi - lo) (0, n) (by kernel_rfl) rfl ⟨Nat.zero_le _, Nat.le_refl _, by subst hn; exact bsk_start⟩ ?_))))))))))))
 rintro ⟨lo, hi⟩
 rintro ⟨h1, h2, hI⟩
 refine sq_ (sq_ ?_)
 by_cases q5 : ((lo : Nat) : Int) < ((hi : Nat) : Int)
 ·
  refine qa [(2, .yes)] [0, 1, 2, 8, 9, 10] [(17, .bool true)] ([((lo : Nat) : Int) < ((hi : Nat) : Int)]) (al1 q5) (ds_ (t_ (at_skip (ds_ (at_block (sq_ (qa [(2, .fit), (3, .fit), (4, .is [] (.int .u64 ((lo + hi) / 2 : Nat))), (5, .fit)] [0, 1, 2, 8, 9, 10] [(11, .int .i64 ((lo + hi) / 2 : Nat))] ([Fit .i64 ((lo + hi : Nat))] ++ ([Fit .u64 ((lo + hi : Nat))] ++ ([Value.int .u64 (Int.fdiv ((lo : Nat) + (hi : Nat)) (2 ^ 1)) = .int .u64 (((lo + hi) / 2 : Nat) : Int)] ++ ([Fit .i64 (((lo + hi) / 2 : Nat))])))) (alA (al1 (fit64 (by omega) (by omega))) (alA (al1 (fitU (by omega) (by omega))) (alA (al1 (half lo hi)) (al1 (fit64 (by omega) (by omega)))))) (ds_ (sq_ ?_)))))))))
  obtain ⟨b9, o9, rfl⟩ := hsl.pos (i := (lo + hi) / 2) (by omega)
  obtain ⟨x11, hx11⟩ := get_some (l := l) (m := (lo + hi) / 2) (by omega)
  refine ao_ (qo 6 [(3, .at b9 o9 ((lo + hi) / 2)), (4, .go (outs b9 (o9 + ((lo + hi) / 2) * 5) [.int .i64 x11.id, .int .i64 x11.each, .int .u64 x11.th, .int .u64 x11.tl, .int .u64 x11.tw]))] [0, 1, 2, 8, 9, 10, 11] [(24, .func (.func g) #[] cb), (28, .agg #[.int .i64 x11.id, .int .i64 x11.each, .int .u64 x11.th, .int .u64 x11.tl, .int .u64 x11.tw]), (29, .int .i64 k)] ([(some ⟨b9, o9, none⟩ : Option Addr) = some ⟨b9, o9, none⟩, ((lo + hi) / 2 : Nat) = (((lo + hi) / 2 : Nat) : Int), (lo + hi) / 2 < n] ++ (cellsP w b9 (o9 + ((lo + hi) / 2) * 5) [.int .i64 x11.id, .int .i64 x11.each, .int .u64 x11.th, .int .u64 x11.tl, .int .u64 x11.tw])) (alA (al2 rfl (al2 rfl (al1 (by omega)))) (rd_pre (hsl.get hx11) _ rfl)) (cD (.int .i64 (c x11)) hg (fun w hw => hc x11 (List.mem_of_getElem? hx11) w hw.below) ?_))
  by_cases q14 : (c x11 : Int) < (0 : Int)
  ·
   refine qo 1 [(7, .yes)] [0, 1, 2, 8, 9, 10, 11] [(31, .bool true)] ([(c x11 : Int) < (0 : Int)]) (al1 q14) (on_ (ds_ (t_ (qa [(1, .fit)] [0, 1, 2, 8, 10] [(9, .int .i64 ((lo + hi) / 2 + 1 : Nat))] ([Fit .i64 (((lo + hi) / 2 + 1 : Nat))]) (al1 (fit64 (by omega) (by omega))) (done_block ?_)))))
   exact dr [0, 1, 2, 8, 9, 10] ((lo + hi) / 2 + 1, hi) ⟨by omega, by omega, bsk_low hI ha hx11 ((hs x11 (List.mem_of_getElem? hx11)).1.1 q14)⟩
  ·
   refine qo 1 [(7, .no)] [0, 1, 2, 8, 9, 10, 11] [(31, .bool false)] ([¬ ((c x11 : Int) < (0 : Int))]) (al1 q14) (on_ (ds_ (f_ (qa0 [] [0, 1, 2, 8, 9] [(10, .int .i64 ((lo + hi) / 2 : Nat))] (done_block ?_)))))
   exact dr [0, 1, 2, 8, 9, 10] (lo, (lo + hi) / 2) ⟨by omega, by omega, bsk_high hI ha hx11 (fun h => q14 ((hs x11 (List.mem_of_getElem? hx11)).1.2 h))⟩
 ·
  refine qa [(2, .no)] [0, 1, 2, 8, 9, 10] [(17, .bool false)] ([¬ (((lo : Nat) : Int) < ((hi : Nat) : Int))]) (al1 q5) (ds_ (f_ (at_leave _ rfl (ds_ (sq_ ?_)))))
  by_cases q21 : ((lo : Nat) : Int) < ((n : Nat) : Int)
  ·
   obtain ⟨b23, o23, rfl⟩ := hsl.pos (i := lo) (by omega)
   obtain ⟨x25, hx25⟩ := get_some (l := l) (m := lo) (by omega)
   refine ao_ (qo 11 [(3, .yes), (8, .at b23 o23 lo), (9, .go (outs b23 (o23 + lo * 5) [.int .i64 x25.id, .int .i64 x25.each, .int .u64 x25.th, .int .u64 x25.tl, .int .u64 x25.tw]))] [] [(35, .int .i64 (lo : Nat)), (39, .bool true), (40, .func (.func g) #[] cb), (44, .agg #[.int .i64 x25.id, .int .i64 x25.each, .int .u64 x25.th, .int .u64 x25.tl, .int .u64 x25.tw]), (45, .int .i64 k)] ([((lo : Nat) : Int) < ((n : Nat) : Int)] ++ ([(some ⟨b23, o23, none⟩ : Option Addr) = some ⟨b23, o23, none⟩, (lo : Nat) = ((lo : Nat) : Int), lo < n] ++ (cellsP w b23 (o23 + lo * 5) [.int .i64 x25.id, .int .i64 x25.each, .int .u64 x25.th, .int .u64 x25.tl, .int .u64 x25.tw]))) (alA (al1 q21) (alA (al2 rfl (al2 rfl (al1 (by omega)))) (rd_pre (hsl.get hx25) _ rfl))) (cD (.int .i64 (c x25)) hg (fun w hw => hc x25 (List.mem_of_getElem? hx25) w hw.below) ?_))
   by_cases q28 : (c x25 : Int) = (0 : Int)
   ·
    refine qo 4 [(12, .yes)] [] [(6, .int .i64 (lo : Nat)), (7, .bool true)] ([(c x25 : Int) = (0 : Int)]) (al1 q28) (on_ (ds_ (rt ([]) (.tuple #[.int .i64 (lo : Nat), .bool true]) ?_)))
    exact fun w' hw => ⟨by rw [bsk_end hI (by omega) h1 (by omega), hask_found hx25 ((hs x25 (List.mem_of_getElem? hx25)).2.1 q28)], hw.below⟩
   ·
    refine qo 4 [(12, .no)] [] [(6, .int .i64 (lo : Nat)), (7, .bool false)] ([¬ ((c x25 : Int) = (0 : Int))]) (al1 q28) (on_ (ds_ (rt ([]) (.tuple #[.int .i64 (lo : Nat), .bool false]) ?_)))
    exact fun w' hw => ⟨by rw [bsk_end hI (by omega) h1 (by omega), hask_other hI (by omega) h1 ha hx25 (fun h => q28 ((hs x25 (List.mem_of_getElem? hx25)).2.2 h))], hw.below⟩
  ·
   refine qa [(3, .no)] [] [(6, .int .i64 (lo : Nat)), (7, .bool false)] ([¬ (((lo : Nat) : Int) < ((n : Nat) : Int))]) (al1 q21) (ds_ (rt ([]) (.tuple #[.int .i64 (lo : Nat), .bool false]) ?_))
   exact fun w' hw => ⟨by rw [bsk_end hI (by omega) h1 (by omega), hask_none hI (by omega) h1 (by omega)], hw.below⟩

set_option maxRecDepth 100000 in
theorem bswt (g : FuncId) (cb : Array Value) (p : Option Addr) (n cap : Nat) (l : List Rn) (c : Rn → Int) (k : Int) (w : World)
 (hg : ∀ args w, (callFunc g args).run Try.prog w = .ok (.enter g args) w)
 (hsl : Sv w p l) (hn : n = l.length) (hb : n ≤ 4611686018427387903)
 (hc : ∀ x ∈ l, ∀ w', Below w.heap.size w w' → Calls Try.prog g (#[.agg #[.int .i64 x.id, .int .i64 x.each, .int .u64 x.th, .int .u64 x.tl, .int .u64 x.tw], .int .i64 k] ++ cb) w' fun e w1 => e = .returned (.int .i64 (c x)) ∧ Below w'.heap.size w' w1)
 : Calls Try.prog 66 #[.slice p n cap, .int .i64 k, .func (.func g) #[] cb] w fun e w' => ∃ (i : Nat) (b : Bool), e = .returned (.tuple #[.int .i64 (i : Nat), .bool b]) ∧ i ≤ n ∧ (b = true → ∃ x, l[i]? = some x ∧ c x = 0) ∧ Below w.heap.size w w' := by
 refine enter (Hs.start w) Try.func66 rfl Try.ntmps66 rfl (sq_ (qa0 [] [0, 1, 2] [] (ds_ (sq_ (qa0 [] [0, 1, 2] [(8, .int .i64 (n : Nat))] (ds_ (sq_ (qa0 [] [0, 1, 2, 8] [(9, .int .i64 0), (10, .int .i64 (n : Nat))] (ds_ (sq_ (at_block (at_loop (α := Nat × Nat) [0, 1, 2, 8, 9, 10] (fun ⟨lo, hi⟩ => [(0, .slice p n cap), (1, .int .i64 k), (2, .func (.func g) #[] cb), (8, .int .i64 (n : Nat)), (9, .int .i64 (lo : Nat)), (10, .int .i64 (hi : Nat))]) (fun ⟨lo, hi⟩ => []) (fun ⟨lo, hi⟩ => lo ≤ hi ∧ hi ≤ n) (fun ⟨lo, hi⟩ => hi - lo) (0, n) (by kernel_rfl) rfl ⟨Nat.zero_le _, Nat.le_refl _⟩ ?_))))))))))))
 rintro ⟨lo, hi⟩
 rintro ⟨h1, h2⟩
 refine sq_ (sq_ ?_)
 by_cases q5 : ((lo : Nat) : Int) < ((hi : Nat) : Int)
 ·
  refine qa [(2, .yes)] [0, 1, 2, 8, 9, 10] [(17, .bool true)] ([((lo : Nat) : Int) < ((hi : Nat) : Int)]) (al1 q5) (ds_ (t_ (at_skip (ds_ (at_block (sq_ (qa [(2, .fit), (3, .fit), (4, .is [] (.int .u64 ((lo + hi) / 2 : Nat))), (5, .fit)] [0, 1, 2, 8, 9, 10] [(11, .int .i64 ((lo + hi) / 2 : Nat))] ([Fit .i64 ((lo + hi : Nat))] ++ ([Fit .u64 ((lo + hi : Nat))] ++ ([Value.int .u64 (Int.fdiv ((lo : Nat) + (hi : Nat)) (2 ^ 1)) = .int .u64 (((lo + hi) / 2 : Nat) : Int)] ++ ([Fit .i64 (((lo + hi) / 2 : Nat))])))) (alA (al1 (fit64 (by omega) (by omega))) (alA (al1 (fitU (by omega) (by omega))) (alA (al1 (half lo hi)) (al1 (fit64 (by omega) (by omega)))))) (ds_ (sq_ ?_)))))))))
  obtain ⟨b9, o9, rfl⟩ := hsl.pos (i := (lo + hi) / 2) (by omega)
  obtain ⟨x11, hx11⟩ := get_some (l := l) (m := (lo + hi) / 2) (by omega)
  refine ao_ (qo 6 [(3, .at b9 o9 ((lo + hi) / 2)), (4, .go (outs b9 (o9 + ((lo + hi) / 2) * 5) [.int .i64 x11.id, .int .i64 x11.each, .int .u64 x11.th, .int .u64 x11.tl, .int .u64 x11.tw]))] [0, 1, 2, 8, 9, 10, 11] [(24, .func (.func g) #[] cb), (28, .agg #[.int .i64 x11.id, .int .i64 x11.each, .int .u64 x11.th, .int .u64 x11.tl, .int .u64 x11.tw]), (29, .int .i64 k)] ([(some ⟨b9, o9, none⟩ : Option Addr) = some ⟨b9, o9, none⟩, ((lo + hi) / 2 : Nat) = (((lo + hi) / 2 : Nat) : Int), (lo + hi) / 2 < n] ++ (cellsP w b9 (o9 + ((lo + hi) / 2) * 5) [.int .i64 x11.id, .int .i64 x11.each, .int .u64 x11.th, .int .u64 x11.tl, .int .u64 x11.tw])) (alA (al2 rfl (al2 rfl (al1 (by omega)))) (rd_pre (hsl.get hx11) _ rfl)) (cD (.int .i64 (c x11)) hg (fun w hw => hc x11 (List.mem_of_getElem? hx11) w hw.below) ?_))
  by_cases q14 : (c x11 : Int) < (0 : Int)
  ·
   refine qo 1 [(7, .yes)] [0, 1, 2, 8, 9, 10, 11] [(31, .bool true)] ([(c x11 : Int) < (0 : Int)]) (al1 q14) (on_ (ds_ (t_ (qa [(1, .fit)] [0, 1, 2, 8, 10] [(9, .int .i64 ((lo + hi) / 2 + 1 : Nat))] ([Fit .i64 (((lo + hi) / 2 + 1 : Nat))]) (al1 (fit64 (by omega) (by omega))) (done_block ?_)))))
   exact dr [0, 1, 2, 8, 9, 10] ((lo + hi) / 2 + 1, hi) ⟨by omega, by omega⟩
  ·
   refine qo 1 [(7, .no)] [0, 1, 2, 8, 9, 10, 11] [(31, .bool false)] ([¬ ((c x11 : Int) < (0 : Int))]) (al1 q14) (on_ (ds_ (f_ (qa0 [] [0, 1, 2, 8, 9] [(10, .int .i64 ((lo + hi) / 2 : Nat))] (done_block ?_)))))
   exact dr [0, 1, 2, 8, 9, 10] (lo, (lo + hi) / 2) ⟨by omega, by omega⟩
 ·
  refine qa [(2, .no)] [0, 1, 2, 8, 9, 10] [(17, .bool false)] ([¬ (((lo : Nat) : Int) < ((hi : Nat) : Int))]) (al1 q5) (ds_ (f_ (at_leave _ rfl (ds_ (sq_ ?_)))))
  by_cases q21 : ((lo : Nat) : Int) < ((n : Nat) : Int)
  ·
   obtain ⟨b23, o23, rfl⟩ := hsl.pos (i := lo) (by omega)
   obtain ⟨x25, hx25⟩ := get_some (l := l) (m := lo) (by omega)
   refine ao_ (qo 11 [(3, .yes), (8, .at b23 o23 lo), (9, .go (outs b23 (o23 + lo * 5) [.int .i64 x25.id, .int .i64 x25.each, .int .u64 x25.th, .int .u64 x25.tl, .int .u64 x25.tw]))] [] [(35, .int .i64 (lo : Nat)), (39, .bool true), (40, .func (.func g) #[] cb), (44, .agg #[.int .i64 x25.id, .int .i64 x25.each, .int .u64 x25.th, .int .u64 x25.tl, .int .u64 x25.tw]), (45, .int .i64 k)] ([((lo : Nat) : Int) < ((n : Nat) : Int)] ++ ([(some ⟨b23, o23, none⟩ : Option Addr) = some ⟨b23, o23, none⟩, (lo : Nat) = ((lo : Nat) : Int), lo < n] ++ (cellsP w b23 (o23 + lo * 5) [.int .i64 x25.id, .int .i64 x25.each, .int .u64 x25.th, .int .u64 x25.tl, .int .u64 x25.tw]))) (alA (al1 q21) (alA (al2 rfl (al2 rfl (al1 (by omega)))) (rd_pre (hsl.get hx25) _ rfl))) (cD (.int .i64 (c x25)) hg (fun w hw => hc x25 (List.mem_of_getElem? hx25) w hw.below) ?_))
   by_cases q28 : (c x25 : Int) = (0 : Int)
   ·
    refine qo 4 [(12, .yes)] [] [(6, .int .i64 (lo : Nat)), (7, .bool true)] ([(c x25 : Int) = (0 : Int)]) (al1 q28) (on_ (ds_ (rt ([]) (.tuple #[.int .i64 (lo : Nat), .bool true]) ?_)))
    exact fun w' hw => ⟨lo, true, rfl, by omega, fun _ => ⟨x25, hx25, q28⟩, hw.below⟩
   ·
    refine qo 4 [(12, .no)] [] [(6, .int .i64 (lo : Nat)), (7, .bool false)] ([¬ ((c x25 : Int) = (0 : Int))]) (al1 q28) (on_ (ds_ (rt ([]) (.tuple #[.int .i64 (lo : Nat), .bool false]) ?_)))
    exact fun w' hw => ⟨lo, false, rfl, by omega, fun h => (by cases h), hw.below⟩
  ·
   refine qa [(3, .no)] [] [(6, .int .i64 (lo : Nat)), (7, .bool false)] ([¬ (((lo : Nat) : Int) < ((n : Nat) : Int))]) (al1 q21) (ds_ (rt ([]) (.tuple #[.int .i64 (lo : Nat), .bool false]) ?_))
   exact fun w' hw => ⟨lo, false, rfl, by omega, fun h => (by cases h), hw.below⟩

set_option maxRecDepth 100000 in
theorem at_t (p : Option Addr) (n cap : Nat) (ts : List Rn) (k : Int) (w : World)
 (hts : Sv w p ts) (hn : n = ts.length) (hb : n ≤ 1000)
 (hg : GoodQ ts) (hk : idV k = true)
 : Calls Try.prog 34 #[.slice p n cap, .int .i64 k] w fun e w' => e = .returned (.tuple #[.int .i64 (posK Rn.id ts k : Nat), .bool (hasK Rn.id ts k)]) ∧ Below w.heap.size w w' := by
 refine enter (Hs.start w) Try.func34 rfl Try.ntmps34 rfl (sq_ (qa0 [] [0, 1] [] (ds_ (sq_ (ao_ (qo0 2 [] [] [(6, .slice p n cap), (7, .int .i64 k)] (cD (.tuple #[.int .i64 (posK Rn.id ts k : Nat), .bool (hasK Rn.id ts k)]) Try.call66 (fun w hw => bst 67 #[] p n cap ts Rn.id (fun x => subW x.id k) k w Try.call67 (hts.kept hw.below) hn (by omega) (fun x hx w' hb' => at1_t x k w') (fun x hx => subW_iff (hg.bnd hx).1 (hg.bnd hx).2.1 (idV_iff.1 hk).1 (idV_iff.1 hk).2) hg.rs.asc) (qo0 4 [] [] [(4, .int .i64 (posK Rn.id ts k : Nat)), (5, .bool (hasK Rn.id ts k))] (on_ (ds_ (rt ([]) (.tuple #[.int .i64 (posK Rn.id ts k : Nat), .bool (hasK Rn.id ts k)]) ?_)))))))))))
 exact fun w' hw => ⟨rfl, hw.below⟩

set_option maxRecDepth 100000 in
theorem atw_t (p : Option Addr) (n cap : Nat) (ts : List Rn) (k : Int) (w : World)
 (hts : Sv w p ts) (hn : n = ts.length) (hb : n ≤ 1000)
 (hU : ∀ r ∈ ts, r.U)
 (hk0 : -9223372036854775808 ≤ k) (hk1 : k ≤ 9223372036854775807)
 : Calls Try.prog 34 #[.slice p n cap, .int .i64 k] w fun e w' => ∃ (i : Nat) (b : Bool), e = .returned (.tuple #[.int .i64 (i : Nat), .bool b]) ∧ i ≤ n ∧ (b = true → ∃ x, ts[i]? = some x ∧ x.id = k) ∧ Below w.heap.size w w' := by
 refine enter (Hs.start w) Try.func34 rfl Try.ntmps34 rfl (sq_ (qa0 [] [0, 1] [] (ds_ (sq_ (ao_ (qo0 2 [] [] [(6, .slice p n cap), (7, .int .i64 k)] (cP (fun v L' => ∃ (i : Nat) (b : Bool), v = .tuple #[.int .i64 (i : Nat), .bool b] ∧ L' = [] ∧ i ≤ n ∧ (b = true → ∃ x, ts[i]? = some x ∧ subW x.id k = 0)) Try.call66 (fun w hw => (bswt 67 #[] p n cap ts (fun x => subW x.id k) k w Try.call67 (hts.kept hw.below) hn (by omega) (fun x hx w' hb' => at1_t x k w')).mono (fun e w' ⟨i, b, he, h1, h2, h3⟩ => ⟨_, _, he, ⟨i, b, rfl, rfl, h1, h2⟩, hw.kept h3⟩)) ?_)))))))
 rintro v3 L3 ⟨i3, b3, rfl, rfl, hi3, hb3⟩
 refine qo0 4 [] [] [(4, .int .i64 (i3 : Nat)), (5, .bool b3)] (on_ (ds_ (rt ([]) (.tuple #[.int .i64 (i3 : Nat), .bool b3]) ?_)))
 exact fun w' hw => ⟨i3, b3, rfl, hi3, fun h => by obtain ⟨x, hx, hc⟩ := hb3 h; exact ⟨x, hx, subW_zero hc (hU x (List.mem_of_getElem? hx)).i0 (hU x (List.mem_of_getElem? hx)).i1 hk0 hk1⟩, hw.below⟩
theorem atx_t (p : Option Addr) (n cap : Nat) (ts : List Rn) (k : Int) (w : World)
 (hts : Sv w p ts) (hn : n = ts.length) (hb : n ≤ 1000)
 (hU : ∀ r ∈ ts, r.U) (hk0 : -9223372036854775808 ≤ k) (hk1 : k ≤ 9223372036854775807) (hg : GoodQ ts) (hk : idV k = false)
 : Calls Try.prog 34 #[.slice p n cap, .int .i64 k] w fun e w' => ∃ (i : Nat), e = .returned (.tuple #[.int .i64 (i : Nat), .bool false]) ∧ Below w.heap.size w w' :=
 (atw_t p n cap ts k w hts hn hb hU hk0 hk1).mono fun e w' ⟨i, b, he, h1, h2, h3⟩ => by
  cases b with
  | false => exact ⟨i, he, h3⟩
  | true =>
   obtain ⟨x, hx, hxk⟩ := h2 rfl
   have := hg.bnd (List.mem_of_getElem? hx)
   exact absurd (idV_iff.2 ⟨by omega, by omega⟩ : idV k = true) (by rw [hk]; decide)
end Go.Proofs.Ytnhkecfapohlgaa

/-! Queues: Get. -/
namespace Go.Proofs.Ytnhkecfapohlgaa
open Go Go.RowKit

set_option maxRecDepth 100000 in
theorem getq_t (p : Option Addr) (n cap : Nat) (ts : List Rn) (k : Int) (w : World)
 (hts : Sv w p ts) (hn : n = ts.length) (hb : n ≤ 1000)
 (hU : ∀ r ∈ ts, r.U)
 (hk0 : -9223372036854775808 ≤ k) (hk1 : k ≤ 9223372036854775807)
 : Calls Try.prog 11 #[.agg #[.slice p n cap], .int .i64 k] w fun e w' => e = .returned (getO (getQ ts k)) ∧ Below w.heap.size w w' := by
 refine enter (Hs.start w) Try.func11 rfl Try.ntmps11 rfl (sq_ (ma0 [] [1] (fun γ1 => [(2, .pointer (some ⟨γ1 0, 0, none⟩)), (4, .pointer (some ⟨γ1 1, 0, none⟩))]) (fun γ1 L => bx (γ1 1) (#[.int .i64 0, .int .i64 0, .int .u64 0, .int .u64 0, .int .u64 0]) 35 :: bx (γ1 0) (#[.slice p n cap]) 24 :: L) (fun γ1 => ds_ (sq_ ?_))))
 rcases q2 : chkQ ts with _ | _
 ·
  refine ao_ (qo0 3 [(1, .go (owns 1 0 1))] [2, 4] [(10, .slice p n cap), (11, .int .i64 k)] (cP (fun v L' => ∃ (i : Nat) (b : Bool), v = .tuple #[.int .i64 (i : Nat), .bool b] ∧ L' = [bx (γ1 1) (#[.int .i64 0, .int .i64 0, .int .u64 0, .int .u64 0, .int .u64 0]) 35, bx (γ1 0) (#[.slice p n cap]) 24] ∧ i ≤ n ∧ (b = true → ∃ x, ts[i]? = some x ∧ x.id = k)) Try.call34 (fun w hw => (atw_t p n cap ts k w (hts.kept hw.below) hn (by omega) hU hk0 hk1).mono (fun e w' ⟨i, b, he, h1, h2, h3⟩ => ⟨_, _, he, ⟨i, b, rfl, rfl, h1, h2⟩, hw.kept h3⟩)) ?_))
  rintro v4 L4 ⟨i4, b4, rfl, rfl, hi4, hb4⟩
  refine qo0 5 [] [2, 4] [(6, .int .i64 (i4 : Nat)), (7, .bool b4)] (on_ (ds_ (sq_ (sq_ (ao_ (qo0 1 [(0, .go (owns 1 0 1))] [2, 4, 6, 7] [(15, .agg #[.slice p n cap])] (cD (.int .i64 200) Try.call20 (fun w hw => by have := qcheck_t p n cap ts w (hts.kept hw.below) hn (by omega); rw [q2] at this; exact this) (qo0 5 [] [2, 4, 6] [(21, .bool true)] (on_ (ds_ (t_ (sq_ (qa0 [(1, .go (owns 0 0 5))] [4] [(5, .bool false)] (ds_ (rt (owns 0 0 5) (.tuple #[.agg #[.int .i64 0, .int .i64 0, .int .u64 0, .int .u64 0, .int .u64 0], .bool false]) ?_)))))))))))))))
  exact fun w' hw => ⟨by rw [getQ_bad q2]; rfl, hw.below⟩
 ·
  rcases q9 : idV k with _ | _
  ·
   refine ao_ (qo0 3 [(1, .go (owns 1 0 1))] [2, 4] [(10, .slice p n cap), (11, .int .i64 k)] (cP (fun v L' => ∃ (i : Nat), v = .tuple #[.int .i64 (i : Nat), .bool false] ∧ L' = [bx (γ1 1) (#[.int .i64 0, .int .i64 0, .int .u64 0, .int .u64 0, .int .u64 0]) 35, bx (γ1 0) (#[.slice p n cap]) 24]) Try.call34 (fun w hw => (atx_t p n cap ts k w (hts.kept hw.below) hn (by omega) hU hk0 hk1 (chk_iff.1 q2) q9).mono (fun e w' ⟨i, he, h3⟩ => ⟨_, _, he, ⟨i, rfl, rfl⟩, hw.kept h3⟩)) ?_))
   rintro v11 L11 ⟨i11, rfl, rfl⟩
   refine qo0 5 [] [2, 4] [(6, .int .i64 (i11 : Nat)), (7, .bool false)] (on_ (ds_ (sq_ (sq_ (ao_ (qo0 1 [(0, .go (owns 1 0 1))] [2, 4, 6, 7] [(15, .agg #[.slice p n cap])] (cD (.int .i64 0) Try.call20 (fun w hw => by have := qcheck_t p n cap ts w (hts.kept hw.below) hn (by omega); rw [q2] at this; exact this) (qo0 5 [] [2, 4, 6] [(21, .bool true)] (on_ (ds_ (t_ (sq_ (qa0 [(1, .go (owns 0 0 5))] [4] [(5, .bool false)] (ds_ (rt (owns 0 0 5) (.tuple #[.agg #[.int .i64 0, .int .i64 0, .int .u64 0, .int .u64 0, .int .u64 0], .bool false]) ?_)))))))))))))))
   exact fun w' hw => ⟨by rw [getQ_ok q2, getQ_out q2 q9]; rfl, hw.below⟩
  ·
   refine ao_ (qo0 3 [(1, .go (owns 1 0 1))] [2, 4] [(10, .slice p n cap), (11, .int .i64 k)] ?_)
   rcases hg17 : getK Rn.id ts k with _ | y17
   ·
    have hpl17 := (pos_cut (k := k) (chk_iff.1 q2).rs).2.2
    refine cD (.tuple #[.int .i64 (posK Rn.id ts k : Nat), .bool false]) Try.call34 (fun w hw => by have := at_t p n cap ts k w (hts.kept hw.below) hn (by omega) (chk_iff.1 q2) q9; rw [hasK_none hg17] at this; exact this) (qo0 5 [] [2, 4] [(6, .int .i64 (posK Rn.id ts k : Nat)), (7, .bool false)] (on_ (ds_ (sq_ (sq_ (ao_ (qo0 1 [(0, .go (owns 1 0 1))] [2, 4, 6, 7] [(15, .agg #[.slice p n cap])] (cD (.int .i64 0) Try.call20 (fun w hw => by have := qcheck_t p n cap ts w (hts.kept hw.below) hn (by omega); rw [q2] at this; exact this) (qo0 5 [] [2, 4, 6] [(21, .bool true)] (on_ (ds_ (t_ (sq_ (qa0 [(1, .go (owns 0 0 5))] [4] [(5, .bool false)] (ds_ (rt (owns 0 0 5) (.tuple #[.agg #[.int .i64 0, .int .i64 0, .int .u64 0, .int .u64 0, .int .u64 0], .bool false]) ?_))))))))))))))))
    exact fun w' hw => ⟨by rw [getQ_ok q2, hg17]; rfl, hw.below⟩
   ·
    have hp_y17 := pos_getK (chk_iff.1 q2).rs hg17
    have hl_y17 := (List.getElem?_eq_some_iff.1 hp_y17).1
    refine cD (.tuple #[.int .i64 (posK Rn.id ts k : Nat), .bool true]) Try.call34 (fun w hw => by have := at_t p n cap ts k w (hts.kept hw.below) hn (by omega) (chk_iff.1 q2) q9; rw [hasK_some hg17] at this; exact this) (qo0 5 [] [2, 4] [(6, .int .i64 (posK Rn.id ts k : Nat)), (7, .bool true)] (on_ (ds_ (sq_ (sq_ (ao_ (qo0 1 [(0, .go (owns 1 0 1))] [2, 4, 6, 7] [(15, .agg #[.slice p n cap])] (cD (.int .i64 0) Try.call20 (fun w hw => by have := qcheck_t p n cap ts w (hts.kept hw.below) hn (by omega); rw [q2] at this; exact this) (qo0 5 [] [2, 4, 6] [(21, .bool false)] (on_ (ds_ (f_ (at_skip (ds_ (sq_ ?_)))))))))))))))
    obtain ⟨b26, o26, rfl⟩ := hts.pos (i := posK Rn.id ts k) (by omega)
    refine ma [(1, .go (owns 1 0 1)), (3, .at b26 o26 (posK Rn.id ts k)), (4, .go (outs b26 (o26 + (posK Rn.id ts k) * 5) [.int .i64 y17.id, .int .i64 y17.each, .int .u64 y17.th, .int .u64 y17.tl, .int .u64 y17.tw])), (5, .go (owns 0 0 5))] [4] (fun _ => [(5, .bool true)]) (fun _ L => (L.set 0 (bx (γ1 1) (#[.int .i64 y17.id, .int .i64 y17.each, .int .u64 y17.th, .int .u64 y17.tl, .int .u64 y17.tw]) 35))) (fun _ => [(some ⟨b26, o26, none⟩ : Option Addr) = some ⟨b26, o26, none⟩, (posK Rn.id ts k : Nat) = ((posK Rn.id ts k : Nat) : Int), posK Rn.id ts k < n] ++ (cellsP w b26 (o26 + (posK Rn.id ts k) * 5) [.int .i64 y17.id, .int .i64 y17.each, .int .u64 y17.th, .int .u64 y17.tl, .int .u64 y17.tw])) (fun _ => (alA (al2 rfl (al2 rfl (al1 (by omega)))) (rd_pre (hts.get hp_y17) _ rfl))) (fun _ => ds_ (rt (owns 0 0 5) (.tuple #[.agg #[.int .i64 y17.id, .int .i64 y17.each, .int .u64 y17.th, .int .u64 y17.tl, .int .u64 y17.tw], .bool true]) ?_))
    exact fun w' hw => ⟨by rw [getQ_ok q2, hg17]; rfl, hw.below⟩
end Go.Proofs.Ytnhkecfapohlgaa

/-! Queues: Join. -/
namespace Go.Proofs.Ytnhkecfapohlgaa
open Go Go.RowKit

set_option maxRecDepth 100000 in
theorem join1_t (t : Fq) (an : Bool) (r : Rn) (boost : Int) (g4 g5 : Nat) (w : World)
 (h4 : Rd w g4 (0 + 0 * 5) [.int .i64 r.id, .int .i64 r.each, .int .u64 r.th, .int .u64 r.tl, .int .u64 r.tw]) (h5 : Rd w g5 (0 + 0 * 1) [.int .u64 boost])
 (hU : t.U) (hr : r.U) (he0 : 1 ≤ r.each) (he1 : r.each ≤ 8) (hb0 : 0 ≤ boost) (hb1 : boost ≤ 10000000)
 : Calls Try.prog 60 #[.agg #[.int .u64 t.hi, .int .u64 t.lo, .int .u64 t.w], .bool an, .pointer (some ⟨g4, 0 + 0 * 5, none⟩), .pointer (some ⟨g5, 0 + 0 * 1, none⟩)] w fun e w' => e = .returned (.tuple #[.agg #[.int .u64 (timeV (t, an) r boost).1.hi, .int .u64 (timeV (t, an) r boost).1.lo, .int .u64 (timeV (t, an) r boost).1.w], .int .i64 (timeV (t, an) r boost).2]) ∧ Below w.heap.size w w' := by
 refine enter (Hs.start w) Try.func60 rfl Try.ntmps60 rfl (sq_ (ma0 [] [1, 2, 3] (fun γ1 => [(4, .pointer (some ⟨γ1 0, 0, none⟩)), (6, .pointer (some ⟨γ1 1, 0, none⟩))]) (fun γ1 L => bx (γ1 1) (#[.int .u64 0, .int .u64 0, .int .u64 0]) 33 :: bx (γ1 0) (#[.int .u64 t.hi, .int .u64 t.lo, .int .u64 t.w]) 33 :: L) (fun γ1 => ds_ (sq_ (sq_ ?_)))))
 rcases q3 : an with _ | _
 ·
  refine qa0 [] [2, 3, 4, 6] [(13, .bool true)] (ds_ (t_ (sq_ (ma [(1, .go (outs g4 (0 + 0 * 5 + 2) [.int .u64 r.th, .int .u64 r.tl, .int .u64 r.tw])), (2, .go (owns 0 0 3))] [6] (fun _ => [(7, .int .i64 0)]) (fun _ L => (L.set 0 (bx (γ1 1) (#[.int .u64 r.th, .int .u64 r.tl, .int .u64 r.tw]) 33))) (fun _ => cellsP w g4 (0 + 0 * 5 + 2) [.int .u64 r.th, .int .u64 r.tl, .int .u64 r.tw]) (fun _ => (rd_part h4 2 _ rfl)) (fun _ => ds_ (rt (owns 0 0 3) (.tuple #[.agg #[.int .u64 r.th, .int .u64 r.tl, .int .u64 r.tw], .int .i64 0]) ?_))))))
  exact fun w' hw => ⟨by rw [time_none rfl]; rfl, hw.below⟩
 ·
  refine qa0 [] [2, 3, 4, 6] [(13, .bool false)] (ds_ (f_ (at_skip (ds_ (sq_ ?_)))))
  have hmb := mul_each he0 he1 hb0 hb1
  rw [Int.mul_comm] at hmb
  refine ao_ (qo 3 [(0, .go (owns 1 0 3)), (1, .go (outs g4 (0 + 0 * 5) [.int .i64 r.id, .int .i64 r.each, .int .u64 r.th, .int .u64 r.tl, .int .u64 r.tw])), (2, .go (outs g5 (0 + 0 * 1) [.int .u64 boost]))] [2, 6] [(17, .agg #[.int .u64 t.hi, .int .u64 t.lo, .int .u64 t.w]), (18, .agg #[.int .i64 r.id, .int .i64 r.each, .int .u64 r.th, .int .u64 r.tl, .int .u64 r.tw]), (19, .int .u64 boost)] (cellsP w g4 (0 + 0 * 5) [.int .i64 r.id, .int .i64 r.each, .int .u64 r.th, .int .u64 r.tl, .int .u64 r.tw] ++ (cellsP w g5 (0 + 0 * 1) [.int .u64 boost])) (alA (rd_pre h4 _ rfl) (rd_pre h5 _ rfl)) (cD (.tuple #[.agg #[.int .u64 ((boundsV t r boost).1.hi), .int .u64 ((boundsV t r boost).1.lo), .int .u64 ((boundsV t r boost).1.w)], .agg #[.int .u64 ((boundsV t r boost).2.1.hi), .int .u64 ((boundsV t r boost).2.1.lo), .int .u64 ((boundsV t r boost).2.1.w)], .int .i64 ((boundsV t r boost).2.2)]) Try.call61 (fun w hw => bounds_t t r boost w hU hr (by omega) he1 hmb.1 hmb.2) (mo0 9 [(10, .go (owns 1 0 3)), (11, .go (owns 0 0 3))] [2, 6] (fun γ8 => [(8, .pointer (some ⟨γ8 0, 0, none⟩)), (9, .pointer (some ⟨γ8 1, 0, none⟩)), (10, .int .i64 ((boundsV t r boost).2.2))]) (fun γ8 L => bx (γ8 1) (#[.int .u64 ((boundsV t r boost).2.1.hi), .int .u64 ((boundsV t r boost).2.1.lo), .int .u64 ((boundsV t r boost).2.1.w)]) 33 :: bx (γ8 0) (#[.int .u64 ((boundsV t r boost).1.hi), .int .u64 ((boundsV t r boost).1.lo), .int .u64 ((boundsV t r boost).1.w)]) 33 :: L) (fun γ8 => on_ (ds_ (sq_ (ao_ (mo 4 [(0, .go (owns 1 0 3)), (2, .go (outs g4 (0 + 0 * 5 + 2) [.int .u64 r.th, .int .u64 r.tl, .int .u64 r.tw]))] [6, 9, 10] (fun γ9 => [(27, .slice (some ⟨γ9 0, 0, none⟩) 2 2)]) (fun γ9 L => bx (γ9 0) (#[.int .u64 ((boundsV t r boost).1.hi), .int .u64 ((boundsV t r boost).1.lo), .int .u64 ((boundsV t r boost).1.w), .int .u64 r.th, .int .u64 r.tl, .int .u64 r.tw]) 33 :: L) (fun γ9 => cellsP w g4 (0 + 0 * 5 + 2) [.int .u64 r.th, .int .u64 r.tl, .int .u64 r.tw]) (fun γ9 => (rd_part h4 2 _ rfl)) (fun γ9 => cD (.agg #[.int .u64 ((greatV ((boundsV t r boost).1) r.t).hi), .int .u64 ((greatV ((boundsV t r boost).1) r.t).lo), .int .u64 ((greatV ((boundsV t r boost).1) r.t).w)]) Try.call62 (fun w hw => great_t (some ⟨γ9 0, 0, none⟩) 2 2 [(boundsV t r boost).1, r.t] w (sv_row (hw.row 0 rfl) rfl) rfl (by decide) (by decide) (two_U (bounds_U hU hr hmb.1).1 hr.t)) (mo0 2 [(6, .go (owns 0 0 3))] [6, 9, 10] (fun γ10 => [(11, .pointer (some ⟨γ10 0, 0, none⟩))]) (fun γ10 L => bx (γ10 0) (#[.int .u64 ((greatV ((boundsV t r boost).1) r.t).hi), .int .u64 ((greatV ((boundsV t r boost).1) r.t).lo), .int .u64 ((greatV ((boundsV t r boost).1) r.t).w)]) 33 :: L) (fun γ10 => ?_)))))))))))
  refine on_ (ds_ (sq_ (sq_ (ao_ (qo0 2 [(0, .go (owns 0 0 3)), (1, .go (owns 2 0 3))] [6, 9, 10, 11] [(29, .agg #[.int .u64 ((greatV ((boundsV t r boost).1) r.t).hi), .int .u64 ((greatV ((boundsV t r boost).1) r.t).lo), .int .u64 ((greatV ((boundsV t r boost).1) r.t).w)]), (30, .agg #[.int .u64 ((boundsV t r boost).2.1.hi), .int .u64 ((boundsV t r boost).2.1.lo), .int .u64 ((boundsV t r boost).2.1.w)])] (cD (.int .i64 (cmpF (greatV ((boundsV t r boost).1) r.t) ((boundsV t r boost).2.1))) Try.call13 (fun w hw => fcmp_t (greatV ((boundsV t r boost).1) r.t) ((boundsV t r boost).2.1) w (maxS_U (bounds_U hU hr hmb.1).1 hr.t) (bounds_U hU hr hmb.1).2) ?_))))))
  by_cases q13 : ((cmpF (greatV ((boundsV t r boost).1) r.t) ((boundsV t r boost).2.1)) : Int) > (0 : Int)
  ·
   refine qo 1 [(3, .yes)] [6, 9, 10, 11] [(32, .bool true)] ([((cmpF (greatV ((boundsV t r boost).1) r.t) ((boundsV t r boost).2.1)) : Int) > (0 : Int)]) (al1 q13) (on_ (ds_ (t_ (ma0 [(0, .go (owns 2 0 3)), (1, .go (owns 0 0 3))] [6, 10, 11] (fun _ => []) (fun _ L => (L.set 0 (bx (γ10 0) (#[.int .u64 ((boundsV t r boost).2.1.hi), .int .u64 ((boundsV t r boost).2.1.lo), .int .u64 ((boundsV t r boost).2.1.w)]) 33))) (fun _ => ds_ (sq_ (ma0 [(0, .go (owns 0 0 3)), (2, .go (owns 4 0 3))] [6] (fun _ => [(7, .int .i64 ((boundsV t r boost).2.2))]) (fun _ L => (L.set 4 (bx (γ1 1) (#[.int .u64 ((boundsV t r boost).2.1.hi), .int .u64 ((boundsV t r boost).2.1.lo), .int .u64 ((boundsV t r boost).2.1.w)]) 33))) (fun _ => ds_ (rt (owns 4 0 3) (.tuple #[.agg #[.int .u64 ((boundsV t r boost).2.1.hi), .int .u64 ((boundsV t r boost).2.1.lo), .int .u64 ((boundsV t r boost).2.1.w)], .int .i64 ((boundsV t r boost).2.2)]) ?_)))))))))
   exact fun w' hw => ⟨by rw [time_hi rfl (by omega)], hw.below⟩
  ·
   refine qo 1 [(3, .no)] [6, 9, 10, 11] [(32, .bool false)] ([¬ (((cmpF (greatV ((boundsV t r boost).1) r.t) ((boundsV t r boost).2.1)) : Int) > (0 : Int))]) (al1 q13) (on_ (ds_ (f_ (at_skip (ds_ (sq_ (ma0 [(0, .go (owns 0 0 3)), (2, .go (owns 4 0 3))] [6] (fun _ => [(7, .int .i64 ((boundsV t r boost).2.2))]) (fun _ L => (L.set 4 (bx (γ1 1) (#[.int .u64 ((greatV ((boundsV t r boost).1) r.t).hi), .int .u64 ((greatV ((boundsV t r boost).1) r.t).lo), .int .u64 ((greatV ((boundsV t r boost).1) r.t).w)]) 33))) (fun _ => ds_ (rt (owns 4 0 3) (.tuple #[.agg #[.int .u64 ((greatV ((boundsV t r boost).1) r.t).hi), .int .u64 ((greatV ((boundsV t r boost).1) r.t).lo), .int .u64 ((greatV ((boundsV t r boost).1) r.t).w)], .int .i64 ((boundsV t r boost).2.2)]) ?_)))))))))
   exact fun w' hw => ⟨by rw [time_lo rfl (by omega)], hw.below⟩

set_option maxRecDepth 100000 in
theorem join_t (p : Option Addr) (n cap : Nat) (ts : List Rn) (r : Rn) (boost : Int) (w : World)
 (hts : Sv w p ts) (hn : n = ts.length) (hb : n ≤ 1000)
 (hU : ∀ r ∈ ts, r.U)
 (hr : r.U) (hbo0 : 0 ≤ boost)
 : Calls Try.prog 28 #[.agg #[.slice p n cap], .agg #[.int .i64 r.id, .int .i64 r.each, .int .u64 r.th, .int .u64 r.tl, .int .u64 r.tw], .int .u64 boost] w fun e w' => ∃ q' n' c' Y, e = .returned (.tuple #[.agg #[.slice q' n' c'], .int .i64 (joinV ts r boost).2]) ∧ SlO 35 Y q' n' c' (joinV ts r boost).1 ∧ Below w.heap.size w w' ∧ Hs w Y w' := by
 refine enter (Hs.start w) Try.func28 rfl Try.ntmps28 rfl (sq_ (ma0 [] [] (fun γ1 => [(3, .pointer (some ⟨γ1 0, 0, none⟩)), (4, .pointer (some ⟨γ1 1, 0, none⟩)), (5, .pointer (some ⟨γ1 2, 0, none⟩)), (6, .pointer (some ⟨γ1 3, 0, none⟩))]) (fun γ1 L => bx (γ1 3) (#[.slice none 0 0]) 24 :: bx (γ1 2) (#[.int .u64 boost]) 25 :: bx (γ1 1) (#[.int .i64 r.id, .int .i64 r.each, .int .u64 r.th, .int .u64 r.tl, .int .u64 r.tw]) 35 :: bx (γ1 0) (#[.slice p n cap]) 24 :: L) (fun γ1 => ds_ (sq_ (sq_ ?_)))))
 by_cases q3 : (boost : Int) > (10000000 : Int)
 ·
  refine qa [(0, .go (owns 1 0 1)), (1, .yes)] [3, 4, 5, 6] [(10, .bool true)] ([(boost : Int) > (10000000 : Int)]) (al1 q3) (ds_ (t_ (sq_ (ao_ (qo0 1 [(0, .go (owns 3 0 1))] [6] [(11, .agg #[.slice p n cap])] ?_)))))
  rcases q6 : chkQ ts with _ | _
  ·
   refine cD (.int .i64 200) Try.call20 (fun w hw => by have := qcheck_t p n cap ts w (hts.kept hw.below) hn (by omega); rw [q6] at this; exact this) (qo0 1 [] [6] [(8, .int .i64 200)] (on_ (ds_ (sq_ (sq_ (qa0 [] [6, 8] [(14, .bool false)] (ds_ (f_ (at_skip (ds_ (sq_ (qa0 [(2, .go (owns 0 0 1))] [6] [(7, .int .i64 200)] (ds_ (rt (owns 0 0 1) (.tuple #[.agg #[.slice none 0 0], .int .i64 200]) ?_))))))))))))))
   exact fun w' hw => by rw [join_big q3, if_neg (by rw [q6]; decide)]; exact ⟨none, 0, 0, [], rfl, SlO.nil, hw.below, hw.sub (List.nil_sublist _)⟩
  ·
   refine cD (.int .i64 0) Try.call20 (fun w hw => by have := qcheck_t p n cap ts w (hts.kept hw.below) hn (by omega); rw [q6] at this; exact this) (qo0 1 [] [6] [(8, .int .i64 0)] (on_ (ds_ (sq_ (sq_ (qa0 [] [6, 8] [(14, .bool true)] (ds_ (t_ (qa0 [] [6] [(8, .int .i64 2)] (ds_ (sq_ (qa0 [(2, .go (owns 0 0 1))] [6] [(7, .int .i64 2)] (ds_ (rt (owns 0 0 1) (.tuple #[.agg #[.slice none 0 0], .int .i64 2]) ?_))))))))))))))
   exact fun w' hw => by rw [join_big q3, if_pos q6]; exact ⟨none, 0, 0, [], rfl, SlO.nil, hw.below, hw.sub (List.nil_sublist _)⟩
 ·
  refine qa [(0, .go (owns 1 0 1)), (1, .no)] [3, 4, 5, 6] [(10, .bool false)] ([¬ ((boost : Int) > (10000000 : Int))]) (al1 q3) (ds_ (f_ (at_skip (ds_ (sq_ (ao_ (qo0 3 [(0, .go (owns 3 0 1)), (1, .go (owns 2 0 5))] [6] [(17, .agg #[.slice p n cap]), (18, .agg #[.int .i64 r.id, .int .i64 r.each, .int .u64 r.th, .int .u64 r.tl, .int .u64 r.tw]), (19, .func (.func 60) #[] #[.pointer (some ⟨γ1 1, 0, none⟩), .pointer (some ⟨γ1 2, 0, none⟩)])] (ops_inline (g := 59) (args := #[.agg #[.slice p n cap], .agg #[.int .i64 r.id, .int .i64 r.each, .int .u64 r.th, .int .u64 r.tl, .int .u64 r.tw], .func (.func 60) #[] #[.pointer (some ⟨γ1 1, 0, none⟩), .pointer (some ⟨γ1 2, 0, none⟩)]]) (by kernel_rfl) (by kernel_rfl) (by kernel_rfl) (fun args w => Try.call59 args w) Try.func59 rfl Try.ntmps59 rfl (sq_ (ma0 [] [] (fun γ16 => [(3, .pointer (some ⟨γ16 0, 0, none⟩)), (4, .pointer (some ⟨γ16 1, 0, none⟩)), (5, .pointer (some ⟨γ16 2, 0, none⟩)), (6, .pointer (some ⟨γ16 3, 0, none⟩))]) (fun γ16 L => bx (γ16 3) (#[.slice none 0 0]) 24 :: bx (γ16 2) (#[.func (.func 60) #[] #[.pointer (some ⟨γ1 1, 0, none⟩), .pointer (some ⟨γ1 2, 0, none⟩)]]) 98 :: bx (γ16 1) (#[.int .i64 r.id, .int .i64 r.each, .int .u64 r.th, .int .u64 r.tl, .int .u64 r.tw]) 35 :: bx (γ16 0) (#[.slice p n cap]) 24 :: L) (fun γ16 => ds_ (sq_ (ao_ (qo0 2 [(0, .go (owns 3 0 1))] [6] [(8, .agg #[.slice p n cap]), (9, .func (.func 79) #[] #[.pointer (some ⟨γ16 1, 0, none⟩), .pointer (some ⟨γ16 2, 0, none⟩)])] (ops_inline (g := 56) (args := #[.agg #[.slice p n cap], .func (.func 79) #[] #[.pointer (some ⟨γ16 1, 0, none⟩), .pointer (some ⟨γ16 2, 0, none⟩)]]) (by kernel_rfl) (by kernel_rfl) (by kernel_rfl) (fun args w => Try.call56 args w) Try.func56 rfl Try.ntmps56 rfl (sq_ (ma0 [] [1] (fun γ18 => [(2, .pointer (some ⟨γ18 0, 0, none⟩)), (4, .pointer (some ⟨γ18 1, 0, none⟩))]) (fun γ18 L => bx (γ18 1) (#[.slice none 0 0]) 24 :: bx (γ18 0) (#[.slice p n cap]) 24 :: L) (fun γ18 => ds_ (sq_ (sq_ (ao_ (qo0 1 [(0, .go (owns 1 0 1))] [1, 2, 4] [(9, .agg #[.slice p n cap])] ?_))))))))))))))))))))))
  rcases q20 : chkQ ts with _ | _
  ·
   refine cD (.int .i64 200) Try.call20 (fun w hw => by have := qcheck_t p n cap ts w (hts.kept hw.below) hn (by omega); rw [q20] at this; exact this) (qo0 1 [] [1, 2, 4] [(6, .int .i64 200)] (on_ (ds_ (sq_ (qa0 [] [1, 2, 4, 6] [(12, .bool true)] (ds_ (t_ (sq_ (qa0 [(2, .go (owns 0 0 1))] [4] [(5, .int .i64 200)] (ds_ (bk (owns 0 0 1) (.tuple #[.agg #[.slice none 0 0], .int .i64 200]) (qo0 4 [(5, .go (owns 2 0 1))] [6] [(7, .int .i64 200)] (on_ (ds_ (bk (owns 2 0 1) (.tuple #[.agg #[.slice none 0 0], .int .i64 200]) (qo0 4 [(6, .go (owns 6 0 1))] [6] [(7, .int .i64 200)] (on_ (ds_ (rt (owns 6 0 1) (.tuple #[.agg #[.slice none 0 0], .int .i64 200]) ?_)))))))))))))))))))
   exact fun w' hw => by rw [join_bad (by omega) q20]; exact ⟨none, 0, 0, [], rfl, SlO.nil, hw.below, hw.sub (List.nil_sublist _)⟩
  ·
   refine cD (.int .i64 0) Try.call20 (fun w hw => by have := qcheck_t p n cap ts w (hts.kept hw.below) hn (by omega); rw [q20] at this; exact this) (qo0 1 [] [1, 2, 4] [(6, .int .i64 0)] (on_ (ds_ (sq_ (qa0 [] [1, 2, 4, 6] [(12, .bool false)] (ds_ (f_ (at_skip (ds_ (sq_ ?_))))))))))
   have hgq := chk_iff.1 q20
   have hlq := hgq.len
   refine ao_ (qo0 2 [(1, .go (owns 1 0 1))] [1, 4] [(16, .slice p n cap)] (cP (fun v L' => ∃ q_ c_ Y_, v = .slice q_ n c_ ∧ L' = List.take 10 ([bx (γ18 1) (#[.slice none 0 0]) 24, bx (γ18 0) (#[.slice p n cap]) 24, bx (γ16 3) (#[.slice none 0 0]) 24, bx (γ16 2) (#[.func (.func 60) #[] #[.pointer (some ⟨γ1 1, 0, none⟩), .pointer (some ⟨γ1 2, 0, none⟩)]]) 98, bx (γ16 1) (#[.int .i64 r.id, .int .i64 r.each, .int .u64 r.th, .int .u64 r.tl, .int .u64 r.tw]) 35, bx (γ16 0) (#[.slice p n cap]) 24, bx (γ1 3) (#[.slice none 0 0]) 24, bx (γ1 2) (#[.int .u64 boost]) 25, bx (γ1 1) (#[.int .i64 r.id, .int .i64 r.each, .int .u64 r.th, .int .u64 r.tl, .int .u64 r.tw]) 35, bx (γ1 0) (#[.slice p n cap]) 24]) ++ (Y_ ++ List.drop 10 ([bx (γ18 1) (#[.slice none 0 0]) 24, bx (γ18 0) (#[.slice p n cap]) 24, bx (γ16 3) (#[.slice none 0 0]) 24, bx (γ16 2) (#[.func (.func 60) #[] #[.pointer (some ⟨γ1 1, 0, none⟩), .pointer (some ⟨γ1 2, 0, none⟩)]]) 98, bx (γ16 1) (#[.int .i64 r.id, .int .i64 r.each, .int .u64 r.th, .int .u64 r.tl, .int .u64 r.tw]) 35, bx (γ16 0) (#[.slice p n cap]) 24, bx (γ1 3) (#[.slice none 0 0]) 24, bx (γ1 2) (#[.int .u64 boost]) 25, bx (γ1 1) (#[.int .i64 r.id, .int .i64 r.each, .int .u64 r.th, .int .u64 r.tl, .int .u64 r.tw]) 35, bx (γ1 0) (#[.slice p n cap]) 24])) ∧ SlO 35 Y_ q_ n c_ ts) Try.call78 (fun w hw => (qclone_t p n cap ts w (hts.kept hw.below) hn (by omega)).mono fun e w' ⟨q_, c_, Y_, he, hO, hb, hY⟩ => ⟨_, _, he, ⟨q_, c_, Y_, rfl, rfl, hO⟩, hw.join hb hY 10⟩) ?_))
   rintro v29 L29 ⟨q29, cq29, Y29, rfl, rfl, hO29⟩
   refine mo0 3 [(5, .go (owns 0 0 1))] [1, 4] (fun γ30 => [(7, .pointer (some ⟨γ30 0, 0, none⟩))]) (fun γ30 L => bx (γ30 0) (#[.slice q29 n cq29]) 24 :: L) (fun γ30 => on_ (ds_ (sq_ (sq_ (ao_ (qo0 1 [] [4, 7] [(19, .func (.func 79) #[] #[.pointer (some ⟨γ16 1, 0, none⟩), .pointer (some ⟨γ16 2, 0, none⟩)])] (ops_inline (g := 79) (args := #[.pointer (some ⟨γ30 0, 0, none⟩), .pointer (some ⟨γ16 1, 0, none⟩), .pointer (some ⟨γ16 2, 0, none⟩)]) (by kernel_rfl) (by kernel_rfl) (by kernel_rfl) (fun args w => Try.call79 args w) Try.func79 rfl Try.ntmps79 rfl (sq_ (qa0 [] [0, 1, 2] [] (ds_ (sq_ (sq_ (ao_ (qo0 1 [(0, .go (owns 5 0 5))] [0, 1, 2] [(10, .agg #[.int .i64 r.id, .int .i64 r.each, .int .u64 r.th, .int .u64 r.tl, .int .u64 r.tw])] ?_))))))))))))))
   rcases q34 : rnB r with _ | _
   ·
    refine cD (.int .i64 2) Try.call25 (fun w hw => by have := crun_t r w; rw [q34] at this; exact this) (qo0 1 [] [0, 1, 2] [(5, .int .i64 2)] (on_ (ds_ (sq_ (qa0 [] [0, 1, 2, 5] [(13, .bool true)] (ds_ (t_ (sq_ (qa0 [] [] [(4, .int .i64 2)] (ds_ (bk ([]) (.int .i64 2) (qo0 1 [] [4, 7] [(8, .int .i64 2)] (on_ (ds_ (sq_ (qa0 [] [4, 7, 8] [(22, .bool true)] (ds_ (t_ (sq_ (qa0 [(2, .go (owns 1 0 1))] [4] [(5, .int .i64 2)] (ds_ (bk (owns 1 0 1) (.tuple #[.agg #[.slice none 0 0], .int .i64 2]) (qo0 4 [(5, .go (owns 3 0 1))] [6] [(7, .int .i64 2)] (on_ (ds_ (bk (owns 3 0 1) (.tuple #[.agg #[.slice none 0 0], .int .i64 2]) (qo0 4 [(6, .go (owns 7 0 1))] [6] [(7, .int .i64 2)] (on_ (ds_ (rt (owns 7 0 1) (.tuple #[.agg #[.slice none 0 0], .int .i64 2]) ?_))))))))))))))))))))))))))))))
    exact fun w' hw => by rw [join_arg (by omega) q20 q34]; exact ⟨none, 0, 0, [], rfl, SlO.nil, hw.below, hw.sub (List.nil_sublist _)⟩
   ·
    refine cD (.int .i64 0) Try.call25 (fun w hw => by have := crun_t r w; rw [q34] at this; exact this) (qo0 1 [] [0, 1, 2] [(5, .int .i64 0)] (on_ (ds_ (sq_ (qa0 [] [0, 1, 2, 5] [(13, .bool false)] (ds_ (f_ (at_skip (ds_ (sq_ ?_))))))))))
    have hrb := rnB_iff.1 q34
    have hidr : idV r.id = true := idV_iff.2 hrb.1
    refine at_calm rfl (by kernel_rfl) (by kernel_rfl) ?_
    refine cm 6 [(3, .go (owns 0 0 1)), (5, .go (owns 5 0 1))] [0, 1, 2] [(19, .slice q29 n cq29), (21, .int .i64 r.id)] ([]) (by kernel_rfl) rfl al0 ?_
    rcases hg46 : getK Rn.id ts r.id with _ | y46
    ·
     have hpl46 := (pos_cut (k := r.id) hgq.rs).2.2
     refine cK (.tuple #[.int .i64 (posK Rn.id ts r.id : Nat), .bool false]) Try.call34 (fun w hw => by have := at_t q29 n cq29 ts r.id w (hO29.atN (A := [_, _, _, _, _, _, _, _, _, _, _]) hw) hO29.len (by omega) hgq hidr; rw [hasK_none hg46] at this; exact this) ?_
     refine cm 5 [] [0, 1, 2] [(6, .int .i64 (posK Rn.id ts r.id : Nat)), (7, .bool false)] ([]) (by kernel_rfl) rfl al0 ?_
     refine calm_nil' ?_
     refine ds_ (sq_ (sq_ (qa0 [] [0, 1, 2, 6] [(25, .bool false)] (ds_ (f_ (at_skip (ds_ (sq_ ?_))))))))
     refine at_any (by kernel_rfl) ?_
     refine tk (m := 12) [1, 2] [] [0, 1, 2, 6] [(29, .pointer (some ⟨γ30 0, 0, none⟩))] ([]) #[false, true, true, false, false, false, false, false, false, false, false, false, false, false] al0 ?_
     refine any_cutX (V := (Nat → Nat)) (fun γ272 => True) 0 #[true, true, true, true, true, true, true, true, true, true, true, true, true, true] (fun γ272 => [(0, .pointer (some ⟨γ30 0, 0, none⟩)), (1, .pointer (some ⟨γ16 1, 0, none⟩)), (6, .int .i64 (posK Rn.id ts r.id : Nat)), (8, .pointer (some ⟨γ272 0, 0, none⟩)), (9, .int .i64 ((timeV (topV ts) r boost).2))]) (fun γ272 => bx (γ272 0) (#[.int .u64 ((timeV (topV ts) r boost).1.hi), .int .u64 ((timeV (topV ts) r boost).1.lo), .int .u64 ((timeV (topV ts) r boost).1.w)]) 33 :: bx (γ30 0) (#[.slice q29 n cq29]) 24 :: bx (γ18 1) (#[.slice none 0 0]) 24 :: bx (γ18 0) (#[.slice p n cap]) 24 :: bx (γ16 3) (#[.slice none 0 0]) 24 :: bx (γ16 2) (#[.func (.func 60) #[] #[.pointer (some ⟨γ1 1, 0, none⟩), .pointer (some ⟨γ1 2, 0, none⟩)]]) 98 :: bx (γ16 1) (#[.int .i64 r.id, .int .i64 r.each, .int .u64 r.th, .int .u64 r.tl, .int .u64 r.tw]) 35 :: bx (γ16 0) (#[.slice p n cap]) 24 :: bx (γ1 3) (#[.slice none 0 0]) 24 :: bx (γ1 2) (#[.int .u64 boost]) 25 :: bx (γ1 1) (#[.int .i64 r.id, .int .i64 r.each, .int .u64 r.th, .int .u64 r.tl, .int .u64 r.tw]) 35 :: bx (γ1 0) (#[.slice p n cap]) 24 :: (Y29 ++ [])) ?_ (fun hmx14 => ?_)
     rotate_left
     ·
      refine any_cutX (V := (Nat → Nat)) (fun γ272 => True) 2 #[true, true, true, true, true, true, true, true, true, true, true, true, false, false] (fun γ272 => [(0, .pointer (some ⟨γ30 0, 0, none⟩)), (1, .pointer (some ⟨γ16 1, 0, none⟩)), (6, .int .i64 (posK Rn.id ts r.id : Nat)), (8, .pointer (some ⟨γ272 0, 0, none⟩)), (35, .agg #[.int .u64 ((timeV (topV ts) r boost).1.hi), .int .u64 ((timeV (topV ts) r boost).1.lo), .int .u64 ((timeV (topV ts) r boost).1.w)]), (36, .int .i64 ((timeV (topV ts) r boost).2))]) (fun γ272 => bx (γ272 0) (#[.int .u64 0, .int .u64 0, .int .u64 0]) 33 :: bx (γ30 0) (#[.slice q29 n cq29]) 24 :: bx (γ18 1) (#[.slice none 0 0]) 24 :: bx (γ18 0) (#[.slice p n cap]) 24 :: bx (γ16 3) (#[.slice none 0 0]) 24 :: bx (γ16 2) (#[.func (.func 60) #[] #[.pointer (some ⟨γ1 1, 0, none⟩), .pointer (some ⟨γ1 2, 0, none⟩)]]) 98 :: bx (γ16 1) (#[.int .i64 r.id, .int .i64 r.each, .int .u64 r.th, .int .u64 r.tl, .int .u64 r.tw]) 35 :: bx (γ16 0) (#[.slice p n cap]) 24 :: bx (γ1 3) (#[.slice none 0 0]) 24 :: bx (γ1 2) (#[.int .u64 boost]) 25 :: bx (γ1 1) (#[.int .i64 r.id, .int .i64 r.each, .int .u64 r.th, .int .u64 r.tl, .int .u64 r.tw]) 35 :: bx (γ1 0) (#[.slice p n cap]) 24 :: (Y29 ++ [])) ?_ (fun hmx13 => ?_)
      ·
       rintro γ272 _
       refine a1 12 rfl ?_
       refine mo0 1 [(12, .go (owns 0 0 3))] [0, 1, 6, 8, 36] (fun _ => []) (fun _ L => (L.set 0 (bx (γ272 0) (#[.int .u64 ((timeV (topV ts) r boost).1.hi), .int .u64 ((timeV (topV ts) r boost).1.lo), .int .u64 ((timeV (topV ts) r boost).1.w)]) 33))) (fun _ => ?_)
       refine od_ ?_
       refine tk (m := 0) [13] [] [0, 1, 6, 8] [(9, .int .i64 ((timeV (topV ts) r boost).2))] ([]) #[true, true, true, true, true, true, true, true, true, true, true, true, true, true] al0 ?_
       exact wk (hmx14 γ272 trivial) [0, 1, 6, 8, 9] [[_], [_], [_], [_], [_], [_], [_], [_], [_], [_], [_], [_], _] [0, 1, 2, 3, 4, 5, 6, 7, 8, 9, 10, 11, 12] rfl rfl
      refine any_cutX (V := Unit) (fun _ => True) 3 #[true, true, true, true, true, true, true, true, true, true, true, false, false, false] (fun _ => [(0, .pointer (some ⟨γ30 0, 0, none⟩)), (1, .pointer (some ⟨γ16 1, 0, none⟩)), (6, .int .i64 (posK Rn.id ts r.id : Nat)), (35, .agg #[.int .u64 ((timeV (topV ts) r boost).1.hi), .int .u64 ((timeV (topV ts) r boost).1.lo), .int .u64 ((timeV (topV ts) r boost).1.w)]), (36, .int .i64 ((timeV (topV ts) r boost).2))]) (fun _ => bx (γ30 0) (#[.slice q29 n cq29]) 24 :: bx (γ18 1) (#[.slice none 0 0]) 24 :: bx (γ18 0) (#[.slice p n cap]) 24 :: bx (γ16 3) (#[.slice none 0 0]) 24 :: bx (γ16 2) (#[.func (.func 60) #[] #[.pointer (some ⟨γ1 1, 0, none⟩), .pointer (some ⟨γ1 2, 0, none⟩)]]) 98 :: bx (γ16 1) (#[.int .i64 r.id, .int .i64 r.each, .int .u64 r.th, .int .u64 r.tl, .int .u64 r.tw]) 35 :: bx (γ16 0) (#[.slice p n cap]) 24 :: bx (γ1 3) (#[.slice none 0 0]) 24 :: bx (γ1 2) (#[.int .u64 boost]) 25 :: bx (γ1 1) (#[.int .i64 r.id, .int .i64 r.each, .int .u64 r.th, .int .u64 r.tl, .int .u64 r.tw]) 35 :: bx (γ1 0) (#[.slice p n cap]) 24 :: (Y29 ++ [])) ?_ (fun hmx12 => ?_)
      ·
       rintro _ _
       refine a1 11 rfl ?_
       refine mo0 1 [] [0, 1, 6, 35, 36] (fun γ272 => [(8, .pointer (some ⟨γ272 0, 0, none⟩))]) (fun γ272 L => bx (γ272 0) (#[.int .u64 0, .int .u64 0, .int .u64 0]) 33 :: L) (fun γ272 => ?_)
       refine od_ ?_
       exact wk (hmx13 γ272 trivial) [0, 1, 6, 8, 35, 36] [[_], [_], [_], [_], [_], [_], [_], [_], [_], [_], [_], [_], _] [0, 1, 2, 3, 4, 5, 6, 7, 8, 9, 10, 11, 12] rfl rfl
      refine any_cutX (V := (Nat → Nat)) (fun γ272 => True) 6 #[true, true, true, true, true, true, true, false, false, false, false, true, false, false] (fun γ272 => [(0, .pointer (some ⟨γ30 0, 0, none⟩)), (1, .pointer (some ⟨γ16 1, 0, none⟩)), (6, .int .i64 (posK Rn.id ts r.id : Nat)), (8, .pointer (some ⟨γ272 0, 0, none⟩)), (27, .func (.func 60) #[] #[.pointer (some ⟨γ1 1, 0, none⟩), .pointer (some ⟨γ1 2, 0, none⟩)]), (32, .agg #[.int .u64 ((topV ts).1.hi), .int .u64 ((topV ts).1.lo), .int .u64 ((topV ts).1.w)]), (33, .bool ((topV ts).2))]) (fun γ272 => bx (γ272 0) (#[.int .u64 0, .int .u64 0, .int .u64 0]) 33 :: bx (γ30 0) (#[.slice q29 n cq29]) 24 :: bx (γ18 1) (#[.slice none 0 0]) 24 :: bx (γ18 0) (#[.slice p n cap]) 24 :: bx (γ16 3) (#[.slice none 0 0]) 24 :: bx (γ16 2) (#[.func (.func 60) #[] #[.pointer (some ⟨γ1 1, 0, none⟩), .pointer (some ⟨γ1 2, 0, none⟩)]]) 98 :: bx (γ16 1) (#[.int .i64 r.id, .int .i64 r.each, .int .u64 r.th, .int .u64 r.tl, .int .u64 r.tw]) 35 :: bx (γ16 0) (#[.slice p n cap]) 24 :: bx (γ1 3) (#[.slice none 0 0]) 24 :: bx (γ1 2) (#[.int .u64 boost]) 25 :: bx (γ1 1) (#[.int .i64 r.id, .int .i64 r.each, .int .u64 r.th, .int .u64 r.tl, .int .u64 r.tw]) 35 :: bx (γ1 0) (#[.slice p n cap]) 24 :: (Y29 ++ [])) ?_ (fun hmx11 => ?_)
      ·
       rintro γ272 _
       refine a1 7 rfl ?_
       refine cD (.tuple #[.agg #[.int .u64 ((timeV (topV ts) r boost).1.hi), .int .u64 ((timeV (topV ts) r boost).1.lo), .int .u64 ((timeV (topV ts) r boost).1.w)], .int .i64 ((timeV (topV ts) r boost).2)]) Try.call60 (fun w hw => join1_t (topV ts).1 (topV ts).2 r boost (γ1 1) (γ1 2) w (rd_row (hw.row 10 rfl)) (rd_row (hw.row 9 rfl)) (topV_U hU) hr hrb.2.1.1 hrb.2.1.2 hbo0 (by omega)) ?_
       refine od_ ?_
       refine tk (m := 2) [8, 9, 10] [] [0, 1, 6, 8] [(35, .agg #[.int .u64 ((timeV (topV ts) r boost).1.hi), .int .u64 ((timeV (topV ts) r boost).1.lo), .int .u64 ((timeV (topV ts) r boost).1.w)]), (36, .int .i64 ((timeV (topV ts) r boost).2))] ([]) #[true, true, true, true, true, true, true, true, true, true, true, true, false, false] al0 ?_
       exact wk (hmx13 γ272 trivial) [0, 1, 6, 8, 35, 36] [[_], [_], [_], [_], [_], [_], [_], [_], [_], [_], [_], [_], _] [0, 1, 2, 3, 4, 5, 6, 7, 8, 9, 10, 11, 12] rfl rfl
      refine any_cutX (V := (Nat → Nat)) (fun γ272 => True) 7 #[false, true, true, true, true, true, true, false, false, false, false, true, false, false] (fun γ272 => [(0, .pointer (some ⟨γ30 0, 0, none⟩)), (1, .pointer (some ⟨γ16 1, 0, none⟩)), (2, .pointer (some ⟨γ16 2, 0, none⟩)), (6, .int .i64 (posK Rn.id ts r.id : Nat)), (8, .pointer (some ⟨γ272 0, 0, none⟩)), (32, .agg #[.int .u64 ((topV ts).1.hi), .int .u64 ((topV ts).1.lo), .int .u64 ((topV ts).1.w)]), (33, .bool ((topV ts).2))]) (fun γ272 => bx (γ272 0) (#[.int .u64 0, .int .u64 0, .int .u64 0]) 33 :: bx (γ30 0) (#[.slice q29 n cq29]) 24 :: bx (γ18 1) (#[.slice none 0 0]) 24 :: bx (γ18 0) (#[.slice p n cap]) 24 :: bx (γ16 3) (#[.slice none 0 0]) 24 :: bx (γ16 2) (#[.func (.func 60) #[] #[.pointer (some ⟨γ1 1, 0, none⟩), .pointer (some ⟨γ1 2, 0, none⟩)]]) 98 :: bx (γ16 1) (#[.int .i64 r.id, .int .i64 r.each, .int .u64 r.th, .int .u64 r.tl, .int .u64 r.tw]) 35 :: bx (γ16 0) (#[.slice p n cap]) 24 :: bx (γ1 3) (#[.slice none 0 0]) 24 :: bx (γ1 2) (#[.int .u64 boost]) 25 :: bx (γ1 1) (#[.int .i64 r.id, .int .i64 r.each, .int .u64 r.th, .int .u64 r.tl, .int .u64 r.tw]) 35 :: bx (γ1 0) (#[.slice p n cap]) 24 :: (Y29 ++ [])) ?_ (fun hmx10 => ?_)
      ·
       rintro γ272 _
       refine a1 0 rfl ?_
       refine qo0 1 [(0, .go (owns 5 0 1))] [0, 1, 6, 8, 32, 33] [(27, .func (.func 60) #[] #[.pointer (some ⟨γ1 1, 0, none⟩), .pointer (some ⟨γ1 2, 0, none⟩)])] ?_
       refine od_ ?_
       exact wk (hmx11 γ272 trivial) [0, 1, 6, 8, 27, 32, 33] [[_], [_], [_], [_], [_], [_], [_], [_], [_], [_], [_], [_], _] [0, 1, 2, 3, 4, 5, 6, 7, 8, 9, 10, 11, 12] rfl rfl
      refine any_cutX (V := Unit) (fun _ => True) 7 #[true, true, true, true, true, true, true, false, false, false, false, false, false, false] (fun _ => [(0, .pointer (some ⟨γ30 0, 0, none⟩)), (1, .pointer (some ⟨γ16 1, 0, none⟩)), (6, .int .i64 (posK Rn.id ts r.id : Nat)), (27, .func (.func 60) #[] #[.pointer (some ⟨γ1 1, 0, none⟩), .pointer (some ⟨γ1 2, 0, none⟩)]), (32, .agg #[.int .u64 ((topV ts).1.hi), .int .u64 ((topV ts).1.lo), .int .u64 ((topV ts).1.w)]), (33, .bool ((topV ts).2))]) (fun _ => bx (γ30 0) (#[.slice q29 n cq29]) 24 :: bx (γ18 1) (#[.slice none 0 0]) 24 :: bx (γ18 0) (#[.slice p n cap]) 24 :: bx (γ16 3) (#[.slice none 0 0]) 24 :: bx (γ16 2) (#[.func (.func 60) #[] #[.pointer (some ⟨γ1 1, 0, none⟩), .pointer (some ⟨γ1 2, 0, none⟩)]]) 98 :: bx (γ16 1) (#[.int .i64 r.id, .int .i64 r.each, .int .u64 r.th, .int .u64 r.tl, .int .u64 r.tw]) 35 :: bx (γ16 0) (#[.slice p n cap]) 24 :: bx (γ1 3) (#[.slice none 0 0]) 24 :: bx (γ1 2) (#[.int .u64 boost]) 25 :: bx (γ1 1) (#[.int .i64 r.id, .int .i64 r.each, .int .u64 r.th, .int .u64 r.tl, .int .u64 r.tw]) 35 :: bx (γ1 0) (#[.slice p n cap]) 24 :: (Y29 ++ [])) ?_ (fun hmx9 => ?_)
      ·
       rintro _ _
       refine any_fork [7, 11] (by kernel_rfl) (by simp) (each_cons _ rfl ?_ (each_cons _ rfl ?_ (each_nil)))
       ·
        refine cD (.tuple #[.agg #[.int .u64 ((timeV (topV ts) r boost).1.hi), .int .u64 ((timeV (topV ts) r boost).1.lo), .int .u64 ((timeV (topV ts) r boost).1.w)], .int .i64 ((timeV (topV ts) r boost).2)]) Try.call60 (fun w hw => join1_t (topV ts).1 (topV ts).2 r boost (γ1 1) (γ1 2) w (rd_row (hw.row 9 rfl)) (rd_row (hw.row 8 rfl)) (topV_U hU) hr hrb.2.1.1 hrb.2.1.2 hbo0 (by omega)) ?_
        refine od_ ?_
        refine tk (m := 3) [8, 9, 10] [] [0, 1, 6] [(35, .agg #[.int .u64 ((timeV (topV ts) r boost).1.hi), .int .u64 ((timeV (topV ts) r boost).1.lo), .int .u64 ((timeV (topV ts) r boost).1.w)]), (36, .int .i64 ((timeV (topV ts) r boost).2))] ([]) #[true, true, true, true, true, true, true, true, true, true, true, false, false, false] al0 ?_
        exact wk (hmx12 () trivial) [0, 1, 6, 35, 36] [[_], [_], [_], [_], [_], [_], [_], [_], [_], [_], [_], _] [0, 1, 2, 3, 4, 5, 6, 7, 8, 9, 10, 11] rfl rfl
       ·
        refine mo0 1 [] [0, 1, 6, 27, 32, 33] (fun γ272 => [(8, .pointer (some ⟨γ272 0, 0, none⟩))]) (fun γ272 L => bx (γ272 0) (#[.int .u64 0, .int .u64 0, .int .u64 0]) 33 :: L) (fun γ272 => ?_)
        refine od_ ?_
        exact wk (hmx11 γ272 trivial) [0, 1, 6, 8, 27, 32, 33] [[_], [_], [_], [_], [_], [_], [_], [_], [_], [_], [_], [_], _] [0, 1, 2, 3, 4, 5, 6, 7, 8, 9, 10, 11, 12] rfl rfl
      refine any_cutX (V := Unit) (fun _ => True) 8 #[false, true, true, true, true, true, true, false, false, false, false, false, false, false] (fun _ => [(0, .pointer (some ⟨γ30 0, 0, none⟩)), (1, .pointer (some ⟨γ16 1, 0, none⟩)), (2, .pointer (some ⟨γ16 2, 0, none⟩)), (6, .int .i64 (posK Rn.id ts r.id : Nat)), (32, .agg #[.int .u64 ((topV ts).1.hi), .int .u64 ((topV ts).1.lo), .int .u64 ((topV ts).1.w)]), (33, .bool ((topV ts).2))]) (fun _ => bx (γ30 0) (#[.slice q29 n cq29]) 24 :: bx (γ18 1) (#[.slice none 0 0]) 24 :: bx (γ18 0) (#[.slice p n cap]) 24 :: bx (γ16 3) (#[.slice none 0 0]) 24 :: bx (γ16 2) (#[.func (.func 60) #[] #[.pointer (some ⟨γ1 1, 0, none⟩), .pointer (some ⟨γ1 2, 0, none⟩)]]) 98 :: bx (γ16 1) (#[.int .i64 r.id, .int .i64 r.each, .int .u64 r.th, .int .u64 r.tl, .int .u64 r.tw]) 35 :: bx (γ16 0) (#[.slice p n cap]) 24 :: bx (γ1 3) (#[.slice none 0 0]) 24 :: bx (γ1 2) (#[.int .u64 boost]) 25 :: bx (γ1 1) (#[.int .i64 r.id, .int .i64 r.each, .int .u64 r.th, .int .u64 r.tl, .int .u64 r.tw]) 35 :: bx (γ1 0) (#[.slice p n cap]) 24 :: (Y29 ++ [])) ?_ (fun hmx8 => ?_)
      ·
       rintro _ _
       refine any_fork [0, 11] (by kernel_rfl) (by simp) (each_cons _ rfl ?_ (each_cons _ rfl ?_ (each_nil)))
       ·
        refine qo0 1 [(0, .go (owns 4 0 1))] [0, 1, 6, 32, 33] [(27, .func (.func 60) #[] #[.pointer (some ⟨γ1 1, 0, none⟩), .pointer (some ⟨γ1 2, 0, none⟩)])] ?_
        refine od_ ?_
        exact wk (hmx9 () trivial) [0, 1, 6, 27, 32, 33] [[_], [_], [_], [_], [_], [_], [_], [_], [_], [_], [_], _] [0, 1, 2, 3, 4, 5, 6, 7, 8, 9, 10, 11] rfl rfl
       ·
        refine mo0 1 [] [0, 1, 2, 6, 32, 33] (fun γ272 => [(8, .pointer (some ⟨γ272 0, 0, none⟩))]) (fun γ272 L => bx (γ272 0) (#[.int .u64 0, .int .u64 0, .int .u64 0]) 33 :: L) (fun γ272 => ?_)
        refine od_ ?_
        exact wk (hmx10 γ272 trivial) [0, 1, 2, 6, 8, 32, 33] [[_], [_], [_], [_], [_], [_], [_], [_], [_], [_], [_], [_], _] [0, 1, 2, 3, 4, 5, 6, 7, 8, 9, 10, 11, 12] rfl rfl
      refine any_cutX (V := (Nat → Nat)) (fun γ272 => True) 9 #[true, true, true, true, false, false, false, false, false, false, false, true, false, false] (fun γ272 => [(0, .pointer (some ⟨γ30 0, 0, none⟩)), (1, .pointer (some ⟨γ16 1, 0, none⟩)), (6, .int .i64 (posK Rn.id ts r.id : Nat)), (8, .pointer (some ⟨γ272 0, 0, none⟩)), (27, .func (.func 60) #[] #[.pointer (some ⟨γ1 1, 0, none⟩), .pointer (some ⟨γ1 2, 0, none⟩)]), (30, .agg #[.slice q29 n cq29])]) (fun γ272 => bx (γ272 0) (#[.int .u64 0, .int .u64 0, .int .u64 0]) 33 :: bx (γ30 0) (#[.slice q29 n cq29]) 24 :: bx (γ18 1) (#[.slice none 0 0]) 24 :: bx (γ18 0) (#[.slice p n cap]) 24 :: bx (γ16 3) (#[.slice none 0 0]) 24 :: bx (γ16 2) (#[.func (.func 60) #[] #[.pointer (some ⟨γ1 1, 0, none⟩), .pointer (some ⟨γ1 2, 0, none⟩)]]) 98 :: bx (γ16 1) (#[.int .i64 r.id, .int .i64 r.each, .int .u64 r.th, .int .u64 r.tl, .int .u64 r.tw]) 35 :: bx (γ16 0) (#[.slice p n cap]) 24 :: bx (γ1 3) (#[.slice none 0 0]) 24 :: bx (γ1 2) (#[.int .u64 boost]) 25 :: bx (γ1 1) (#[.int .i64 r.id, .int .i64 r.each, .int .u64 r.th, .int .u64 r.tl, .int .u64 r.tw]) 35 :: bx (γ1 0) (#[.slice p n cap]) 24 :: (Y29 ++ [])) ?_ (fun hmx7 => ?_)
      ·
       rintro γ272 _
       refine a1 4 rfl ?_
       refine cD (.tuple #[.agg #[.int .u64 ((topV ts).1.hi), .int .u64 ((topV ts).1.lo), .int .u64 ((topV ts).1.w)], .bool ((topV ts).2)]) Try.call49 (fun w hw => top_t q29 n cq29 ts w (hO29.atN (A := [_, _, _, _, _, _, _, _, _, _, _, _]) hw) hO29.len (by omega) hU) ?_
       refine od_ ?_
       refine tk (m := 6) [5, 6] [] [0, 1, 6, 8, 27] [(32, .agg #[.int .u64 ((topV ts).1.hi), .int .u64 ((topV ts).1.lo), .int .u64 ((topV ts).1.w)]), (33, .bool ((topV ts).2))] ([]) #[true, true, true, true, true, true, true, false, false, false, false, true, false, false] al0 ?_
       exact wk (hmx11 γ272 trivial) [0, 1, 6, 8, 27, 32, 33] [[_], [_], [_], [_], [_], [_], [_], [_], [_], [_], [_], [_], _] [0, 1, 2, 3, 4, 5, 6, 7, 8, 9, 10, 11, 12] rfl rfl
      refine any_cutX (V := (Nat → Nat)) (fun γ272 => True) 10 #[false, true, true, true, false, false, false, false, false, false, false, true, false, false] (fun γ272 => [(0, .pointer (some ⟨γ30 0, 0, none⟩)), (1, .pointer (some ⟨γ16 1, 0, none⟩)), (2, .pointer (some ⟨γ16 2, 0, none⟩)), (6, .int .i64 (posK Rn.id ts r.id : Nat)), (8, .pointer (some ⟨γ272 0, 0, none⟩)), (30, .agg #[.slice q29 n cq29])]) (fun γ272 => bx (γ272 0) (#[.int .u64 0, .int .u64 0, .int .u64 0]) 33 :: bx (γ30 0) (#[.slice q29 n cq29]) 24 :: bx (γ18 1) (#[.slice none 0 0]) 24 :: bx (γ18 0) (#[.slice p n cap]) 24 :: bx (γ16 3) (#[.slice none 0 0]) 24 :: bx (γ16 2) (#[.func (.func 60) #[] #[.pointer (some ⟨γ1 1, 0, none⟩), .pointer (some ⟨γ1 2, 0, none⟩)]]) 98 :: bx (γ16 1) (#[.int .i64 r.id, .int .i64 r.each, .int .u64 r.th, .int .u64 r.tl, .int .u64 r.tw]) 35 :: bx (γ16 0) (#[.slice p n cap]) 24 :: bx (γ1 3) (#[.slice none 0 0]) 24 :: bx (γ1 2) (#[.int .u64 boost]) 25 :: bx (γ1 1) (#[.int .i64 r.id, .int .i64 r.each, .int .u64 r.th, .int .u64 r.tl, .int .u64 r.tw]) 35 :: bx (γ1 0) (#[.slice p n cap]) 24 :: (Y29 ++ [])) ?_ (fun hmx6 => ?_)
      ·
       rintro γ272 _
       refine any_fork [0, 4] (by kernel_rfl) (by simp) (each_cons _ rfl ?_ (each_cons _ rfl ?_ (each_nil)))
       ·
        refine qo0 1 [(0, .go (owns 5 0 1))] [0, 1, 6, 8, 30] [(27, .func (.func 60) #[] #[.pointer (some ⟨γ1 1, 0, none⟩), .pointer (some ⟨γ1 2, 0, none⟩)])] ?_
        refine od_ ?_
        exact wk (hmx7 γ272 trivial) [0, 1, 6, 8, 27, 30] [[_], [_], [_], [_], [_], [_], [_], [_], [_], [_], [_], [_], _] [0, 1, 2, 3, 4, 5, 6, 7, 8, 9, 10, 11, 12] rfl rfl
       ·
        refine cD (.tuple #[.agg #[.int .u64 ((topV ts).1.hi), .int .u64 ((topV ts).1.lo), .int .u64 ((topV ts).1.w)], .bool ((topV ts).2)]) Try.call49 (fun w hw => top_t q29 n cq29 ts w (hO29.atN (A := [_, _, _, _, _, _, _, _, _, _, _, _]) hw) hO29.len (by omega) hU) ?_
        refine od_ ?_
        refine tk (m := 7) [5, 6] [] [0, 1, 2, 6, 8] [(32, .agg #[.int .u64 ((topV ts).1.hi), .int .u64 ((topV ts).1.lo), .int .u64 ((topV ts).1.w)]), (33, .bool ((topV ts).2))] ([]) #[false, true, true, true, true, true, true, false, false, false, false, true, false, false] al0 ?_
        exact wk (hmx10 γ272 trivial) [0, 1, 2, 6, 8, 32, 33] [[_], [_], [_], [_], [_], [_], [_], [_], [_], [_], [_], [_], _] [0, 1, 2, 3, 4, 5, 6, 7, 8, 9, 10, 11, 12] rfl rfl
      refine any_cutX (V := (Nat → Nat)) (fun γ272 => True) 10 #[true, true, true, false, false, false, false, false, false, false, false, true, false, false] (fun γ272 => [(0, .pointer (some ⟨γ30 0, 0, none⟩)), (1, .pointer (some ⟨γ16 1, 0, none⟩)), (6, .int .i64 (posK Rn.id ts r.id : Nat)), (8, .pointer (some ⟨γ272 0, 0, none⟩)), (27, .func (.func 60) #[] #[.pointer (some ⟨γ1 1, 0, none⟩), .pointer (some ⟨γ1 2, 0, none⟩)]), (29, .pointer (some ⟨γ30 0, 0, none⟩))]) (fun γ272 => bx (γ272 0) (#[.int .u64 0, .int .u64 0, .int .u64 0]) 33 :: bx (γ30 0) (#[.slice q29 n cq29]) 24 :: bx (γ18 1) (#[.slice none 0 0]) 24 :: bx (γ18 0) (#[.slice p n cap]) 24 :: bx (γ16 3) (#[.slice none 0 0]) 24 :: bx (γ16 2) (#[.func (.func 60) #[] #[.pointer (some ⟨γ1 1, 0, none⟩), .pointer (some ⟨γ1 2, 0, none⟩)]]) 98 :: bx (γ16 1) (#[.int .i64 r.id, .int .i64 r.each, .int .u64 r.th, .int .u64 r.tl, .int .u64 r.tw]) 35 :: bx (γ16 0) (#[.slice p n cap]) 24 :: bx (γ1 3) (#[.slice none 0 0]) 24 :: bx (γ1 2) (#[.int .u64 boost]) 25 :: bx (γ1 1) (#[.int .i64 r.id, .int .i64 r.each, .int .u64 r.th, .int .u64 r.tl, .int .u64 r.tw]) 35 :: bx (γ1 0) (#[.slice p n cap]) 24 :: (Y29 ++ [])) ?_ (fun hmx5 => ?_)
      ·
       rintro γ272 _
       refine a1 3 rfl ?_
       refine qo0 1 [(3, .go (owns 1 0 1))] [0, 1, 6, 8, 27] [(30, .agg #[.slice q29 n cq29])] ?_
       refine od_ ?_
       exact wk (hmx7 γ272 trivial) [0, 1, 6, 8, 27, 30] [[_], [_], [_], [_], [_], [_], [_], [_], [_], [_], [_], [_], _] [0, 1, 2, 3, 4, 5, 6, 7, 8, 9, 10, 11, 12] rfl rfl
      refine any_cutX (V := Unit) (fun _ => True) 10 #[true, true, true, true, false, false, false, false, false, false, false, false, false, false] (fun _ => [(0, .pointer (some ⟨γ30 0, 0, none⟩)), (1, .pointer (some ⟨γ16 1, 0, none⟩)), (6, .int .i64 (posK Rn.id ts r.id : Nat)), (27, .func (.func 60) #[] #[.pointer (some ⟨γ1 1, 0, none⟩), .pointer (some ⟨γ1 2, 0, none⟩)]), (30, .agg #[.slice q29 n cq29])]) (fun _ => bx (γ30 0) (#[.slice q29 n cq29]) 24 :: bx (γ18 1) (#[.slice none 0 0]) 24 :: bx (γ18 0) (#[.slice p n cap]) 24 :: bx (γ16 3) (#[.slice none 0 0]) 24 :: bx (γ16 2) (#[.func (.func 60) #[] #[.pointer (some ⟨γ1 1, 0, none⟩), .pointer (some ⟨γ1 2, 0, none⟩)]]) 98 :: bx (γ16 1) (#[.int .i64 r.id, .int .i64 r.each, .int .u64 r.th, .int .u64 r.tl, .int .u64 r.tw]) 35 :: bx (γ16 0) (#[.slice p n cap]) 24 :: bx (γ1 3) (#[.slice none 0 0]) 24 :: bx (γ1 2) (#[.int .u64 boost]) 25 :: bx (γ1 1) (#[.int .i64 r.id, .int .i64 r.each, .int .u64 r.th, .int .u64 r.tl, .int .u64 r.tw]) 35 :: bx (γ1 0) (#[.slice p n cap]) 24 :: (Y29 ++ [])) ?_ (fun hmx4 => ?_)
      ·
       rintro _ _
       refine any_fork [4, 11] (by kernel_rfl) (by simp) (each_cons _ rfl ?_ (each_cons _ rfl ?_ (each_nil)))
       ·
        refine cD (.tuple #[.agg #[.int .u64 ((topV ts).1.hi), .int .u64 ((topV ts).1.lo), .int .u64 ((topV ts).1.w)], .bool ((topV ts).2)]) Try.call49 (fun w hw => top_t q29 n cq29 ts w (hO29.atN (A := [_, _, _, _, _, _, _, _, _, _, _]) hw) hO29.len (by omega) hU) ?_
        refine od_ ?_
        refine tk (m := 7) [5, 6] [] [0, 1, 6, 27] [(32, .agg #[.int .u64 ((topV ts).1.hi), .int .u64 ((topV ts).1.lo), .int .u64 ((topV ts).1.w)]), (33, .bool ((topV ts).2))] ([]) #[true, true, true, true, true, true, true, false, false, false, false, false, false, false] al0 ?_
        exact wk (hmx9 () trivial) [0, 1, 6, 27, 32, 33] [[_], [_], [_], [_], [_], [_], [_], [_], [_], [_], [_], _] [0, 1, 2, 3, 4, 5, 6, 7, 8, 9, 10, 11] rfl rfl
       ·
        refine mo0 1 [] [0, 1, 6, 27, 30] (fun γ272 => [(8, .pointer (some ⟨γ272 0, 0, none⟩))]) (fun γ272 L => bx (γ272 0) (#[.int .u64 0, .int .u64 0, .int .u64 0]) 33 :: L) (fun γ272 => ?_)
        refine od_ ?_
        exact wk (hmx7 γ272 trivial) [0, 1, 6, 8, 27, 30] [[_], [_], [_], [_], [_], [_], [_], [_], [_], [_], [_], [_], _] [0, 1, 2, 3, 4, 5, 6, 7, 8, 9, 10, 11, 12] rfl rfl
      refine any_cutX (V := (Nat → Nat)) (fun γ272 => True) 11 #[false, true, true, false, false, false, false, false, false, false, false, true, false, false] (fun γ272 => [(0, .pointer (some ⟨γ30 0, 0, none⟩)), (1, .pointer (some ⟨γ16 1, 0, none⟩)), (2, .pointer (some ⟨γ16 2, 0, none⟩)), (6, .int .i64 (posK Rn.id ts r.id : Nat)), (8, .pointer (some ⟨γ272 0, 0, none⟩)), (29, .pointer (some ⟨γ30 0, 0, none⟩))]) (fun γ272 => bx (γ272 0) (#[.int .u64 0, .int .u64 0, .int .u64 0]) 33 :: bx (γ30 0) (#[.slice q29 n cq29]) 24 :: bx (γ18 1) (#[.slice none 0 0]) 24 :: bx (γ18 0) (#[.slice p n cap]) 24 :: bx (γ16 3) (#[.slice none 0 0]) 24 :: bx (γ16 2) (#[.func (.func 60) #[] #[.pointer (some ⟨γ1 1, 0, none⟩), .pointer (some ⟨γ1 2, 0, none⟩)]]) 98 :: bx (γ16 1) (#[.int .i64 r.id, .int .i64 r.each, .int .u64 r.th, .int .u64 r.tl, .int .u64 r.tw]) 35 :: bx (γ16 0) (#[.slice p n cap]) 24 :: bx (γ1 3) (#[.slice none 0 0]) 24 :: bx (γ1 2) (#[.int .u64 boost]) 25 :: bx (γ1 1) (#[.int .i64 r.id, .int .i64 r.each, .int .u64 r.th, .int .u64 r.tl, .int .u64 r.tw]) 35 :: bx (γ1 0) (#[.slice p n cap]) 24 :: (Y29 ++ [])) ?_ (fun hmx3 => ?_)
      ·
       rintro γ272 _
       refine any_fork [0, 3] (by kernel_rfl) (by simp) (each_cons _ rfl ?_ (each_cons _ rfl ?_ (each_nil)))
       ·
        refine qo0 1 [(0, .go (owns 5 0 1))] [0, 1, 6, 8, 29] [(27, .func (.func 60) #[] #[.pointer (some ⟨γ1 1, 0, none⟩), .pointer (some ⟨γ1 2, 0, none⟩)])] ?_
        refine od_ ?_
        exact wk (hmx5 γ272 trivial) [0, 1, 6, 8, 27, 29] [[_], [_], [_], [_], [_], [_], [_], [_], [_], [_], [_], [_], _] [0, 1, 2, 3, 4, 5, 6, 7, 8, 9, 10, 11, 12] rfl rfl
       ·
        refine qo0 1 [(3, .go (owns 1 0 1))] [0, 1, 2, 6, 8] [(30, .agg #[.slice q29 n cq29])] ?_
        refine od_ ?_
        exact wk (hmx6 γ272 trivial) [0, 1, 2, 6, 8, 30] [[_], [_], [_], [_], [_], [_], [_], [_], [_], [_], [_], [_], _] [0, 1, 2, 3, 4, 5, 6, 7, 8, 9, 10, 11, 12] rfl rfl
      refine any_cutX (V := Unit) (fun _ => True) 11 #[false, true, true, true, false, false, false, false, false, false, false, false, false, false] (fun _ => [(0, .pointer (some ⟨γ30 0, 0, none⟩)), (1, .pointer (some ⟨γ16 1, 0, none⟩)), (2, .pointer (some ⟨γ16 2, 0, none⟩)), (6, .int .i64 (posK Rn.id ts r.id : Nat)), (30, .agg #[.slice q29 n cq29])]) (fun _ => bx (γ30 0) (#[.slice q29 n cq29]) 24 :: bx (γ18 1) (#[.slice none 0 0]) 24 :: bx (γ18 0) (#[.slice p n cap]) 24 :: bx (γ16 3) (#[.slice none 0 0]) 24 :: bx (γ16 2) (#[.func (.func 60) #[] #[.pointer (some ⟨γ1 1, 0, none⟩), .pointer (some ⟨γ1 2, 0, none⟩)]]) 98 :: bx (γ16 1) (#[.int .i64 r.id, .int .i64 r.each, .int .u64 r.th, .int .u64 r.tl, .int .u64 r.tw]) 35 :: bx (γ16 0) (#[.slice p n cap]) 24 :: bx (γ1 3) (#[.slice none 0 0]) 24 :: bx (γ1 2) (#[.int .u64 boost]) 25 :: bx (γ1 1) (#[.int .i64 r.id, .int .i64 r.each, .int .u64 r.th, .int .u64 r.tl, .int .u64 r.tw]) 35 :: bx (γ1 0) (#[.slice p n cap]) 24 :: (Y29 ++ [])) ?_ (fun hmx2 => ?_)
      ·
       rintro _ _
       refine any_fork [0, 4, 11] (by kernel_rfl) (by simp) (each_cons _ rfl ?_ (each_cons _ rfl ?_ (each_cons _ rfl ?_ (each_nil))))
       ·
        refine qo0 1 [(0, .go (owns 4 0 1))] [0, 1, 6, 30] [(27, .func (.func 60) #[] #[.pointer (some ⟨γ1 1, 0, none⟩), .pointer (some ⟨γ1 2, 0, none⟩)])] ?_
        refine od_ ?_
        exact wk (hmx4 () trivial) [0, 1, 6, 27, 30] [[_], [_], [_], [_], [_], [_], [_], [_], [_], [_], [_], _] [0, 1, 2, 3, 4, 5, 6, 7, 8, 9, 10, 11] rfl rfl
       ·
        refine cD (.tuple #[.agg #[.int .u64 ((topV ts).1.hi), .int .u64 ((topV ts).1.lo), .int .u64 ((topV ts).1.w)], .bool ((topV ts).2)]) Try.call49 (fun w hw => top_t q29 n cq29 ts w (hO29.atN (A := [_, _, _, _, _, _, _, _, _, _, _]) hw) hO29.len (by omega) hU) ?_
        refine od_ ?_
        refine tk (m := 8) [5, 6] [] [0, 1, 2, 6] [(32, .agg #[.int .u64 ((topV ts).1.hi), .int .u64 ((topV ts).1.lo), .int .u64 ((topV ts).1.w)]), (33, .bool ((topV ts).2))] ([]) #[false, true, true, true, true, true, true, false, false, false, false, false, false, false] al0 ?_
        exact wk (hmx8 () trivial) [0, 1, 2, 6, 32, 33] [[_], [_], [_], [_], [_], [_], [_], [_], [_], [_], [_], _] [0, 1, 2, 3, 4, 5, 6, 7, 8, 9, 10, 11] rfl rfl
       ·
        refine mo0 1 [] [0, 1, 2, 6, 30] (fun γ272 => [(8, .pointer (some ⟨γ272 0, 0, none⟩))]) (fun γ272 L => bx (γ272 0) (#[.int .u64 0, .int .u64 0, .int .u64 0]) 33 :: L) (fun γ272 => ?_)
        refine od_ ?_
        exact wk (hmx6 γ272 trivial) [0, 1, 2, 6, 8, 30] [[_], [_], [_], [_], [_], [_], [_], [_], [_], [_], [_], [_], _] [0, 1, 2, 3, 4, 5, 6, 7, 8, 9, 10, 11, 12] rfl rfl
      refine any_cutX (V := Unit) (fun _ => True) 11 #[true, true, true, false, false, false, false, false, false, false, false, false, false, false] (fun _ => [(0, .pointer (some ⟨γ30 0, 0, none⟩)), (1, .pointer (some ⟨γ16 1, 0, none⟩)), (6, .int .i64 (posK Rn.id ts r.id : Nat)), (27, .func (.func 60) #[] #[.pointer (some ⟨γ1 1, 0, none⟩), .pointer (some ⟨γ1 2, 0, none⟩)]), (29, .pointer (some ⟨γ30 0, 0, none⟩))]) (fun _ => bx (γ30 0) (#[.slice q29 n cq29]) 24 :: bx (γ18 1) (#[.slice none 0 0]) 24 :: bx (γ18 0) (#[.slice p n cap]) 24 :: bx (γ16 3) (#[.slice none 0 0]) 24 :: bx (γ16 2) (#[.func (.func 60) #[] #[.pointer (some ⟨γ1 1, 0, none⟩), .pointer (some ⟨γ1 2, 0, none⟩)]]) 98 :: bx (γ16 1) (#[.int .i64 r.id, .int .i64 r.each, .int .u64 r.th, .int .u64 r.tl, .int .u64 r.tw]) 35 :: bx (γ16 0) (#[.slice p n cap]) 24 :: bx (γ1 3) (#[.slice none 0 0]) 24 :: bx (γ1 2) (#[.int .u64 boost]) 25 :: bx (γ1 1) (#[.int .i64 r.id, .int .i64 r.each, .int .u64 r.th, .int .u64 r.tl, .int .u64 r.tw]) 35 :: bx (γ1 0) (#[.slice p n cap]) 24 :: (Y29 ++ [])) ?_ (fun hmx1 => ?_)
      ·
       rintro _ _
       refine any_fork [3, 11] (by kernel_rfl) (by simp) (each_cons _ rfl ?_ (each_cons _ rfl ?_ (each_nil)))
       ·
        refine qo0 1 [(3, .go (owns 0 0 1))] [0, 1, 6, 27] [(30, .agg #[.slice q29 n cq29])] ?_
        refine od_ ?_
        exact wk (hmx4 () trivial) [0, 1, 6, 27, 30] [[_], [_], [_], [_], [_], [_], [_], [_], [_], [_], [_], _] [0, 1, 2, 3, 4, 5, 6, 7, 8, 9, 10, 11] rfl rfl
       ·
        refine mo0 1 [] [0, 1, 6, 27, 29] (fun γ272 => [(8, .pointer (some ⟨γ272 0, 0, none⟩))]) (fun γ272 L => bx (γ272 0) (#[.int .u64 0, .int .u64 0, .int .u64 0]) 33 :: L) (fun γ272 => ?_)
        refine od_ ?_
        exact wk (hmx5 γ272 trivial) [0, 1, 6, 8, 27, 29] [[_], [_], [_], [_], [_], [_], [_], [_], [_], [_], [_], [_], _] [0, 1, 2, 3, 4, 5, 6, 7, 8, 9, 10, 11, 12] rfl rfl
      refine any_fork [0, 3, 11] (by kernel_rfl) (by simp) (each_cons _ rfl ?_ (each_cons _ rfl ?_ (each_cons _ rfl ?_ (each_nil))))
      ·
       refine qo0 1 [(0, .go (owns 4 0 1))] [0, 1, 6, 29] [(27, .func (.func 60) #[] #[.pointer (some ⟨γ1 1, 0, none⟩), .pointer (some ⟨γ1 2, 0, none⟩)])] ?_
       refine od_ ?_
       exact wk (hmx1 () trivial) [0, 1, 6, 27, 29] [[_], [_], [_], [_], [_], [_], [_], [_], [_], [_], [_], _] [0, 1, 2, 3, 4, 5, 6, 7, 8, 9, 10, 11] rfl rfl
      ·
       refine qo0 1 [(3, .go (owns 0 0 1))] [0, 1, 2, 6] [(30, .agg #[.slice q29 n cq29])] ?_
       refine od_ ?_
       exact wk (hmx2 () trivial) [0, 1, 2, 6, 30] [[_], [_], [_], [_], [_], [_], [_], [_], [_], [_], [_], _] [0, 1, 2, 3, 4, 5, 6, 7, 8, 9, 10, 11] rfl rfl
      ·
       refine mo0 1 [] [0, 1, 2, 6, 29] (fun γ272 => [(8, .pointer (some ⟨γ272 0, 0, none⟩))]) (fun γ272 L => bx (γ272 0) (#[.int .u64 0, .int .u64 0, .int .u64 0]) 33 :: L) (fun γ272 => ?_)
       refine od_ ?_
       exact wk (hmx3 γ272 trivial) [0, 1, 2, 6, 8, 29] [[_], [_], [_], [_], [_], [_], [_], [_], [_], [_], [_], [_], _] [0, 1, 2, 3, 4, 5, 6, 7, 8, 9, 10, 11, 12] rfl rfl
     rintro γ272 _
     refine any_nil (by kernel_rfl) ?_
     refine ds_ (sq_ (sq_ ?_))
     by_cases q386 : ((timeV (topV ts) r boost).2 : Int) ≠ (0 : Int)
     ·
      refine qa [(1, .yes)] [0, 1, 6, 8, 9] [(38, .bool true)] ([((timeV (topV ts) r boost).2 : Int) ≠ (0 : Int)]) (al1 q386) (ds_ (t_ (sq_ (qa0 [] [] [(4, .int .i64 ((timeV (topV ts) r boost).2))] (ds_ (bk ([]) (.int .i64 ((timeV (topV ts) r boost).2)) (qo0 1 [] [4, 7] [(8, .int .i64 ((timeV (topV ts) r boost).2))] (on_ (ds_ (sq_ (qa [(1, .yes)] [4, 7, 8] [(22, .bool true)] ([((timeV (topV ts) r boost).2 : Int) ≠ (0 : Int)]) (al1 q386) (ds_ (t_ (sq_ (qa0 [(2, .go (owns 2 0 1))] [4] [(5, .int .i64 ((timeV (topV ts) r boost).2))] (ds_ (bk (owns 2 0 1) (.tuple #[.agg #[.slice none 0 0], .int .i64 ((timeV (topV ts) r boost).2)]) (qo0 4 [(5, .go (owns 4 0 1))] [6] [(7, .int .i64 ((timeV (topV ts) r boost).2))] (on_ (ds_ (bk (owns 4 0 1) (.tuple #[.agg #[.slice none 0 0], .int .i64 ((timeV (topV ts) r boost).2)]) (qo0 4 [(6, .go (owns 8 0 1))] [6] [(7, .int .i64 ((timeV (topV ts) r boost).2))] (on_ (ds_ (rt (owns 8 0 1) (.tuple #[.agg #[.slice none 0 0], .int .i64 ((timeV (topV ts) r boost).2)]) ?_)))))))))))))))))))))))))
      exact fun w' hw => by rw [join_err (by omega) q20 q34 hg46 (by omega)]; exact ⟨none, 0, 0, [], rfl, SlO.nil, hw.below, hw.sub (List.nil_sublist _)⟩
     ·
      refine qa [(1, .no)] [0, 1, 6, 8, 9] [(38, .bool false)] ([¬ (((timeV (topV ts) r boost).2 : Int) ≠ (0 : Int))]) (al1 q386) (ds_ (f_ (at_skip (ds_ (sq_ (ma0 [(0, .go (owns 0 0 3)), (2, .go (owns 6 2 3))] [0, 1, 6] (fun _ => []) (fun _ L => (L.set 6 (bx (γ16 1) (#[.int .i64 r.id, .int .i64 r.each, .int .u64 ((timeV (topV ts) r boost).1.hi), .int .u64 ((timeV (topV ts) r boost).1.lo), .int .u64 ((timeV (topV ts) r boost).1.w)]) 35))) (fun _ => ds_ (sq_ ?_))))))))
      refine at_any (by kernel_rfl) ?_
      refine tk (m := 7) [0, 1, 2, 3, 5] [] [1] [(42, .pointer (some ⟨γ30 0, 0, none⟩)), (45, .pointer (some ⟨γ30 0, 0, none⟩)), (47, .int .i64 (posK Rn.id ts r.id : Nat))] ([]) #[true, true, true, true, false, true, false, false, false, false, false, false] al0 ?_
      refine any_cutG 4 #[true, true, true, true, true, true, true, true, false, false, false, false] (fun γ401 => [(42, .pointer (some ⟨γ30 0, 0, none⟩)), (46, .slice q29 n cq29), (47, .int .i64 (posK Rn.id ts r.id : Nat)), (49, .slice (some ⟨γ401 0, 0, none⟩) 1 1)]) (fun γ401 => bx (γ401 0) (#[.int .i64 r.id, .int .i64 r.each, .int .u64 ((timeV (topV ts) r boost).1.hi), .int .u64 ((timeV (topV ts) r boost).1.lo), .int .u64 ((timeV (topV ts) r boost).1.w)]) 35 :: bx (γ272 0) (#[.int .u64 ((timeV (topV ts) r boost).1.hi), .int .u64 ((timeV (topV ts) r boost).1.lo), .int .u64 ((timeV (topV ts) r boost).1.w)]) 33 :: bx (γ30 0) (#[.slice q29 n cq29]) 24 :: bx (γ18 1) (#[.slice none 0 0]) 24 :: bx (γ18 0) (#[.slice p n cap]) 24 :: bx (γ16 3) (#[.slice none 0 0]) 24 :: bx (γ16 2) (#[.func (.func 60) #[] #[.pointer (some ⟨γ1 1, 0, none⟩), .pointer (some ⟨γ1 2, 0, none⟩)]]) 98 :: bx (γ16 1) (#[.int .i64 r.id, .int .i64 r.each, .int .u64 ((timeV (topV ts) r boost).1.hi), .int .u64 ((timeV (topV ts) r boost).1.lo), .int .u64 ((timeV (topV ts) r boost).1.w)]) 35 :: bx (γ16 0) (#[.slice p n cap]) 24 :: bx (γ1 3) (#[.slice none 0 0]) 24 :: bx (γ1 2) (#[.int .u64 boost]) 25 :: bx (γ1 1) (#[.int .i64 r.id, .int .i64 r.each, .int .u64 r.th, .int .u64 r.tl, .int .u64 r.tw]) 35 :: bx (γ1 0) (#[.slice p n cap]) 24 :: (Y29 ++ [])) (fun γ401 => ?_) (fun hm => ?_)
      rotate_left
      ·
       refine any_fork [4, 6] (by kernel_rfl) (by simp) (each_cons _ rfl ?_ (each_cons _ rfl ?_ (each_nil)))
       ·
        refine qo0 1 [(4, .go (owns 1 0 1))] [1, 42, 47] [(46, .slice q29 n cq29)] ?_
        refine od_ ?_
        refine a1 6 rfl ?_
        refine qo0 1 [(6, .go (owns 6 0 5))] [42, 46, 47] [(48, .agg #[.int .i64 r.id, .int .i64 r.each, .int .u64 ((timeV (topV ts) r boost).1.hi), .int .u64 ((timeV (topV ts) r boost).1.lo), .int .u64 ((timeV (topV ts) r boost).1.w)])] ?_
        refine od_ ?_
        refine a1 7 rfl ?_
        refine mo0 1 [] [42, 46, 47] (fun γ404 => [(49, .slice (some ⟨γ404 0, 0, none⟩) 1 1)]) (fun γ404 L => bx (γ404 0) (#[.int .i64 r.id, .int .i64 r.each, .int .u64 ((timeV (topV ts) r boost).1.hi), .int .u64 ((timeV (topV ts) r boost).1.lo), .int .u64 ((timeV (topV ts) r boost).1.w)]) 35 :: L) (fun γ404 => ?_)
        refine od_ ?_
        exact any_weak (hm fun i => [γ404 0].getD i 0) [42, 46, 47, 49] (by kernel_rfl) rfl rfl rfl
       ·
        refine qo0 1 [(6, .go (owns 6 0 5))] [42, 45, 47] [(48, .agg #[.int .i64 r.id, .int .i64 r.each, .int .u64 ((timeV (topV ts) r boost).1.hi), .int .u64 ((timeV (topV ts) r boost).1.lo), .int .u64 ((timeV (topV ts) r boost).1.w)])] ?_
        refine od_ ?_
        refine any_fork [4, 7] (by kernel_rfl) (by simp) (each_cons _ rfl ?_ (each_cons _ rfl ?_ (each_nil)))
        ·
         refine qo0 1 [(4, .go (owns 1 0 1))] [42, 47, 48] [(46, .slice q29 n cq29)] ?_
         refine od_ ?_
         refine a1 7 rfl ?_
         refine mo0 1 [] [42, 46, 47] (fun γ407 => [(49, .slice (some ⟨γ407 0, 0, none⟩) 1 1)]) (fun γ407 L => bx (γ407 0) (#[.int .i64 r.id, .int .i64 r.each, .int .u64 ((timeV (topV ts) r boost).1.hi), .int .u64 ((timeV (topV ts) r boost).1.lo), .int .u64 ((timeV (topV ts) r boost).1.w)]) 35 :: L) (fun γ407 => ?_)
         refine od_ ?_
         exact any_weak (hm fun i => [γ407 0].getD i 0) [42, 46, 47, 49] (by kernel_rfl) rfl rfl rfl
        ·
         refine mo0 1 [] [42, 45, 47] (fun γ408 => [(49, .slice (some ⟨γ408 0, 0, none⟩) 1 1)]) (fun γ408 L => bx (γ408 0) (#[.int .i64 r.id, .int .i64 r.each, .int .u64 ((timeV (topV ts) r boost).1.hi), .int .u64 ((timeV (topV ts) r boost).1.lo), .int .u64 ((timeV (topV ts) r boost).1.w)]) 35 :: L) (fun γ408 => ?_)
         refine od_ ?_
         refine a1 4 rfl ?_
         refine qo0 1 [(4, .go (owns 2 0 1))] [42, 47, 49] [(46, .slice q29 n cq29)] ?_
         refine od_ ?_
         exact any_weak (hm fun i => [γ408 0].getD i 0) [42, 46, 47, 49] (by kernel_rfl) rfl rfl rfl
      refine a1 8 rfl ?_
      refine cP (fun v L' => ∃ q_ capq_ Y_, v = .slice q_ (n + 1) capq_ ∧ L' = [bx (γ272 0) (#[.int .u64 ((timeV (topV ts) r boost).1.hi), .int .u64 ((timeV (topV ts) r boost).1.lo), .int .u64 ((timeV (topV ts) r boost).1.w)]) 33, bx (γ30 0) (#[.slice q29 n cq29]) 24, bx (γ18 1) (#[.slice none 0 0]) 24, bx (γ18 0) (#[.slice p n cap]) 24, bx (γ16 3) (#[.slice none 0 0]) 24, bx (γ16 2) (#[.func (.func 60) #[] #[.pointer (some ⟨γ1 1, 0, none⟩), .pointer (some ⟨γ1 2, 0, none⟩)]]) 98, bx (γ16 1) (#[.int .i64 r.id, .int .i64 r.each, .int .u64 ((timeV (topV ts) r boost).1.hi), .int .u64 ((timeV (topV ts) r boost).1.lo), .int .u64 ((timeV (topV ts) r boost).1.w)]) 35, bx (γ16 0) (#[.slice p n cap]) 24, bx (γ1 3) (#[.slice none 0 0]) 24, bx (γ1 2) (#[.int .u64 boost]) 25, bx (γ1 1) (#[.int .i64 r.id, .int .i64 r.each, .int .u64 r.th, .int .u64 r.tl, .int .u64 r.tw]) 35, bx (γ1 0) (#[.slice p n cap]) 24] ++ (Y_ ++ []) ∧ SlO 35 Y_ q_ (n + 1) capq_ (ts.take (posK Rn.id ts r.id) ++ [(⟨r.id, r.each, (timeV (topV ts) r boost).1.hi, (timeV (topV ts) r boost).1.lo, (timeV (topV ts) r boost).1.w⟩ : Rn)] ++ ts.drop (posK Rn.id ts r.id))) Try.call80 (fun w hw => (qinsert_t _ ([bx (γ272 0) (#[.int .u64 ((timeV (topV ts) r boost).1.hi), .int .u64 ((timeV (topV ts) r boost).1.lo), .int .u64 ((timeV (topV ts) r boost).1.w)]) 33, bx (γ30 0) (#[.slice q29 n cq29]) 24, bx (γ18 1) (#[.slice none 0 0]) 24, bx (γ18 0) (#[.slice p n cap]) 24, bx (γ16 3) (#[.slice none 0 0]) 24, bx (γ16 2) (#[.func (.func 60) #[] #[.pointer (some ⟨γ1 1, 0, none⟩), .pointer (some ⟨γ1 2, 0, none⟩)]]) 98, bx (γ16 1) (#[.int .i64 r.id, .int .i64 r.each, .int .u64 ((timeV (topV ts) r boost).1.hi), .int .u64 ((timeV (topV ts) r boost).1.lo), .int .u64 ((timeV (topV ts) r boost).1.w)]) 35, bx (γ16 0) (#[.slice p n cap]) 24, bx (γ1 3) (#[.slice none 0 0]) 24, bx (γ1 2) (#[.int .u64 boost]) 25, bx (γ1 1) (#[.int .i64 r.id, .int .i64 r.each, .int .u64 r.th, .int .u64 r.tl, .int .u64 r.tw]) 35, bx (γ1 0) (#[.slice p n cap]) 24] ++ []) Y29 q29 n cq29 ts (posK Rn.id ts r.id) (γ401 0) (#[.int .i64 r.id, .int .i64 r.each, .int .u64 ((timeV (topV ts) r boost).1.hi), .int .u64 ((timeV (topV ts) r boost).1.lo), .int .u64 ((timeV (topV ts) r boost).1.w)]) 1 ([(⟨r.id, r.each, (timeV (topV ts) r boost).1.hi, (timeV (topV ts) r boost).1.lo, (timeV (topV ts) r boost).1.w⟩ : Rn)]) w (hw.pull (A := [bx (γ272 0) (#[.int .u64 ((timeV (topV ts) r boost).1.hi), .int .u64 ((timeV (topV ts) r boost).1.lo), .int .u64 ((timeV (topV ts) r boost).1.w)]) 33, bx (γ30 0) (#[.slice q29 n cq29]) 24, bx (γ18 1) (#[.slice none 0 0]) 24, bx (γ18 0) (#[.slice p n cap]) 24, bx (γ16 3) (#[.slice none 0 0]) 24, bx (γ16 2) (#[.func (.func 60) #[] #[.pointer (some ⟨γ1 1, 0, none⟩), .pointer (some ⟨γ1 2, 0, none⟩)]]) 98, bx (γ16 1) (#[.int .i64 r.id, .int .i64 r.each, .int .u64 ((timeV (topV ts) r boost).1.hi), .int .u64 ((timeV (topV ts) r boost).1.lo), .int .u64 ((timeV (topV ts) r boost).1.w)]) 35, bx (γ16 0) (#[.slice p n cap]) 24, bx (γ1 3) (#[.slice none 0 0]) 24, bx (γ1 2) (#[.int .u64 boost]) 25, bx (γ1 1) (#[.int .i64 r.id, .int .i64 r.each, .int .u64 r.th, .int .u64 r.tl, .int .u64 r.tw]) 35, bx (γ1 0) (#[.slice p n cap]) 24]) (Y := Y29) (R := [])) hO29 (by rfl) (by rfl) (by omega) (by omega) (by omega) (by omega)).mono fun e w' ⟨q_, capq_, Y_, he, hO, hY⟩ => ⟨_, _, he, ⟨q_, capq_, Y_, rfl, rfl, hO⟩, hY.push⟩) ?_
      rintro v410 L410 ⟨q410, cq410, Y410, rfl, rfl, hO410⟩
      refine od_ ?_
      refine tk (m := 1) [9, 10] [] [50] [(52, .pointer (some ⟨γ30 0, 0, none⟩))] ([]) #[true, true, true, true, true, true, true, true, true, true, true, false] al0 ?_
      refine a1 11 rfl ?_
      refine mo0 1 [(11, .go (owns 1 0 1))] [] (fun _ => []) (fun _ L => (L.set 1 (bx (γ30 0) (#[.slice q410 (n + 1) cq410]) 24))) (fun _ => ?_)
      refine od_ ?_
      refine any_nil (by kernel_rfl) ?_
      refine ds_ (sq_ (qa0 [] [] [(4, .int .i64 0)] (ds_ (bk ([]) (.int .i64 0) (qo0 1 [] [4, 7] [(8, .int .i64 0)] (on_ (ds_ (sq_ (qa0 [] [4, 7, 8] [(22, .bool false)] (ds_ (f_ (at_skip (ds_ (sq_ (ma0 [(0, .go (owns 1 0 1)), (1, .go (owns 2 0 1))] [4] (fun _ => [(5, .int .i64 0)]) (fun _ L => (L.set 2 (bx (γ18 1) (#[.slice q410 (n + 1) cq410]) 24))) (fun _ => ds_ (bk (owns 2 0 1) (.tuple #[.agg #[.slice q410 (n + 1) cq410], .int .i64 0]) (mo0 4 [(5, .go (owns 4 0 1))] [6] (fun _ => [(7, .int .i64 0)]) (fun _ L => (L.set 4 (bx (γ16 3) (#[.slice q410 (n + 1) cq410]) 24))) (fun _ => on_ (ds_ (bk (owns 4 0 1) (.tuple #[.agg #[.slice q410 (n + 1) cq410], .int .i64 0]) (mo0 4 [(6, .go (owns 8 0 1))] [6] (fun _ => [(7, .int .i64 0)]) (fun _ L => (L.set 8 (bx (γ1 3) (#[.slice q410 (n + 1) cq410]) 24))) (fun _ => on_ (ds_ (rt (owns 8 0 1) (.tuple #[.agg #[.slice q410 (n + 1) cq410], .int .i64 0]) ?_)))))))))))))))))))))))))
      exact fun w' hw => by rw [join_ok (by omega) q20 q34 hg46 (by omega)]; exact ⟨_, _, _, _, rfl, hO410, hw.below, one_tail (Hs.pick [[bx (γ272 0) (#[.int .u64 ((timeV (topV ts) r boost).1.hi), .int .u64 ((timeV (topV ts) r boost).1.lo), .int .u64 ((timeV (topV ts) r boost).1.w)]) 33], [bx (γ30 0) (#[.slice q410 (n + 1) cq410]) 24], [bx (γ18 1) (#[.slice q410 (n + 1) cq410]) 24], [bx (γ18 0) (#[.slice p n cap]) 24], [bx (γ16 3) (#[.slice q410 (n + 1) cq410]) 24], [bx (γ16 2) (#[.func (.func 60) #[] #[.pointer (some ⟨γ1 1, 0, none⟩), .pointer (some ⟨γ1 2, 0, none⟩)]]) 98], [bx (γ16 1) (#[.int .i64 r.id, .int .i64 r.each, .int .u64 ((timeV (topV ts) r boost).1.hi), .int .u64 ((timeV (topV ts) r boost).1.lo), .int .u64 ((timeV (topV ts) r boost).1.w)]) 35], [bx (γ16 0) (#[.slice p n cap]) 24], [bx (γ1 3) (#[.slice q410 (n + 1) cq410]) 24], [bx (γ1 2) (#[.int .u64 boost]) 25], [bx (γ1 1) (#[.int .i64 r.id, .int .i64 r.each, .int .u64 r.th, .int .u64 r.tl, .int .u64 r.tw]) 35], [bx (γ1 0) (#[.slice p n cap]) 24], Y410] [12] [0, 1, 2, 3, 4, 5, 6, 7, 8, 9, 10, 11] (by kernel_rfl) hw)⟩
    ·
     have hp_y46 := pos_getK hgq.rs hg46
     have hl_y46 := (List.getElem?_eq_some_iff.1 hp_y46).1
     refine cK (.tuple #[.int .i64 (posK Rn.id ts r.id : Nat), .bool true]) Try.call34 (fun w hw => by have := at_t q29 n cq29 ts r.id w (hO29.atN (A := [_, _, _, _, _, _, _, _, _, _, _]) hw) hO29.len (by omega) hgq hidr; rw [hasK_some hg46] at this; exact this) ?_
     refine cm 5 [] [0, 1, 2] [(6, .int .i64 (posK Rn.id ts r.id : Nat)), (7, .bool true)] ([]) (by kernel_rfl) rfl al0 ?_
     refine calm_nil' ?_
     refine ds_ (sq_ (sq_ (qa0 [] [0, 1, 2, 6] [(25, .bool true)] (ds_ (t_ (sq_ (qa0 [] [] [(4, .int .i64 5)] (ds_ (bk ([]) (.int .i64 5) (qo0 1 [] [4, 7] [(8, .int .i64 5)] (on_ (ds_ (sq_ (qa0 [] [4, 7, 8] [(22, .bool true)] (ds_ (t_ (sq_ (qa0 [(2, .go (owns 1 0 1))] [4] [(5, .int .i64 5)] (ds_ (bk (owns 1 0 1) (.tuple #[.agg #[.slice none 0 0], .int .i64 5]) (qo0 4 [(5, .go (owns 3 0 1))] [6] [(7, .int .i64 5)] (on_ (ds_ (bk (owns 3 0 1) (.tuple #[.agg #[.slice none 0 0], .int .i64 5]) (qo0 4 [(6, .go (owns 7 0 1))] [6] [(7, .int .i64 5)] (on_ (ds_ (rt (owns 7 0 1) (.tuple #[.agg #[.slice none 0 0], .int .i64 5]) ?_))))))))))))))))))))))))))))
     exact fun w' hw => by rw [join_there (by omega) q20 q34 hg46]; exact ⟨none, 0, 0, [], rfl, SlO.nil, hw.below, hw.sub (List.nil_sublist _)⟩
end Go.Proofs.Ytnhkecfapohlgaa

/-! Queues: Run. -/
namespace Go.Proofs.Ytnhkecfapohlgaa
open Go Go.RowKit

set_option maxRecDepth 100000 in
theorem run_t (p : Option Addr) (n cap : Nat) (ts : List Rn) (pi : Option Addr) (m capi : Nat) (il : List Int) (dt : Int) (w : World)
 (hts : Sv w p ts) (hn : n = ts.length) (hb : n ≤ 1000)
 (hU : ∀ r ∈ ts, r.U)
 (hil : Sv w pi il) (hmi : m = il.length) (hbi : m ≤ 1000)
 : Calls Try.prog 16 #[.agg #[.slice p n cap], .slice pi m capi, .int .i64 dt] w fun e w' => ∃ q' n' c' Y, e = .returned (.tuple #[.agg #[.slice q' n' c'], .int .i64 (runV ts il dt).2]) ∧ SlO 35 Y q' n' c' (runV ts il dt).1 ∧ Below w.heap.size w w' ∧ Hs w Y w' := by
 refine enter (Hs.start w) Try.func16 rfl Try.ntmps16 rfl (sq_ (ma0 [] [1] (fun γ1 => [(3, .pointer (some ⟨γ1 0, 0, none⟩)), (5, .pointer (some ⟨γ1 1, 0, none⟩)), (6, .pointer (some ⟨γ1 2, 0, none⟩))]) (fun γ1 L => bx (γ1 2) (#[.slice none 0 0]) 24 :: bx (γ1 1) (#[.int .i64 dt]) 2 :: bx (γ1 0) (#[.slice p n cap]) 24 :: L) (fun γ1 => ds_ (sq_ ?_))))
 by_cases q3 : (dt : Int) ≥ (0 : Int)
 ·
  by_cases q5 : (dt : Int) ≤ (10000000 : Int)
  ·
   refine ao_ (qo 9 [(0, .go (owns 2 0 1)), (1, .go (owns 1 0 1)), (2, .yes), (4, .go (owns 1 0 1)), (5, .yes)] [6] [(8, .agg #[.slice p n cap]), (14, .bool true), (15, .slice pi m capi), (16, .func (.func 45) #[] #[.pointer (some ⟨γ1 1, 0, none⟩)])] ([(dt : Int) ≥ (0 : Int)] ++ ([(dt : Int) ≤ (10000000 : Int)])) (alA (al1 q3) (al1 q5)) (ops_inline (g := 36) (args := #[.agg #[.slice p n cap], .bool true, .slice pi m capi, .func (.func 45) #[] #[.pointer (some ⟨γ1 1, 0, none⟩)]]) (by kernel_rfl) (by kernel_rfl) (by kernel_rfl) (fun args w => Try.call36 args w) Try.func36 rfl Try.ntmps36 rfl (sq_ (ma0 [] [] (fun γ7 => [(4, .pointer (some ⟨γ7 0, 0, none⟩)), (5, .pointer (some ⟨γ7 1, 0, none⟩)), (6, .pointer (some ⟨γ7 2, 0, none⟩)), (7, .pointer (some ⟨γ7 3, 0, none⟩)), (8, .pointer (some ⟨γ7 4, 0, none⟩))]) (fun γ7 L => bx (γ7 4) (#[.slice none 0 0]) 24 :: bx (γ7 3) (#[.func (.func 45) #[] #[.pointer (some ⟨γ1 1, 0, none⟩)]]) 77 :: bx (γ7 2) (#[.slice pi m capi]) 41 :: bx (γ7 1) (#[.bool true]) 4 :: bx (γ7 0) (#[.slice p n cap]) 24 :: L) (fun γ7 => ds_ (sq_ (ao_ (qo0 2 [(0, .go (owns 4 0 1))] [8] [(10, .agg #[.slice p n cap]), (11, .func (.func 68) #[] #[.pointer (some ⟨γ7 1, 0, none⟩), .pointer (some ⟨γ7 2, 0, none⟩), .pointer (some ⟨γ7 3, 0, none⟩)])] (ops_inline (g := 56) (args := #[.agg #[.slice p n cap], .func (.func 68) #[] #[.pointer (some ⟨γ7 1, 0, none⟩), .pointer (some ⟨γ7 2, 0, none⟩), .pointer (some ⟨γ7 3, 0, none⟩)]]) (by kernel_rfl) (by kernel_rfl) (by kernel_rfl) (fun args w => Try.call56 args w) Try.func56 rfl Try.ntmps56 rfl (sq_ (ma0 [] [1] (fun γ9 => [(2, .pointer (some ⟨γ9 0, 0, none⟩)), (4, .pointer (some ⟨γ9 1, 0, none⟩))]) (fun γ9 L => bx (γ9 1) (#[.slice none 0 0]) 24 :: bx (γ9 0) (#[.slice p n cap]) 24 :: L) (fun γ9 => ds_ (sq_ (sq_ (ao_ (qo0 1 [(0, .go (owns 1 0 1))] [1, 2, 4] [(9, .agg #[.slice p n cap])] ?_))))))))))))))))
   rcases q11 : chkQ ts with _ | _
   ·
    refine cD (.int .i64 200) Try.call20 (fun w hw => by have := qcheck_t p n cap ts w (hts.kept hw.below) hn (by omega); rw [q11] at this; exact this) (qo0 1 [] [1, 2, 4] [(6, .int .i64 200)] (on_ (ds_ (sq_ (qa0 [] [1, 2, 4, 6] [(12, .bool true)] (ds_ (t_ (sq_ (qa0 [(2, .go (owns 0 0 1))] [4] [(5, .int .i64 200)] (ds_ (bk (owns 0 0 1) (.tuple #[.agg #[.slice none 0 0], .int .i64 200]) (qo0 4 [(5, .go (owns 2 0 1))] [8] [(9, .int .i64 200)] (on_ (ds_ (bk (owns 2 0 1) (.tuple #[.agg #[.slice none 0 0], .int .i64 200]) (qo0 4 [(12, .go (owns 7 0 1))] [6] [(7, .int .i64 200)] (on_ (ds_ (rt (owns 7 0 1) (.tuple #[.agg #[.slice none 0 0], .int .i64 200]) ?_)))))))))))))))))))
    exact fun w' hw => by rw [show runV ts il dt = alterV (runF dt) ts (runB dt) il from rfl, alter_bad q11]; exact ⟨none, 0, 0, [], rfl, SlO.nil, hw.below, hw.sub (List.nil_sublist _)⟩
   ·
    refine cD (.int .i64 0) Try.call20 (fun w hw => by have := qcheck_t p n cap ts w (hts.kept hw.below) hn (by omega); rw [q11] at this; exact this) (qo0 1 [] [1, 2, 4] [(6, .int .i64 0)] (on_ (ds_ (sq_ (qa0 [] [1, 2, 4, 6] [(12, .bool false)] (ds_ (f_ (at_skip (ds_ (sq_ ?_))))))))))
    have hgq := chk_iff.1 q11
    have hlq := hgq.len
    refine ao_ (qo0 2 [(1, .go (owns 1 0 1))] [1, 4] [(16, .slice p n cap)] (cP (fun v L' => ∃ q_ c_ Y_, v = .slice q_ n c_ ∧ L' = List.take 10 ([bx (γ9 1) (#[.slice none 0 0]) 24, bx (γ9 0) (#[.slice p n cap]) 24, bx (γ7 4) (#[.slice none 0 0]) 24, bx (γ7 3) (#[.func (.func 45) #[] #[.pointer (some ⟨γ1 1, 0, none⟩)]]) 77, bx (γ7 2) (#[.slice pi m capi]) 41, bx (γ7 1) (#[.bool true]) 4, bx (γ7 0) (#[.slice p n cap]) 24, bx (γ1 2) (#[.slice none 0 0]) 24, bx (γ1 1) (#[.int .i64 dt]) 2, bx (γ1 0) (#[.slice p n cap]) 24]) ++ (Y_ ++ List.drop 10 ([bx (γ9 1) (#[.slice none 0 0]) 24, bx (γ9 0) (#[.slice p n cap]) 24, bx (γ7 4) (#[.slice none 0 0]) 24, bx (γ7 3) (#[.func (.func 45) #[] #[.pointer (some ⟨γ1 1, 0, none⟩)]]) 77, bx (γ7 2) (#[.slice pi m capi]) 41, bx (γ7 1) (#[.bool true]) 4, bx (γ7 0) (#[.slice p n cap]) 24, bx (γ1 2) (#[.slice none 0 0]) 24, bx (γ1 1) (#[.int .i64 dt]) 2, bx (γ1 0) (#[.slice p n cap]) 24])) ∧ SlO 35 Y_ q_ n c_ ts) Try.call78 (fun w hw => (qclone_t p n cap ts w (hts.kept hw.below) hn (by omega)).mono fun e w' ⟨q_, c_, Y_, he, hO, hb, hY⟩ => ⟨_, _, he, ⟨q_, c_, Y_, rfl, rfl, hO⟩, hw.join hb hY 10⟩) ?_))
    rintro v20 L20 ⟨q20, cq20, Y20, rfl, rfl, hO20⟩
    refine mo0 3 [(5, .go (owns 0 0 1))] [1, 4] (fun γ21 => [(7, .pointer (some ⟨γ21 0, 0, none⟩))]) (fun γ21 L => bx (γ21 0) (#[.slice q20 n cq20]) 24 :: L) (fun γ21 => on_ (ds_ (sq_ (sq_ (ao_ (qo0 1 [] [4, 7] [(19, .func (.func 68) #[] #[.pointer (some ⟨γ7 1, 0, none⟩), .pointer (some ⟨γ7 2, 0, none⟩), .pointer (some ⟨γ7 3, 0, none⟩)])] (ops_inline (g := 68) (args := #[.pointer (some ⟨γ21 0, 0, none⟩), .pointer (some ⟨γ7 1, 0, none⟩), .pointer (some ⟨γ7 2, 0, none⟩), .pointer (some ⟨γ7 3, 0, none⟩)]) (by kernel_rfl) (by kernel_rfl) (by kernel_rfl) (fun args w => Try.call68 args w) Try.func68 rfl Try.ntmps68 rfl (sq_ (qa0 [] [0, 1, 2, 3] [] (ds_ (sq_ (sq_ (qa0 [(0, .go (owns 6 0 1))] [0, 2, 3] [(11, .bool false)] (ds_ (f_ (at_skip (ds_ (sq_ (ao_ (qo0 2 [(1, .go (owns 5 0 1))] [0, 3] [(13, .pointer (some ⟨γ21 0, 0, none⟩)), (14, .slice pi m capi)] (ops_inline (g := 69) (args := #[.pointer (some ⟨γ21 0, 0, none⟩), .slice pi m capi]) (by kernel_rfl) (by kernel_rfl) (by kernel_rfl) (fun args w => Try.call69 args w) Try.func69 rfl Try.ntmps69 rfl (sq_ (qa0 [] [0, 1] [] (ds_ (sq_ (qa0 [] [0, 1] [(6, .slice none 0 0)] (ds_ (sq_ (qa0 [] [0, 1, 6] [(7, .int .i64 0), (8, .int .i64 0)] (ds_ (sq_ (sq_ (qa0 [] [0, 6, 7, 8] [(13, .slice pi m capi), (14, .int .i64 (m : Nat)), (15, .int .i64 0)] (ds_ (at_block (at_loop (α := Nat × Int × Int × List Ob × Option Addr × Nat × Nat) [0, 6, 7, 8, 13, 14, 15] (fun ⟨j, la, er, Yo, po, nu, co⟩ => [(0, .pointer (some ⟨γ21 0, 0, none⟩)), (6, .slice po nu co), (7, .int .i64 la), (8, .int .i64 er), (13, .slice pi m capi), (14, .int .i64 (m : Nat)), (15, .int .i64 (j : Nat))]) (fun ⟨j, la, er, Yo, po, nu, co⟩ => bx (γ21 0) (#[.slice q20 n cq20]) 24 :: bx (γ9 1) (#[.slice none 0 0]) 24 :: bx (γ9 0) (#[.slice p n cap]) 24 :: bx (γ7 4) (#[.slice none 0 0]) 24 :: bx (γ7 3) (#[.func (.func 45) #[] #[.pointer (some ⟨γ1 1, 0, none⟩)]]) 77 :: bx (γ7 2) (#[.slice pi m capi]) 41 :: bx (γ7 1) (#[.bool true]) 4 :: bx (γ7 0) (#[.slice p n cap]) 24 :: bx (γ1 2) (#[.slice none 0 0]) 24 :: bx (γ1 1) (#[.int .i64 dt]) 2 :: bx (γ1 0) (#[.slice p n cap]) 24 :: (Yo ++ (Y20 ++ []))) (fun ⟨j, la, er, Yo, po, nu, co⟩ => j ≤ m ∧ lastN il j = la ∧ Ris (fun x : Int => x) (il.take j) ∧ (∀ y ∈ il.take j, idV y = true) ∧ foundE ts (il.take j) = er ∧ nu ≤ j ∧ SlO 3 Yo po nu co ((il.take j).map (posI ts))) (fun ⟨j, la, er, Yo, po, nu, co⟩ => m - j) (0, 0, 0, [], none, 0, 0) (by kernel_rfl) rfl ⟨Nat.zero_le _, rfl, ris_take0T, all_take0T, found_zero, Nat.le_refl _, SlO.nil⟩ ?_))))))))))))))))))))))))))))))))))))
    rintro ⟨j, la, er, Yo, po, nu, co⟩
    rintro ⟨hj, hla, hR, hA, her, hnu, hOo⟩
    refine sq_ ?_
    by_cases q31 : ((j : Nat) : Int) < ((m : Nat) : Int)
    ·
     refine qa [(0, .yes)] [0, 6, 7, 8, 13, 14, 15] [(16, .bool true)] ([((j : Nat) : Int) < ((m : Nat) : Int)]) (al1 q31) (ds_ (sq_ (t_ (at_skip (ds_ (sq_ (at_block (sq_ ?_))))))))
     obtain ⟨b34, o34, rfl⟩ := hil.pos (i := j) (by omega)
     obtain ⟨x36, hx36⟩ := get_some (l := il) (m := j) (by omega)
     refine qa [(0, .at b34 o34 j), (1, .go (outs b34 (o34 + j * 1) [.int .i64 x36]))] [0, 6, 7, 8, 13, 14, 15] [(10, .int .i64 x36)] ([(some ⟨b34, o34, none⟩ : Option Addr) = some ⟨b34, o34, none⟩, (j : Nat) = ((j : Nat) : Int), j < m] ++ (cellsP w b34 (o34 + j * 1) [.int .i64 x36])) (alA (al2 rfl (al2 rfl (al1 (by omega)))) (rd_pre (hil.get hx36) _ rfl)) (ds_ (sq_ (sq_ (ao_ (qo0 1 [] [0, 6, 7, 8, 10, 13, 14, 15] [(19, .int .i64 x36)] ?_)))))
     rcases q39 : idV x36 with _ | _
     ·
      refine cD (.bool false) Try.call52 (fun w hw => by have := id_t x36 w; rw [q39] at this; exact this) (qo0 6 [] [0, 6, 8, 10, 13, 14, 15] [(26, .bool true)] (on_ (ds_ (t_ (sq_ (qa0 [] [] [(4, .slice none 0 0), (5, .int .i64 2)] (ds_ (bk ([]) (.tuple #[.slice none 0 0, .int .i64 2]) ?_))))))))
      have hpe : placesE ts il = 2 := places_bad (risI_badI hx36 q39)
      refine qo0 5 [] [0, 3] [(6, .slice none 0 0), (7, .int .i64 2)] (on_ (ds_ (sq_ (sq_ (qa0 [] [0, 3, 7] [(18, .slice none 0 0), (19, .int .i64 0), (20, .int .i64 0)] (ds_ (at_block (at_loop (α := Nat × Int × List Ob × List Rn) [0, 3, 7, 18, 19, 20] (fun ⟨i, ez, Yq, L⟩ => [(0, .pointer (some ⟨γ21 0, 0, none⟩)), (3, .pointer (some ⟨γ7 3, 0, none⟩)), (7, .int .i64 ez), (18, .slice none 0 0), (19, .int .i64 0), (20, .int .i64 (i : Nat))]) (fun ⟨i, ez, Yq, L⟩ => bx (γ21 0) (#[.slice q20 n cq20]) 24 :: bx (γ9 1) (#[.slice none 0 0]) 24 :: bx (γ9 0) (#[.slice p n cap]) 24 :: bx (γ7 4) (#[.slice none 0 0]) 24 :: bx (γ7 3) (#[.func (.func 45) #[] #[.pointer (some ⟨γ1 1, 0, none⟩)]]) 77 :: bx (γ7 2) (#[.slice (some ⟨b34, o34, none⟩) m capi]) 41 :: bx (γ7 1) (#[.bool true]) 4 :: bx (γ7 0) (#[.slice p n cap]) 24 :: bx (γ1 2) (#[.slice none 0 0]) 24 :: bx (γ1 1) (#[.int .i64 dt]) 2 :: bx (γ1 0) (#[.slice p n cap]) 24 :: (Yo ++ (Yq ++ []))) (fun ⟨i, ez, Yq, L⟩ => i ≤ 0 ∧ altX (runF dt) ts (placesE ts il) (il.take i) = ez ∧ (ez = 0 → L = (altL (runF dt) ts (il.take i))) ∧ SlO 35 Yq q20 n cq20 L) (fun ⟨i, ez, Yq, L⟩ => 0 - i) (0, 2, Y20, ts) (by kernel_rfl) rfl ⟨Nat.zero_le _, by rw [altX_start]; exact hpe, fun _ => altL_nil.symm, hO20⟩ ?_))))))))
      rintro ⟨i, ez, Yq, L⟩
      rintro ⟨hi, hX, hL, hOq⟩
      refine sq_ (qa [(0, .no)] [0, 3, 7, 18, 19, 20] [(21, .bool false)] ([¬ (((i : Nat) : Int) < (0 : Int))]) (al1 (by omega)) (ds_ (sq_ (f_ (at_leave _ rfl (ds_ (sq_ ?_)))))))
      have hez : ez = 2 := by rw [← hX]; exact altX_ne (a := il.take 0) (by omega) (by rw [altX_start]; exact hpe)
      have hXf : altX (runF dt) ts (placesE ts il) il = ez := altX_ne (by omega) hX
      refine qa0 [] [] [(5, .int .i64 ez)] (ds_ (bk ([]) (.int .i64 ez) (qo0 1 [] [4, 7] [(8, .int .i64 ez)] (on_ (ds_ (sq_ (qa [(1, .yes)] [4, 7, 8] [(22, .bool true)] ([(ez : Int) ≠ (0 : Int)]) (al1 (by omega)) (ds_ (t_ (sq_ (qa0 [(2, .go (owns 1 0 1))] [4] [(5, .int .i64 ez)] (ds_ (bk (owns 1 0 1) (.tuple #[.agg #[.slice none 0 0], .int .i64 ez]) (qo0 4 [(5, .go (owns 3 0 1))] [8] [(9, .int .i64 ez)] (on_ (ds_ (bk (owns 3 0 1) (.tuple #[.agg #[.slice none 0 0], .int .i64 ez]) (qo0 4 [(12, .go (owns 8 0 1))] [6] [(7, .int .i64 ez)] (on_ (ds_ (rt (owns 8 0 1) (.tuple #[.agg #[.slice none 0 0], .int .i64 ez]) ?_)))))))))))))))))))))
      exact fun w' hw => by rw [show runV ts il dt = alterV (runF dt) ts (runB dt) il from rfl, alter_err q11 (show runB dt = true from decide_eq_true (by omega)) (by rw [hXf]; omega), hXf]; exact ⟨none, 0, 0, [], rfl, SlO.nil, hw.below, hw.sub (List.nil_sublist _)⟩
     ·
      refine cD (.bool true) Try.call52 (fun w hw => by have := id_t x36 w; rw [q39] at this; exact this) ?_
      by_cases q52 : (x36 : Int) ≤ (la : Int)
      ·
       refine qo 6 [(6, .yes)] [0, 6, 8, 10, 13, 14, 15] [(26, .bool true)] ([(x36 : Int) ≤ (la : Int)]) (al1 q52) (on_ (ds_ (t_ (sq_ (qa0 [] [] [(4, .slice none 0 0), (5, .int .i64 2)] (ds_ (bk ([]) (.tuple #[.slice none 0 0, .int .i64 2]) ?_)))))))
       have hpe : placesE ts il = 2 := places_bad (risI_badL hx36 hla q39 (by omega))
       refine qo0 5 [] [0, 3] [(6, .slice none 0 0), (7, .int .i64 2)] (on_ (ds_ (sq_ (sq_ (qa0 [] [0, 3, 7] [(18, .slice none 0 0), (19, .int .i64 0), (20, .int .i64 0)] (ds_ (at_block (at_loop (α := Nat × Int × List Ob × List Rn) [0, 3, 7, 18, 19, 20] (fun ⟨i, ez, Yq, L⟩ => [(0, .pointer (some ⟨γ21 0, 0, none⟩)), (3, .pointer (some ⟨γ7 3, 0, none⟩)), (7, .int .i64 ez), (18, .slice none 0 0), (19, .int .i64 0), (20, .int .i64 (i : Nat))]) (fun ⟨i, ez, Yq, L⟩ => bx (γ21 0) (#[.slice q20 n cq20]) 24 :: bx (γ9 1) (#[.slice none 0 0]) 24 :: bx (γ9 0) (#[.slice p n cap]) 24 :: bx (γ7 4) (#[.slice none 0 0]) 24 :: bx (γ7 3) (#[.func (.func 45) #[] #[.pointer (some ⟨γ1 1, 0, none⟩)]]) 77 :: bx (γ7 2) (#[.slice (some ⟨b34, o34, none⟩) m capi]) 41 :: bx (γ7 1) (#[.bool true]) 4 :: bx (γ7 0) (#[.slice p n cap]) 24 :: bx (γ1 2) (#[.slice none 0 0]) 24 :: bx (γ1 1) (#[.int .i64 dt]) 2 :: bx (γ1 0) (#[.slice p n cap]) 24 :: (Yo ++ (Yq ++ []))) (fun ⟨i, ez, Yq, L⟩ => i ≤ 0 ∧ altX (runF dt) ts (placesE ts il) (il.take i) = ez ∧ (ez = 0 → L = (altL (runF dt) ts (il.take i))) ∧ SlO 35 Yq q20 n cq20 L) (fun ⟨i, ez, Yq, L⟩ => 0 - i) (0, 2, Y20, ts) (by kernel_rfl) rfl ⟨Nat.zero_le _, by rw [altX_start]; exact hpe, fun _ => altL_nil.symm, hO20⟩ ?_))))))))
       rintro ⟨i, ez, Yq, L⟩
       rintro ⟨hi, hX, hL, hOq⟩
       refine sq_ (qa [(0, .no)] [0, 3, 7, 18, 19, 20] [(21, .bool false)] ([¬ (((i : Nat) : Int) < (0 : Int))]) (al1 (by omega)) (ds_ (sq_ (f_ (at_leave _ rfl (ds_ (sq_ ?_)))))))
       have hez : ez = 2 := by rw [← hX]; exact altX_ne (a := il.take 0) (by omega) (by rw [altX_start]; exact hpe)
       have hXf : altX (runF dt) ts (placesE ts il) il = ez := altX_ne (by omega) hX
       refine qa0 [] [] [(5, .int .i64 ez)] (ds_ (bk ([]) (.int .i64 ez) (qo0 1 [] [4, 7] [(8, .int .i64 ez)] (on_ (ds_ (sq_ (qa [(1, .yes)] [4, 7, 8] [(22, .bool true)] ([(ez : Int) ≠ (0 : Int)]) (al1 (by omega)) (ds_ (t_ (sq_ (qa0 [(2, .go (owns 1 0 1))] [4] [(5, .int .i64 ez)] (ds_ (bk (owns 1 0 1) (.tuple #[.agg #[.slice none 0 0], .int .i64 ez]) (qo0 4 [(5, .go (owns 3 0 1))] [8] [(9, .int .i64 ez)] (on_ (ds_ (bk (owns 3 0 1) (.tuple #[.agg #[.slice none 0 0], .int .i64 ez]) (qo0 4 [(12, .go (owns 8 0 1))] [6] [(7, .int .i64 ez)] (on_ (ds_ (rt (owns 8 0 1) (.tuple #[.agg #[.slice none 0 0], .int .i64 ez]) ?_)))))))))))))))))))))
       exact fun w' hw => by rw [show runV ts il dt = alterV (runF dt) ts (runB dt) il from rfl, alter_err q11 (show runB dt = true from decide_eq_true (by omega)) (by rw [hXf]; omega), hXf]; exact ⟨none, 0, 0, [], rfl, SlO.nil, hw.below, hw.sub (List.nil_sublist _)⟩
      ·
       refine qo 6 [(6, .no)] [0, 6, 8, 10, 13, 14, 15] [(26, .bool false)] ([¬ ((x36 : Int) ≤ (la : Int))]) (al1 q52) (on_ (ds_ (f_ (at_skip (ds_ (sq_ (qa0 [] [0, 6, 8, 10, 13, 14, 15] [(7, .int .i64 x36)] (ds_ (sq_ (ao_ (qo0 5 [(3, .go (owns 0 0 1))] [0, 6, 7, 8, 13, 14, 15] [(32, .slice q20 n cq20), (33, .int .i64 x36)] ?_)))))))))))
       rcases hg67 : getK Rn.id ts x36 with _ | y67
       ·
        have hpl67 := (pos_cut (k := x36) hgq.rs).2.2
        refine cD (.tuple #[.int .i64 (posK Rn.id ts x36 : Nat), .bool false]) Try.call34 (fun w hw => by have := at_t q20 n cq20 ts x36 w (hO20.atN (A := (_ :: _ :: _ :: _ :: _ :: _ :: _ :: _ :: _ :: _ :: _ :: Yo)) hw) hO20.len (by omega) hgq q39; rw [hasK_none hg67] at this; exact this) (qo0 5 [] [0, 6, 7, 8, 13, 14, 15] [(11, .int .i64 (posK Rn.id ts x36 : Nat)), (12, .bool false)] (on_ (ds_ (sq_ (sq_ (qa0 [] [0, 6, 7, 8, 11, 13, 14, 15] [(38, .bool true)] (ds_ (t_ (qa0 [] [0, 6, 7, 11, 13, 14, 15] [(8, .int .i64 4)] (ds_ (ao_ (mo0 3 [] [0, 7, 8, 13, 14, 15] (fun γ71 => [(39, .slice po nu co), (41, .slice (some ⟨γ71 0, 0, none⟩) 1 1)]) (fun γ71 L => bx (γ71 0) (#[.int .i64 (posK Rn.id ts x36 : Nat)]) 3 :: L) (fun γ71 => ops_append (α := Int) [bx (γ71 0) (#[.int .i64 (posK Rn.id ts x36 : Nat)]) 3, bx (γ21 0) (#[.slice q20 n cq20]) 24, bx (γ9 1) (#[.slice none 0 0]) 24, bx (γ9 0) (#[.slice p n cap]) 24, bx (γ7 4) (#[.slice none 0 0]) 24, bx (γ7 3) (#[.func (.func 45) #[] #[.pointer (some ⟨γ1 1, 0, none⟩)]]) 77, bx (γ7 2) (#[.slice (some ⟨b34, o34, none⟩) m capi]) 41, bx (γ7 1) (#[.bool true]) 4, bx (γ7 0) (#[.slice p n cap]) 24, bx (γ1 2) (#[.slice none 0 0]) 24, bx (γ1 1) (#[.int .i64 dt]) 2, bx (γ1 0) (#[.slice p n cap]) 24] Yo (Y20 ++ []) (.refl _) rfl (by kernel_rfl) (by kernel_rfl) (p := po) (n := nu) (cap := co) (m := 1) (yv := .slice (some ⟨γ71 0, 0, none⟩) 1 1) (by kernel_rfl) (by kernel_rfl) (T := 3) (by_ := 8) (by kernel_rfl) ((il.take j).map (posI ts)) ([(posK Rn.id ts x36 : Nat)]) hOo (fun w hw => src_svn Try.underlying41 (sv_row (hw.row 0 rfl) (by rfl)) (by rfl)) (by rfl) (by have hmx : maxLen = 9223372036854775807 := rfl; omega) (by have hmx : maxLen = 9223372036854775807 := rfl; omega) (fun Y72 p72 cap72 hO72 => qo0 1 [] [0, 7, 8, 13, 14, 15] [(6, .slice p72 (nu + 1) cap72)] (on_ (done_block (ds_ (qa [(0, .fit)] [0, 6, 7, 8, 13, 14] [(15, .int .i64 (j + 1 : Nat))] ([Fit .i64 ((j + 1 : Nat))]) (al1 (fit64 (by omega) (by omega))) (Done.pick [[bx (γ71 0) (#[.int .i64 (posK Rn.id ts x36 : Nat)]) 3], [bx (γ21 0) (#[.slice q20 n cq20]) 24], [bx (γ9 1) (#[.slice none 0 0]) 24], [bx (γ9 0) (#[.slice p n cap]) 24], [bx (γ7 4) (#[.slice none 0 0]) 24], [bx (γ7 3) (#[.func (.func 45) #[] #[.pointer (some ⟨γ1 1, 0, none⟩)]]) 77], [bx (γ7 2) (#[.slice (some ⟨b34, o34, none⟩) m capi]) 41], [bx (γ7 1) (#[.bool true]) 4], [bx (γ7 0) (#[.slice p n cap]) 24], [bx (γ1 2) (#[.slice none 0 0]) 24], [bx (γ1 1) (#[.int .i64 dt]) 2], [bx (γ1 0) (#[.slice p n cap]) 24], Y72, Y20] [1, 2, 3, 4, 5, 6, 7, 8, 9, 10, 11, 12, 13] [0] (bx (γ21 0) (#[.slice q20 n cq20]) 24 :: bx (γ9 1) (#[.slice none 0 0]) 24 :: bx (γ9 0) (#[.slice p n cap]) 24 :: bx (γ7 4) (#[.slice none 0 0]) 24 :: bx (γ7 3) (#[.func (.func 45) #[] #[.pointer (some ⟨γ1 1, 0, none⟩)]]) 77 :: bx (γ7 2) (#[.slice (some ⟨b34, o34, none⟩) m capi]) 41 :: bx (γ7 1) (#[.bool true]) 4 :: bx (γ7 0) (#[.slice p n cap]) 24 :: bx (γ1 2) (#[.slice none 0 0]) 24 :: bx (γ1 1) (#[.int .i64 dt]) 2 :: bx (γ1 0) (#[.slice p n cap]) 24 :: (Y72 ++ (Y20 ++ []))) (by kernel_rfl) rfl rfl ?_)))))))))))))))))))
        exact dr [0, 6, 7, 8, 13, 14, 15] (j + 1, x36, 4, Y72, p72, (nu + 1), cap72) ⟨by omega, lastN_on hx36, risN_on hR hx36 hla (by omega), all_onT hA hx36 q39, by rw [found_no hx36 hg67], by omega, by rw [map_on hx36]; exact hO72⟩
       ·
        have hp_y67 := pos_getK hgq.rs hg67
        have hl_y67 := (List.getElem?_eq_some_iff.1 hp_y67).1
        refine cD (.tuple #[.int .i64 (posK Rn.id ts x36 : Nat), .bool true]) Try.call34 (fun w hw => by have := at_t q20 n cq20 ts x36 w (hO20.atN (A := (_ :: _ :: _ :: _ :: _ :: _ :: _ :: _ :: _ :: _ :: _ :: Yo)) hw) hO20.len (by omega) hgq q39; rw [hasK_some hg67] at this; exact this) (qo0 5 [] [0, 6, 7, 8, 13, 14, 15] [(11, .int .i64 (posK Rn.id ts x36 : Nat)), (12, .bool true)] (on_ (ds_ (sq_ (sq_ (qa0 [] [0, 6, 7, 8, 11, 13, 14, 15] [(38, .bool false)] (ds_ (f_ (at_skip (ds_ (ao_ (mo0 3 [] [0, 7, 8, 13, 14, 15] (fun γ77 => [(39, .slice po nu co), (41, .slice (some ⟨γ77 0, 0, none⟩) 1 1)]) (fun γ77 L => bx (γ77 0) (#[.int .i64 (posK Rn.id ts x36 : Nat)]) 3 :: L) (fun γ77 => ops_append (α := Int) [bx (γ77 0) (#[.int .i64 (posK Rn.id ts x36 : Nat)]) 3, bx (γ21 0) (#[.slice q20 n cq20]) 24, bx (γ9 1) (#[.slice none 0 0]) 24, bx (γ9 0) (#[.slice p n cap]) 24, bx (γ7 4) (#[.slice none 0 0]) 24, bx (γ7 3) (#[.func (.func 45) #[] #[.pointer (some ⟨γ1 1, 0, none⟩)]]) 77, bx (γ7 2) (#[.slice (some ⟨b34, o34, none⟩) m capi]) 41, bx (γ7 1) (#[.bool true]) 4, bx (γ7 0) (#[.slice p n cap]) 24, bx (γ1 2) (#[.slice none 0 0]) 24, bx (γ1 1) (#[.int .i64 dt]) 2, bx (γ1 0) (#[.slice p n cap]) 24] Yo (Y20 ++ []) (.refl _) rfl (by kernel_rfl) (by kernel_rfl) (p := po) (n := nu) (cap := co) (m := 1) (yv := .slice (some ⟨γ77 0, 0, none⟩) 1 1) (by kernel_rfl) (by kernel_rfl) (T := 3) (by_ := 8) (by kernel_rfl) ((il.take j).map (posI ts)) ([(posK Rn.id ts x36 : Nat)]) hOo (fun w hw => src_svn Try.underlying41 (sv_row (hw.row 0 rfl) (by rfl)) (by rfl)) (by rfl) (by have hmx : maxLen = 9223372036854775807 := rfl; omega) (by have hmx : maxLen = 9223372036854775807 := rfl; omega) (fun Y78 p78 cap78 hO78 => qo0 1 [] [0, 7, 8, 13, 14, 15] [(6, .slice p78 (nu + 1) cap78)] (on_ (done_block (ds_ (qa [(0, .fit)] [0, 6, 7, 8, 13, 14] [(15, .int .i64 (j + 1 : Nat))] ([Fit .i64 ((j + 1 : Nat))]) (al1 (fit64 (by omega) (by omega))) (Done.pick [[bx (γ77 0) (#[.int .i64 (posK Rn.id ts x36 : Nat)]) 3], [bx (γ21 0) (#[.slice q20 n cq20]) 24], [bx (γ9 1) (#[.slice none 0 0]) 24], [bx (γ9 0) (#[.slice p n cap]) 24], [bx (γ7 4) (#[.slice none 0 0]) 24], [bx (γ7 3) (#[.func (.func 45) #[] #[.pointer (some ⟨γ1 1, 0, none⟩)]]) 77], [bx (γ7 2) (#[.slice (some ⟨b34, o34, none⟩) m capi]) 41], [bx (γ7 1) (#[.bool true]) 4], [bx (γ7 0) (#[.slice p n cap]) 24], [bx (γ1 2) (#[.slice none 0 0]) 24], [bx (γ1 1) (#[.int .i64 dt]) 2], [bx (γ1 0) (#[.slice p n cap]) 24], Y78, Y20] [1, 2, 3, 4, 5, 6, 7, 8, 9, 10, 11, 12, 13] [0] (bx (γ21 0) (#[.slice q20 n cq20]) 24 :: bx (γ9 1) (#[.slice none 0 0]) 24 :: bx (γ9 0) (#[.slice p n cap]) 24 :: bx (γ7 4) (#[.slice none 0 0]) 24 :: bx (γ7 3) (#[.func (.func 45) #[] #[.pointer (some ⟨γ1 1, 0, none⟩)]]) 77 :: bx (γ7 2) (#[.slice (some ⟨b34, o34, none⟩) m capi]) 41 :: bx (γ7 1) (#[.bool true]) 4 :: bx (γ7 0) (#[.slice p n cap]) 24 :: bx (γ1 2) (#[.slice none 0 0]) 24 :: bx (γ1 1) (#[.int .i64 dt]) 2 :: bx (γ1 0) (#[.slice p n cap]) 24 :: (Y78 ++ (Y20 ++ []))) (by kernel_rfl) rfl rfl ?_)))))))))))))))))))
        exact dr [0, 6, 7, 8, 13, 14, 15] (j + 1, x36, er, Y78, p78, (nu + 1), cap78) ⟨by omega, lastN_on hx36, risN_on hR hx36 hla (by omega), all_onT hA hx36 q39, by rw [found_yes hx36 hg67, her], by omega, by rw [map_on hx36]; exact hO78⟩
    ·
     refine qa [(0, .no)] [0, 6, 7, 8, 13, 14, 15] [(16, .bool false)] ([¬ (((j : Nat) : Int) < ((m : Nat) : Int))]) (al1 q31) (ds_ (sq_ (f_ (at_leave _ rfl (ds_ (sq_ (qa0 [] [] [(4, .slice po nu co), (5, .int .i64 er)] (ds_ (bk ([]) (.tuple #[.slice po nu co, .int .i64 er]) ?_)))))))))
     rw [List.take_of_length_le (by omega)] at her hOo
     have hpe : placesE ts il = er := by rw [places_ok (risI_good hR hA (by omega)), her]
     have hnl := hOo.len
     rw [List.length_map] at hnl
     refine qo0 5 [] [0, 3] [(6, .slice po nu co), (7, .int .i64 er)] (on_ (ds_ (sq_ (sq_ (qa0 [] [0, 3, 7] [(18, .slice po nu co), (19, .int .i64 (nu : Nat)), (20, .int .i64 0)] (ds_ (at_block (at_loop (α := Nat × Int × List Ob × List Rn) [0, 3, 7, 18, 19, 20] (fun ⟨i, ez, Yq, L⟩ => [(0, .pointer (some ⟨γ21 0, 0, none⟩)), (3, .pointer (some ⟨γ7 3, 0, none⟩)), (7, .int .i64 ez), (18, .slice po nu co), (19, .int .i64 (nu : Nat)), (20, .int .i64 (i : Nat))]) (fun ⟨i, ez, Yq, L⟩ => bx (γ21 0) (#[.slice q20 n cq20]) 24 :: bx (γ9 1) (#[.slice none 0 0]) 24 :: bx (γ9 0) (#[.slice p n cap]) 24 :: bx (γ7 4) (#[.slice none 0 0]) 24 :: bx (γ7 3) (#[.func (.func 45) #[] #[.pointer (some ⟨γ1 1, 0, none⟩)]]) 77 :: bx (γ7 2) (#[.slice pi m capi]) 41 :: bx (γ7 1) (#[.bool true]) 4 :: bx (γ7 0) (#[.slice p n cap]) 24 :: bx (γ1 2) (#[.slice none 0 0]) 24 :: bx (γ1 1) (#[.int .i64 dt]) 2 :: bx (γ1 0) (#[.slice p n cap]) 24 :: (Yo ++ (Yq ++ []))) (fun ⟨i, ez, Yq, L⟩ => i ≤ nu ∧ altX (runF dt) ts (placesE ts il) (il.take i) = ez ∧ (ez = 0 → L = (altL (runF dt) ts (il.take i))) ∧ SlO 35 Yq q20 n cq20 L) (fun ⟨i, ez, Yq, L⟩ => nu - i) (0, er, Y20, ts) (by kernel_rfl) rfl ⟨Nat.zero_le _, by rw [altX_start]; exact hpe, fun _ => altL_nil.symm, hO20⟩ ?_))))))))
     rintro ⟨i, ez, Yq, L⟩
     rintro ⟨hi, hX, hL, hOq⟩
     refine sq_ ?_
     by_cases q86 : ((i : Nat) : Int) < ((nu : Nat) : Int)
     ·
      refine qa [(0, .yes)] [0, 3, 7, 18, 19, 20] [(21, .bool true)] ([((i : Nat) : Int) < ((nu : Nat) : Int)]) (al1 q86) (ds_ (sq_ (t_ (at_skip (ds_ (sq_ (at_block (sq_ ?_))))))))
      have hln89 := hOo.len
      obtain ⟨g89, cs89, rfl, rfl, hOw89⟩ := hOo.rowOf (i := i) (by omega)
      obtain ⟨x91, hx91⟩ := get_some (l := (il.map (posI ts))) (m := i) (by omega)
      refine qa [(0, .at g89 0 i), (1, .go (ownps 11 (0 + i * 1) [.int .i64 x91]))] [0, 3, 7, 18, 19, 20] [(9, .int .i64 x91)] ([(some ⟨g89, 0, none⟩ : Option Addr) = some ⟨g89, 0, none⟩, (i : Nat) = ((i : Nat) : Int), i < nu] ++ (acellsP cs89 (0 + i * 1) [.int .i64 x91])) (alA (al2 rfl (al2 rfl (al1 (by omega)))) (rda_pre (hOw89.rdx hOo.len hx91) _ rfl)) (ds_ (sq_ (sq_ ?_)))
      by_cases q94 : (ez : Int) ≠ (0 : Int)
      ·
       refine qa [(1, .yes)] [0, 3, 7, 9, 18, 19, 20] [(25, .bool true)] ([(ez : Int) ≠ (0 : Int)]) (al1 q94) (ds_ (t_ (at_leave _ rfl (ds_ (sq_ ?_)))))
       have hXf : altX (runF dt) ts (placesE ts il) il = ez := (altX_stop (by rw [hX]; exact q94)).trans hX
       refine qa0 [] [] [(5, .int .i64 ez)] (ds_ (bk ([]) (.int .i64 ez) (qo0 1 [] [4, 7] [(8, .int .i64 ez)] (on_ (ds_ (sq_ (qa [(1, .yes)] [4, 7, 8] [(22, .bool true)] ([(ez : Int) ≠ (0 : Int)]) (al1 q94) (ds_ (t_ (sq_ (qa0 [(2, .go (owns 1 0 1))] [4] [(5, .int .i64 ez)] (ds_ (bk (owns 1 0 1) (.tuple #[.agg #[.slice none 0 0], .int .i64 ez]) (qo0 4 [(5, .go (owns 3 0 1))] [8] [(9, .int .i64 ez)] (on_ (ds_ (bk (owns 3 0 1) (.tuple #[.agg #[.slice none 0 0], .int .i64 ez]) (qo0 4 [(12, .go (owns 8 0 1))] [6] [(7, .int .i64 ez)] (on_ (ds_ (rt (owns 8 0 1) (.tuple #[.agg #[.slice none 0 0], .int .i64 ez]) ?_)))))))))))))))))))))
       exact fun w' hw => by rw [show runV ts il dt = alterV (runF dt) ts (runB dt) il from rfl, alter_err q11 (show runB dt = true from decide_eq_true (by omega)) (by rw [hXf]; omega), hXf]; exact ⟨none, 0, 0, [], rfl, SlO.nil, hw.below, hw.sub (List.nil_sublist _)⟩
      ·
       refine qa [(1, .no)] [0, 3, 7, 9, 18, 19, 20] [(25, .bool false)] ([¬ ((ez : Int) ≠ (0 : Int))]) (al1 q94) (ds_ (f_ (at_skip (ds_ ?_))))
       have her0 : ez = 0 := by omega
       obtain ⟨r103, hidr103, hgkr103, hp0r103, hp1r103, htsr103, hLrr103⟩ := round_at hgq (hX.trans her0) hx91
       have hLn := hOq.len
       have hLl : L.length = ts.length := by rw [hL her0, altL_len]
       rw [← hL her0] at hLrr103
       have hUr103 := hU r103 (List.mem_of_getElem? htsr103)
       have hbr103 := hgq.bnd (List.mem_of_getElem? htsr103)
       have hln105 := hOq.len
       obtain ⟨g105, cs105, rfl, rfl, hOw105⟩ := hOq.rowOf (i := (x91).toNat) (by omega)
       refine at_calmTo (f := 2) 7 rfl (by kernel_rfl) (by kernel_rfl) (by kernel_rfl) (by kernel_rfl) (by kernel_rfl) (by kernel_rfl) ?_
       refine cm 7 [(0, .go (owns 4 0 1)), (4, .go (owns 0 0 1)), (6, .at g105 0 ((x91).toNat))] [0, 3, 18, 19, 20] [(26, .func (.func 45) #[] #[.pointer (some ⟨γ1 1, 0, none⟩)]), (32, .pointer (some ⟨g105, 0 + ((x91).toNat) * 5, none⟩))] ([(some ⟨g105, 0, none⟩ : Option Addr) = some ⟨g105, 0, none⟩, x91 = (((x91).toNat : Nat) : Int), (x91).toNat < n]) (by kernel_rfl) rfl (al2 rfl (al2 (by omega) (al1 (by omega)))) ?_
       refine calm_nil' ?_
       refine done_pre (li' := #[true, true, true, true, true, true, true, false, false]) (by kernel_rfl) ?_
       refine a1 7 rfl ?_
       refine ops_inline (g := 45) (args := #[.pointer (some ⟨g105, 0 + ((x91).toNat) * 5, none⟩), .pointer (some ⟨γ1 1, 0, none⟩)]) (by kernel_rfl) (by kernel_rfl) (by kernel_rfl) (fun args w => Try.call45 args w) Try.func45 rfl Try.ntmps45 rfl (sq_ (qa0 [] [0, 1] [] (ds_ (sq_ ?_))))
       have hmr := mul_each hbr103.2.2.1 hbr103.2.2.2.1 (show 0 ≤ dt by omega) (show dt ≤ 10000000 by omega)
       refine at_any (by kernel_rfl) ?_
       refine tk (m := 14) [0, 1, 2, 3, 5, 6, 7] [] [1] [(5, .pointer (some ⟨g105, 0 + ((x91).toNat) * 5, none⟩)), (8, .pointer (some ⟨g105, 0 + ((x91).toNat) * 5 + 2, none⟩)), (12, .pointer (some ⟨g105, 0 + ((x91).toNat) * 5 + 1, none⟩))] ([]) #[true, true, true, true, false, true, true, true, false, false, false, false, false, false, false, false, false, false, false, false, false] al0 ?_
       refine any_cut 8 #[true, true, true, true, true, true, true, true, true, true, true, true, true, false, false, false, false, false, false, false, false] ([(5, .pointer (some ⟨g105, 0 + ((x91).toNat) * 5, none⟩)), (9, .agg #[.int .u64 r103.th, .int .u64 r103.tl, .int .u64 r103.tw]), (17, .int .u64 (r103.each * dt))]) ([bx (γ21 0) (#[.slice (some ⟨g105, 0, none⟩) n cq20]) 24, bx (γ9 1) (#[.slice none 0 0]) 24, bx (γ9 0) (#[.slice p n cap]) 24, bx (γ7 4) (#[.slice none 0 0]) 24, bx (γ7 3) (#[.func (.func 45) #[] #[.pointer (some ⟨γ1 1, 0, none⟩)]]) 77, bx (γ7 2) (#[.slice pi m capi]) 41, bx (γ7 1) (#[.bool true]) 4, bx (γ7 0) (#[.slice p n cap]) 24, bx (γ1 2) (#[.slice none 0 0]) 24, bx (γ1 1) (#[.int .i64 dt]) 2, bx (γ1 0) (#[.slice p n cap]) 24, bx g89 cs89 3, bx g105 cs105 35]) ?_ (fun hm => ?_)
       rotate_left
       ·
        refine any_fork [4, 8, 10] (by kernel_rfl) (by simp) (each_cons _ rfl ?_ (each_cons _ rfl ?_ (each_cons _ rfl ?_ (each_nil))))
        ·
         refine qo 1 [(4, .go (ownps 12 (0 + ((x91).toNat) * 5 + 2) [.int .u64 r103.th, .int .u64 r103.tl, .int .u64 r103.tw]))] [1, 5, 12] [(9, .agg #[.int .u64 r103.th, .int .u64 r103.tl, .int .u64 r103.tw])] (acellsP cs105 (0 + ((x91).toNat) * 5 + 2) [.int .u64 r103.th, .int .u64 r103.tl, .int .u64 r103.tw]) (rda_part (hOw105.rdx hOq.len hLrr103) 2 _ rfl) ?_
         refine od_ ?_
         refine any_fork [8, 10] (by kernel_rfl) (by simp) (each_cons _ rfl ?_ (each_cons _ rfl ?_ (each_nil)))
         ·
          refine qo 1 [(8, .go (ownps 12 (0 + ((x91).toNat) * 5 + 1) [.int .i64 r103.each]))] [1, 5, 9] [(13, .int .i64 r103.each)] (acellsP cs105 (0 + ((x91).toNat) * 5 + 1) [.int .i64 r103.each]) (rda_part (hOw105.rdx hOq.len hLrr103) 1 _ rfl) ?_
          refine od_ ?_
          refine tk (m := 11) [9] [(9, .fit)] [1, 5, 9] [(14, .int .u64 r103.each)] ([Fit .u64 (r103.each)]) #[true, true, true, true, true, true, true, true, true, true, false, false, false, false, false, false, false, false, false, false, false] (al1 (fitU (by omega) (by omega))) ?_
          refine a1 10 rfl ?_
          refine qo0 1 [(10, .go (owns 9 0 1))] [5, 9, 14] [(15, .int .i64 dt)] ?_
          refine od_ ?_
          refine tk (m := 8) [11, 12] [(11, .fit), (12, .fit)] [5, 9] [(17, .int .u64 (r103.each * dt))] ([Fit .u64 (dt)] ++ ([Fit .u64 (r103.each * dt)])) #[true, true, true, true, true, true, true, true, true, true, true, true, true, false, false, false, false, false, false, false, false] (alA (al1 (fitU (by omega) (by omega))) (al1 (fitU (by omega) (by omega)))) ?_
          exact any_weak hm [5, 9, 17] (by kernel_rfl) rfl rfl rfl
         ·
          refine qo0 1 [(10, .go (owns 9 0 1))] [5, 9, 12] [(15, .int .i64 dt)] ?_
          refine od_ ?_
          refine tk (m := 11) [11] [(11, .fit)] [5, 9, 12] [(16, .int .u64 dt)] ([Fit .u64 (dt)]) #[true, true, true, true, true, true, true, true, false, false, true, true, false, false, false, false, false, false, false, false, false] (al1 (fitU (by omega) (by omega))) ?_
          refine a1 8 rfl ?_
          refine qo 1 [(8, .go (ownps 12 (0 + ((x91).toNat) * 5 + 1) [.int .i64 r103.each]))] [5, 9, 16] [(13, .int .i64 r103.each)] (acellsP cs105 (0 + ((x91).toNat) * 5 + 1) [.int .i64 r103.each]) (rda_part (hOw105.rdx hOq.len hLrr103) 1 _ rfl) ?_
          refine od_ ?_
          refine tk (m := 8) [9, 12] [(9, .fit), (12, .fit)] [5, 9] [(17, .int .u64 (r103.each * dt))] ([Fit .u64 (r103.each)] ++ ([Fit .u64 (r103.each * dt)])) #[true, true, true, true, true, true, true, true, true, true, true, true, true, false, false, false, false, false, false, false, false] (alA (al1 (fitU (by omega) (by omega))) (al1 (fitU (by omega) (by omega)))) ?_
          exact any_weak hm [5, 9, 17] (by kernel_rfl) rfl rfl rfl
        ·
         refine qo 1 [(8, .go (ownps 12 (0 + ((x91).toNat) * 5 + 1) [.int .i64 r103.each]))] [1, 5, 8] [(13, .int .i64 r103.each)] (acellsP cs105 (0 + ((x91).toNat) * 5 + 1) [.int .i64 r103.each]) (rda_part (hOw105.rdx hOq.len hLrr103) 1 _ rfl) ?_
         refine od_ ?_
         refine tk (m := 12) [9] [(9, .fit)] [1, 5, 8] [(14, .int .u64 r103.each)] ([Fit .u64 (r103.each)]) #[true, true, true, true, false, true, true, true, true, true, false, false, false, false, false, false, false, false, false, false, false] (al1 (fitU (by omega) (by omega))) ?_
         refine any_fork [4, 10] (by kernel_rfl) (by simp) (each_cons _ rfl ?_ (each_cons _ rfl ?_ (each_nil)))
         ·
          refine qo 1 [(4, .go (ownps 12 (0 + ((x91).toNat) * 5 + 2) [.int .u64 r103.th, .int .u64 r103.tl, .int .u64 r103.tw]))] [1, 5, 14] [(9, .agg #[.int .u64 r103.th, .int .u64 r103.tl, .int .u64 r103.tw])] (acellsP cs105 (0 + ((x91).toNat) * 5 + 2) [.int .u64 r103.th, .int .u64 r103.tl, .int .u64 r103.tw]) (rda_part (hOw105.rdx hOq.len hLrr103) 2 _ rfl) ?_
          refine od_ ?_
          refine a1 10 rfl ?_
          refine qo0 1 [(10, .go (owns 9 0 1))] [5, 9, 14] [(15, .int .i64 dt)] ?_
          refine od_ ?_
          refine tk (m := 8) [11, 12] [(11, .fit), (12, .fit)] [5, 9] [(17, .int .u64 (r103.each * dt))] ([Fit .u64 (dt)] ++ ([Fit .u64 (r103.each * dt)])) #[true, true, true, true, true, true, true, true, true, true, true, true, true, false, false, false, false, false, false, false, false] (alA (al1 (fitU (by omega) (by omega))) (al1 (fitU (by omega) (by omega)))) ?_
          exact any_weak hm [5, 9, 17] (by kernel_rfl) rfl rfl rfl
         ·
          refine qo0 1 [(10, .go (owns 9 0 1))] [5, 8, 14] [(15, .int .i64 dt)] ?_
          refine od_ ?_
          refine tk (m := 9) [11, 12] [(11, .fit), (12, .fit)] [5, 8] [(17, .int .u64 (r103.each * dt))] ([Fit .u64 (dt)] ++ ([Fit .u64 (r103.each * dt)])) #[true, true, true, true, false, true, true, true, true, true, true, true, true, false, false, false, false, false, false, false, false] (alA (al1 (fitU (by omega) (by omega))) (al1 (fitU (by omega) (by omega)))) ?_
          refine a1 4 rfl ?_
          refine qo 1 [(4, .go (ownps 12 (0 + ((x91).toNat) * 5 + 2) [.int .u64 r103.th, .int .u64 r103.tl, .int .u64 r103.tw]))] [5, 17] [(9, .agg #[.int .u64 r103.th, .int .u64 r103.tl, .int .u64 r103.tw])] (acellsP cs105 (0 + ((x91).toNat) * 5 + 2) [.int .u64 r103.th, .int .u64 r103.tl, .int .u64 r103.tw]) (rda_part (hOw105.rdx hOq.len hLrr103) 2 _ rfl) ?_
          refine od_ ?_
          exact any_weak hm [5, 9, 17] (by kernel_rfl) rfl rfl rfl
        ·
         refine qo0 1 [(10, .go (owns 9 0 1))] [5, 8, 12] [(15, .int .i64 dt)] ?_
         refine od_ ?_
         refine tk (m := 12) [11] [(11, .fit)] [5, 8, 12] [(16, .int .u64 dt)] ([Fit .u64 (dt)]) #[true, true, true, true, false, true, true, true, false, false, true, true, false, false, false, false, false, false, false, false, false] (al1 (fitU (by omega) (by omega))) ?_
         refine any_fork [4, 8] (by kernel_rfl) (by simp) (each_cons _ rfl ?_ (each_cons _ rfl ?_ (each_nil)))
         ·
          refine qo 1 [(4, .go (ownps 12 (0 + ((x91).toNat) * 5 + 2) [.int .u64 r103.th, .int .u64 r103.tl, .int .u64 r103.tw]))] [5, 12, 16] [(9, .agg #[.int .u64 r103.th, .int .u64 r103.tl, .int .u64 r103.tw])] (acellsP cs105 (0 + ((x91).toNat) * 5 + 2) [.int .u64 r103.th, .int .u64 r103.tl, .int .u64 r103.tw]) (rda_part (hOw105.rdx hOq.len hLrr103) 2 _ rfl) ?_
          refine od_ ?_
          refine a1 8 rfl ?_
          refine qo 1 [(8, .go (ownps 12 (0 + ((x91).toNat) * 5 + 1) [.int .i64 r103.each]))] [5, 9, 16] [(13, .int .i64 r103.each)] (acellsP cs105 (0 + ((x91).toNat) * 5 + 1) [.int .i64 r103.each]) (rda_part (hOw105.rdx hOq.len hLrr103) 1 _ rfl) ?_
          refine od_ ?_
          refine tk (m := 8) [9, 12] [(9, .fit), (12, .fit)] [5, 9] [(17, .int .u64 (r103.each * dt))] ([Fit .u64 (r103.each)] ++ ([Fit .u64 (r103.each * dt)])) #[true, true, true, true, true, true, true, true, true, true, true, true, true, false, false, false, false, false, false, false, false] (alA (al1 (fitU (by omega) (by omega))) (al1 (fitU (by omega) (by omega)))) ?_
          exact any_weak hm [5, 9, 17] (by kernel_rfl) rfl rfl rfl
         ·
          refine qo 1 [(8, .go (ownps 12 (0 + ((x91).toNat) * 5 + 1) [.int .i64 r103.each]))] [5, 8, 16] [(13, .int .i64 r103.each)] (acellsP cs105 (0 + ((x91).toNat) * 5 + 1) [.int .i64 r103.each]) (rda_part (hOw105.rdx hOq.len hLrr103) 1 _ rfl) ?_
          refine od_ ?_
          refine tk (m := 9) [9, 12] [(9, .fit), (12, .fit)] [5, 8] [(17, .int .u64 (r103.each * dt))] ([Fit .u64 (r103.each)] ++ ([Fit .u64 (r103.each * dt)])) #[true, true, true, true, false, true, true, true, true, true, true, true, true, false, false, false, false, false, false, false, false] (alA (al1 (fitU (by omega) (by omega))) (al1 (fitU (by omega) (by omega)))) ?_
          refine a1 4 rfl ?_
          refine qo 1 [(4, .go (ownps 12 (0 + ((x91).toNat) * 5 + 2) [.int .u64 r103.th, .int .u64 r103.tl, .int .u64 r103.tw]))] [5, 17] [(9, .agg #[.int .u64 r103.th, .int .u64 r103.tl, .int .u64 r103.tw])] (acellsP cs105 (0 + ((x91).toNat) * 5 + 2) [.int .u64 r103.th, .int .u64 r103.tl, .int .u64 r103.tw]) (rda_part (hOw105.rdx hOq.len hLrr103) 2 _ rfl) ?_
          refine od_ ?_
          exact any_weak hm [5, 9, 17] (by kernel_rfl) rfl rfl rfl
       refine a1 13 rfl ?_
       refine cD (.tuple #[.agg #[.int .u64 ((addV r103.t (r103.each * dt)).1.hi), .int .u64 ((addV r103.t (r103.each * dt)).1.lo), .int .u64 ((addV r103.t (r103.each * dt)).1.w)], .int .i64 ((addV r103.t (r103.each * dt)).2)]) Try.call18 (fun w hw => fadd_t r103.t (r103.each * dt) w hUr103.t (by omega) (by omega)) ?_
       refine od_ ?_
       refine tk (m := 2) [14, 15, 16, 17, 18] [] [] [(19, .agg #[.int .u64 ((addV r103.t (r103.each * dt)).1.hi), .int .u64 ((addV r103.t (r103.each * dt)).1.lo), .int .u64 ((addV r103.t (r103.each * dt)).1.w)]), (20, .int .i64 ((addV r103.t (r103.each * dt)).2)), (22, .pointer (some ⟨g105, 0 + ((x91).toNat) * 5 + 2, none⟩))] ([]) #[true, true, true, true, true, true, true, true, true, true, true, true, true, true, true, true, true, true, true, false, false] al0 ?_
       refine a1 19 rfl ?_
       refine mo 1 [(19, .go (ownps 12 (0 + ((x91).toNat) * 5 + 2) [undef, undef, undef]))] [20] (fun _ => []) (fun _ L => (L.set 12 (bx g105 ((((cs105).setIfInBounds (0 + ((x91).toNat) * 5 + 2) (.int .u64 ((addV r103.t (r103.each * dt)).1.hi))).setIfInBounds (0 + ((x91).toNat) * 5 + 2 + 1) (.int .u64 ((addV r103.t (r103.each * dt)).1.lo))).setIfInBounds (0 + ((x91).toNat) * 5 + 2 + 2) (.int .u64 ((addV r103.t (r103.each * dt)).1.w))) 35))) (fun _ => [0 + ((x91).toNat) * 5 + 2 < (cs105).size] ++ ([0 + ((x91).toNat) * 5 + 2 + 1 < ((cs105).setIfInBounds (0 + ((x91).toNat) * 5 + 2) (.int .u64 ((addV r103.t (r103.each * dt)).1.hi))).size] ++ ([0 + ((x91).toNat) * 5 + 2 + 2 < (((cs105).setIfInBounds (0 + ((x91).toNat) * 5 + 2) (.int .u64 ((addV r103.t (r103.each * dt)).1.hi))).setIfInBounds (0 + ((x91).toNat) * 5 + 2 + 1) (.int .u64 ((addV r103.t (r103.each * dt)).1.lo))).size]))) (fun _ => (alA (al1 (by exact hOw105.room hOq.len hLrr103 (f := 2) (by decide))) (alA (al1 (by have hrm := hOw105.room hOq.len hLrr103 (f := 3) (by decide); simp only [Array.size_setIfInBounds] at hrm ⊢; exact hrm)) (al1 (by have hrm := hOw105.room hOq.len hLrr103 (f := 4) (by decide); simp only [Array.size_setIfInBounds] at hrm ⊢; exact hrm))))) (fun _ => ?_)
       refine od_ ?_
       refine tk (m := 0) [20] [] [] [(3, .int .i64 ((addV r103.t (r103.each * dt)).2))] ([]) #[true, true, true, true, true, true, true, true, true, true, true, true, true, true, true, true, true, true, true, true, true] al0 ?_
       refine any_nil (by kernel_rfl) ?_
       refine ds_ (sq_ (qa0 [] [] [(3, .int .i64 ((addV r103.t (r103.each * dt)).2))] (ds_ (bk ([]) (.int .i64 ((addV r103.t (r103.each * dt)).2)) ?_))))
       refine od_ ?_
       refine tk (m := 0) [8] [] [0, 3, 18, 19, 20] [(7, .int .i64 ((addV r103.t (r103.each * dt)).2))] ([]) #[true, true, true, true, true, true, true, true, true] al0 ?_
       refine any_nil (by kernel_rfl) ?_
       refine done_block (ds_ (qa [(0, .fit)] [0, 3, 7, 18, 19] [(20, .int .i64 (i + 1 : Nat))] ([Fit .i64 ((i + 1 : Nat))]) (al1 (fit64 (by omega) (by omega))) ?_))
       exact dr [0, 3, 7, 18, 19, 20] (i + 1, (addV r103.t (r103.each * dt)).2, [bx g105 ((((cs105).setIfInBounds (0 + ((x91).toNat) * 5 + 2) (.int .u64 ((addV r103.t (r103.each * dt)).1.hi))).setIfInBounds (0 + ((x91).toNat) * 5 + 2 + 1) (.int .u64 ((addV r103.t (r103.each * dt)).1.lo))).setIfInBounds (0 + ((x91).toNat) * 5 + 2 + 2) (.int .u64 ((addV r103.t (r103.each * dt)).1.w))) 35], (L.set ((x91).toNat) (⟨r103.id, r103.each, (addV r103.t (r103.each * dt)).1.hi, (addV r103.t (r103.each * dt)).1.lo, (addV r103.t (r103.each * dt)).1.w⟩ : Rn))) ⟨by omega, by rw [altX_on (hX.trans her0) hidr103 hgkr103]; rfl, fun hz => (altS_eq hgq.rs htsr103 hidr103 (hL her0) (by first | rfl | simp only [List.set_set] <;> rfl)), (SlO.ofOwn (hOw105.put3 (x' := (⟨r103.id, r103.each, (addV r103.t (r103.each * dt)).1.hi, (addV r103.t (r103.each * dt)).1.lo, (addV r103.t (r103.each * dt)).1.w⟩ : Rn)) (f := 2) hOq.len hLrr103 (by decide) ⟨(⟨r103.id, r103.each, (addV r103.t (r103.each * dt)).1.hi, r103.tl, r103.tw⟩ : Rn), rfl⟩ ⟨(⟨r103.id, r103.each, (addV r103.t (r103.each * dt)).1.hi, (addV r103.t (r103.each * dt)).1.lo, r103.tw⟩ : Rn), rfl⟩ rfl) (len_set hOq.len))⟩
     ·
      refine qa [(0, .no)] [0, 3, 7, 18, 19, 20] [(21, .bool false)] ([¬ (((i : Nat) : Int) < ((nu : Nat) : Int))]) (al1 q86) (ds_ (sq_ (f_ (at_leave _ rfl (ds_ (sq_ ?_))))))
      have hXf : altX (runF dt) ts (placesE ts il) il = ez := (altX_all (by omega)).symm.trans hX
      refine qa0 [] [] [(5, .int .i64 ez)] (ds_ (bk ([]) (.int .i64 ez) (qo0 1 [] [4, 7] [(8, .int .i64 ez)] (on_ (ds_ (sq_ ?_))))))
      by_cases q150 : (ez : Int) ≠ (0 : Int)
      ·
       refine qa [(1, .yes)] [4, 7, 8] [(22, .bool true)] ([(ez : Int) ≠ (0 : Int)]) (al1 q150) (ds_ (t_ (sq_ (qa0 [(2, .go (owns 1 0 1))] [4] [(5, .int .i64 ez)] (ds_ (bk (owns 1 0 1) (.tuple #[.agg #[.slice none 0 0], .int .i64 ez]) (qo0 4 [(5, .go (owns 3 0 1))] [8] [(9, .int .i64 ez)] (on_ (ds_ (bk (owns 3 0 1) (.tuple #[.agg #[.slice none 0 0], .int .i64 ez]) (qo0 4 [(12, .go (owns 8 0 1))] [6] [(7, .int .i64 ez)] (on_ (ds_ (rt (owns 8 0 1) (.tuple #[.agg #[.slice none 0 0], .int .i64 ez]) ?_))))))))))))))
       exact fun w' hw => by rw [show runV ts il dt = alterV (runF dt) ts (runB dt) il from rfl, alter_err q11 (show runB dt = true from decide_eq_true (by omega)) (by rw [hXf]; omega), hXf]; exact ⟨none, 0, 0, [], rfl, SlO.nil, hw.below, hw.sub (List.nil_sublist _)⟩
      ·
       refine qa [(1, .no)] [4, 7, 8] [(22, .bool false)] ([¬ ((ez : Int) ≠ (0 : Int))]) (al1 q150) (ds_ (f_ (at_skip (ds_ (sq_ (ma0 [(0, .go (owns 0 0 1)), (1, .go (owns 1 0 1))] [4] (fun _ => [(5, .int .i64 0)]) (fun _ L => (L.set 1 (bx (γ9 1) (#[.slice q20 n cq20]) 24))) (fun _ => ds_ (bk (owns 1 0 1) (.tuple #[.agg #[.slice q20 n cq20], .int .i64 0]) (mo0 4 [(5, .go (owns 3 0 1))] [8] (fun _ => [(9, .int .i64 0)]) (fun _ L => (L.set 3 (bx (γ7 4) (#[.slice q20 n cq20]) 24))) (fun _ => on_ (ds_ (bk (owns 3 0 1) (.tuple #[.agg #[.slice q20 n cq20], .int .i64 0]) (mo0 4 [(12, .go (owns 8 0 1))] [6] (fun _ => [(7, .int .i64 0)]) (fun _ L => (L.set 8 (bx (γ1 2) (#[.slice q20 n cq20]) 24))) (fun _ => on_ (ds_ (rt (owns 8 0 1) (.tuple #[.agg #[.slice q20 n cq20], .int .i64 0]) ?_))))))))))))))))
       have hLf := hL (by omega)
       rw [altL_all (by omega)] at hLf
       subst hLf
       exact fun w' hw => by rw [show runV ts il dt = alterV (runF dt) ts (runB dt) il from rfl, alter_ok q11 (show runB dt = true from decide_eq_true (by omega)) (hXf.trans (by omega))]; exact ⟨_, _, _, _, rfl, hOq, hw.below, one_tail (Hs.pick [[bx (γ21 0) (#[.slice q20 n cq20]) 24], [bx (γ9 1) (#[.slice q20 n cq20]) 24], [bx (γ9 0) (#[.slice p n cap]) 24], [bx (γ7 4) (#[.slice q20 n cq20]) 24], [bx (γ7 3) (#[.func (.func 45) #[] #[.pointer (some ⟨γ1 1, 0, none⟩)]]) 77], [bx (γ7 2) (#[.slice pi m capi]) 41], [bx (γ7 1) (#[.bool true]) 4], [bx (γ7 0) (#[.slice p n cap]) 24], [bx (γ1 2) (#[.slice q20 n cq20]) 24], [bx (γ1 1) (#[.int .i64 dt]) 2], [bx (γ1 0) (#[.slice p n cap]) 24], Yo, Yq] [12] [0, 1, 2, 3, 4, 5, 6, 7, 8, 9, 10, 11] (by kernel_rfl) hw)⟩
  ·
   refine ao_ (qo 9 [(0, .go (owns 2 0 1)), (1, .go (owns 1 0 1)), (2, .yes), (4, .go (owns 1 0 1)), (5, .no)] [6] [(8, .agg #[.slice p n cap]), (14, .bool false), (15, .slice pi m capi), (16, .func (.func 45) #[] #[.pointer (some ⟨γ1 1, 0, none⟩)])] ([(dt : Int) ≥ (0 : Int)] ++ ([¬ ((dt : Int) ≤ (10000000 : Int))])) (alA (al1 q3) (al1 q5)) (ops_inline (g := 36) (args := #[.agg #[.slice p n cap], .bool false, .slice pi m capi, .func (.func 45) #[] #[.pointer (some ⟨γ1 1, 0, none⟩)]]) (by kernel_rfl) (by kernel_rfl) (by kernel_rfl) (fun args w => Try.call36 args w) Try.func36 rfl Try.ntmps36 rfl (sq_ (ma0 [] [] (fun γ160 => [(4, .pointer (some ⟨γ160 0, 0, none⟩)), (5, .pointer (some ⟨γ160 1, 0, none⟩)), (6, .pointer (some ⟨γ160 2, 0, none⟩)), (7, .pointer (some ⟨γ160 3, 0, none⟩)), (8, .pointer (some ⟨γ160 4, 0, none⟩))]) (fun γ160 L => bx (γ160 4) (#[.slice none 0 0]) 24 :: bx (γ160 3) (#[.func (.func 45) #[] #[.pointer (some ⟨γ1 1, 0, none⟩)]]) 77 :: bx (γ160 2) (#[.slice pi m capi]) 41 :: bx (γ160 1) (#[.bool false]) 4 :: bx (γ160 0) (#[.slice p n cap]) 24 :: L) (fun γ160 => ds_ (sq_ (ao_ (qo0 2 [(0, .go (owns 4 0 1))] [8] [(10, .agg #[.slice p n cap]), (11, .func (.func 68) #[] #[.pointer (some ⟨γ160 1, 0, none⟩), .pointer (some ⟨γ160 2, 0, none⟩), .pointer (some ⟨γ160 3, 0, none⟩)])] (ops_inline (g := 56) (args := #[.agg #[.slice p n cap], .func (.func 68) #[] #[.pointer (some ⟨γ160 1, 0, none⟩), .pointer (some ⟨γ160 2, 0, none⟩), .pointer (some ⟨γ160 3, 0, none⟩)]]) (by kernel_rfl) (by kernel_rfl) (by kernel_rfl) (fun args w => Try.call56 args w) Try.func56 rfl Try.ntmps56 rfl (sq_ (ma0 [] [1] (fun γ162 => [(2, .pointer (some ⟨γ162 0, 0, none⟩)), (4, .pointer (some ⟨γ162 1, 0, none⟩))]) (fun γ162 L => bx (γ162 1) (#[.slice none 0 0]) 24 :: bx (γ162 0) (#[.slice p n cap]) 24 :: L) (fun γ162 => ds_ (sq_ (sq_ (ao_ (qo0 1 [(0, .go (owns 1 0 1))] [1, 2, 4] [(9, .agg #[.slice p n cap])] ?_))))))))))))))))
   rcases q164 : chkQ ts with _ | _
   ·
    refine cD (.int .i64 200) Try.call20 (fun w hw => by have := qcheck_t p n cap ts w (hts.kept hw.below) hn (by omega); rw [q164] at this; exact this) (qo0 1 [] [1, 2, 4] [(6, .int .i64 200)] (on_ (ds_ (sq_ (qa0 [] [1, 2, 4, 6] [(12, .bool true)] (ds_ (t_ (sq_ (qa0 [(2, .go (owns 0 0 1))] [4] [(5, .int .i64 200)] (ds_ (bk (owns 0 0 1) (.tuple #[.agg #[.slice none 0 0], .int .i64 200]) (qo0 4 [(5, .go (owns 2 0 1))] [8] [(9, .int .i64 200)] (on_ (ds_ (bk (owns 2 0 1) (.tuple #[.agg #[.slice none 0 0], .int .i64 200]) (qo0 4 [(12, .go (owns 7 0 1))] [6] [(7, .int .i64 200)] (on_ (ds_ (rt (owns 7 0 1) (.tuple #[.agg #[.slice none 0 0], .int .i64 200]) ?_)))))))))))))))))))
    exact fun w' hw => by rw [show runV ts il dt = alterV (runF dt) ts (runB dt) il from rfl, alter_bad q164]; exact ⟨none, 0, 0, [], rfl, SlO.nil, hw.below, hw.sub (List.nil_sublist _)⟩
   ·
    refine cD (.int .i64 0) Try.call20 (fun w hw => by have := qcheck_t p n cap ts w (hts.kept hw.below) hn (by omega); rw [q164] at this; exact this) (qo0 1 [] [1, 2, 4] [(6, .int .i64 0)] (on_ (ds_ (sq_ (qa0 [] [1, 2, 4, 6] [(12, .bool false)] (ds_ (f_ (at_skip (ds_ (sq_ ?_))))))))))
    have hgq := chk_iff.1 q164
    have hlq := hgq.len
    refine ao_ (qo0 2 [(1, .go (owns 1 0 1))] [1, 4] [(16, .slice p n cap)] (cP (fun v L' => ∃ q_ c_ Y_, v = .slice q_ n c_ ∧ L' = List.take 10 ([bx (γ162 1) (#[.slice none 0 0]) 24, bx (γ162 0) (#[.slice p n cap]) 24, bx (γ160 4) (#[.slice none 0 0]) 24, bx (γ160 3) (#[.func (.func 45) #[] #[.pointer (some ⟨γ1 1, 0, none⟩)]]) 77, bx (γ160 2) (#[.slice pi m capi]) 41, bx (γ160 1) (#[.bool false]) 4, bx (γ160 0) (#[.slice p n cap]) 24, bx (γ1 2) (#[.slice none 0 0]) 24, bx (γ1 1) (#[.int .i64 dt]) 2, bx (γ1 0) (#[.slice p n cap]) 24]) ++ (Y_ ++ List.drop 10 ([bx (γ162 1) (#[.slice none 0 0]) 24, bx (γ162 0) (#[.slice p n cap]) 24, bx (γ160 4) (#[.slice none 0 0]) 24, bx (γ160 3) (#[.func (.func 45) #[] #[.pointer (some ⟨γ1 1, 0, none⟩)]]) 77, bx (γ160 2) (#[.slice pi m capi]) 41, bx (γ160 1) (#[.bool false]) 4, bx (γ160 0) (#[.slice p n cap]) 24, bx (γ1 2) (#[.slice none 0 0]) 24, bx (γ1 1) (#[.int .i64 dt]) 2, bx (γ1 0) (#[.slice p n cap]) 24])) ∧ SlO 35 Y_ q_ n c_ ts) Try.call78 (fun w hw => (qclone_t p n cap ts w (hts.kept hw.below) hn (by omega)).mono fun e w' ⟨q_, c_, Y_, he, hO, hb, hY⟩ => ⟨_, _, he, ⟨q_, c_, Y_, rfl, rfl, hO⟩, hw.join hb hY 10⟩) ?_))
    rintro v173 L173 ⟨q173, cq173, Y173, rfl, rfl, hO173⟩
    refine mo0 3 [(5, .go (owns 0 0 1))] [1, 4] (fun γ174 => [(7, .pointer (some ⟨γ174 0, 0, none⟩))]) (fun γ174 L => bx (γ174 0) (#[.slice q173 n cq173]) 24 :: L) (fun γ174 => on_ (ds_ (sq_ (sq_ (ao_ (qo0 1 [] [4, 7] [(19, .func (.func 68) #[] #[.pointer (some ⟨γ160 1, 0, none⟩), .pointer (some ⟨γ160 2, 0, none⟩), .pointer (some ⟨γ160 3, 0, none⟩)])] (ops_inline (g := 68) (args := #[.pointer (some ⟨γ174 0, 0, none⟩), .pointer (some ⟨γ160 1, 0, none⟩), .pointer (some ⟨γ160 2, 0, none⟩), .pointer (some ⟨γ160 3, 0, none⟩)]) (by kernel_rfl) (by kernel_rfl) (by kernel_rfl) (fun args w => Try.call68 args w) Try.func68 rfl Try.ntmps68 rfl (sq_ (qa0 [] [0, 1, 2, 3] [] (ds_ (sq_ (sq_ (qa0 [(0, .go (owns 6 0 1))] [0, 2, 3] [(11, .bool true)] (ds_ (t_ (sq_ (qa0 [] [] [(5, .int .i64 2)] (ds_ (bk ([]) (.int .i64 2) (qo0 1 [] [4, 7] [(8, .int .i64 2)] (on_ (ds_ (sq_ (qa0 [] [4, 7, 8] [(22, .bool true)] (ds_ (t_ (sq_ (qa0 [(2, .go (owns 1 0 1))] [4] [(5, .int .i64 2)] (ds_ (bk (owns 1 0 1) (.tuple #[.agg #[.slice none 0 0], .int .i64 2]) (qo0 4 [(5, .go (owns 3 0 1))] [8] [(9, .int .i64 2)] (on_ (ds_ (bk (owns 3 0 1) (.tuple #[.agg #[.slice none 0 0], .int .i64 2]) (qo0 4 [(12, .go (owns 8 0 1))] [6] [(7, .int .i64 2)] (on_ (ds_ (rt (owns 8 0 1) (.tuple #[.agg #[.slice none 0 0], .int .i64 2]) ?_))))))))))))))))))))))))))))))))))))))
    exact fun w' hw => by rw [show runV ts il dt = alterV (runF dt) ts (runB dt) il from rfl, alter_arg q164 (show runB dt = false from decide_eq_false (by omega))]; exact ⟨none, 0, 0, [], rfl, SlO.nil, hw.below, hw.sub (List.nil_sublist _)⟩
 ·
  refine ao_ (qo 9 [(0, .go (owns 2 0 1)), (1, .go (owns 1 0 1)), (2, .no)] [6] [(8, .agg #[.slice p n cap]), (14, .bool false), (15, .slice pi m capi), (16, .func (.func 45) #[] #[.pointer (some ⟨γ1 1, 0, none⟩)])] ([¬ ((dt : Int) ≥ (0 : Int))]) (al1 q3) (ops_inline (g := 36) (args := #[.agg #[.slice p n cap], .bool false, .slice pi m capi, .func (.func 45) #[] #[.pointer (some ⟨γ1 1, 0, none⟩)]]) (by kernel_rfl) (by kernel_rfl) (by kernel_rfl) (fun args w => Try.call36 args w) Try.func36 rfl Try.ntmps36 rfl (sq_ (ma0 [] [] (fun γ185 => [(4, .pointer (some ⟨γ185 0, 0, none⟩)), (5, .pointer (some ⟨γ185 1, 0, none⟩)), (6, .pointer (some ⟨γ185 2, 0, none⟩)), (7, .pointer (some ⟨γ185 3, 0, none⟩)), (8, .pointer (some ⟨γ185 4, 0, none⟩))]) (fun γ185 L => bx (γ185 4) (#[.slice none 0 0]) 24 :: bx (γ185 3) (#[.func (.func 45) #[] #[.pointer (some ⟨γ1 1, 0, none⟩)]]) 77 :: bx (γ185 2) (#[.slice pi m capi]) 41 :: bx (γ185 1) (#[.bool false]) 4 :: bx (γ185 0) (#[.slice p n cap]) 24 :: L) (fun γ185 => ds_ (sq_ (ao_ (qo0 2 [(0, .go (owns 4 0 1))] [8] [(10, .agg #[.slice p n cap]), (11, .func (.func 68) #[] #[.pointer (some ⟨γ185 1, 0, none⟩), .pointer (some ⟨γ185 2, 0, none⟩), .pointer (some ⟨γ185 3, 0, none⟩)])] (ops_inline (g := 56) (args := #[.agg #[.slice p n cap], .func (.func 68) #[] #[.pointer (some ⟨γ185 1, 0, none⟩), .pointer (some ⟨γ185 2, 0, none⟩), .pointer (some ⟨γ185 3, 0, none⟩)]]) (by kernel_rfl) (by kernel_rfl) (by kernel_rfl) (fun args w => Try.call56 args w) Try.func56 rfl Try.ntmps56 rfl (sq_ (ma0 [] [1] (fun γ187 => [(2, .pointer (some ⟨γ187 0, 0, none⟩)), (4, .pointer (some ⟨γ187 1, 0, none⟩))]) (fun γ187 L => bx (γ187 1) (#[.slice none 0 0]) 24 :: bx (γ187 0) (#[.slice p n cap]) 24 :: L) (fun γ187 => ds_ (sq_ (sq_ (ao_ (qo0 1 [(0, .go (owns 1 0 1))] [1, 2, 4] [(9, .agg #[.slice p n cap])] ?_))))))))))))))))
  rcases q189 : chkQ ts with _ | _
  ·
   refine cD (.int .i64 200) Try.call20 (fun w hw => by have := qcheck_t p n cap ts w (hts.kept hw.below) hn (by omega); rw [q189] at this; exact this) (qo0 1 [] [1, 2, 4] [(6, .int .i64 200)] (on_ (ds_ (sq_ (qa0 [] [1, 2, 4, 6] [(12, .bool true)] (ds_ (t_ (sq_ (qa0 [(2, .go (owns 0 0 1))] [4] [(5, .int .i64 200)] (ds_ (bk (owns 0 0 1) (.tuple #[.agg #[.slice none 0 0], .int .i64 200]) (qo0 4 [(5, .go (owns 2 0 1))] [8] [(9, .int .i64 200)] (on_ (ds_ (bk (owns 2 0 1) (.tuple #[.agg #[.slice none 0 0], .int .i64 200]) (qo0 4 [(12, .go (owns 7 0 1))] [6] [(7, .int .i64 200)] (on_ (ds_ (rt (owns 7 0 1) (.tuple #[.agg #[.slice none 0 0], .int .i64 200]) ?_)))))))))))))))))))
   exact fun w' hw => by rw [show runV ts il dt = alterV (runF dt) ts (runB dt) il from rfl, alter_bad q189]; exact ⟨none, 0, 0, [], rfl, SlO.nil, hw.below, hw.sub (List.nil_sublist _)⟩
  ·
   refine cD (.int .i64 0) Try.call20 (fun w hw => by have := qcheck_t p n cap ts w (hts.kept hw.below) hn (by omega); rw [q189] at this; exact this) (qo0 1 [] [1, 2, 4] [(6, .int .i64 0)] (on_ (ds_ (sq_ (qa0 [] [1, 2, 4, 6] [(12, .bool false)] (ds_ (f_ (at_skip (ds_ (sq_ ?_))))))))))
   have hgq := chk_iff.1 q189
   have hlq := hgq.len
   refine ao_ (qo0 2 [(1, .go (owns 1 0 1))] [1, 4] [(16, .slice p n cap)] (cP (fun v L' => ∃ q_ c_ Y_, v = .slice q_ n c_ ∧ L' = List.take 10 ([bx (γ187 1) (#[.slice none 0 0]) 24, bx (γ187 0) (#[.slice p n cap]) 24, bx (γ185 4) (#[.slice none 0 0]) 24, bx (γ185 3) (#[.func (.func 45) #[] #[.pointer (some ⟨γ1 1, 0, none⟩)]]) 77, bx (γ185 2) (#[.slice pi m capi]) 41, bx (γ185 1) (#[.bool false]) 4, bx (γ185 0) (#[.slice p n cap]) 24, bx (γ1 2) (#[.slice none 0 0]) 24, bx (γ1 1) (#[.int .i64 dt]) 2, bx (γ1 0) (#[.slice p n cap]) 24]) ++ (Y_ ++ List.drop 10 ([bx (γ187 1) (#[.slice none 0 0]) 24, bx (γ187 0) (#[.slice p n cap]) 24, bx (γ185 4) (#[.slice none 0 0]) 24, bx (γ185 3) (#[.func (.func 45) #[] #[.pointer (some ⟨γ1 1, 0, none⟩)]]) 77, bx (γ185 2) (#[.slice pi m capi]) 41, bx (γ185 1) (#[.bool false]) 4, bx (γ185 0) (#[.slice p n cap]) 24, bx (γ1 2) (#[.slice none 0 0]) 24, bx (γ1 1) (#[.int .i64 dt]) 2, bx (γ1 0) (#[.slice p n cap]) 24])) ∧ SlO 35 Y_ q_ n c_ ts) Try.call78 (fun w hw => (qclone_t p n cap ts w (hts.kept hw.below) hn (by omega)).mono fun e w' ⟨q_, c_, Y_, he, hO, hb, hY⟩ => ⟨_, _, he, ⟨q_, c_, Y_, rfl, rfl, hO⟩, hw.join hb hY 10⟩) ?_))
   rintro v198 L198 ⟨q198, cq198, Y198, rfl, rfl, hO198⟩
   refine mo0 3 [(5, .go (owns 0 0 1))] [1, 4] (fun γ199 => [(7, .pointer (some ⟨γ199 0, 0, none⟩))]) (fun γ199 L => bx (γ199 0) (#[.slice q198 n cq198]) 24 :: L) (fun γ199 => on_ (ds_ (sq_ (sq_ (ao_ (qo0 1 [] [4, 7] [(19, .func (.func 68) #[] #[.pointer (some ⟨γ185 1, 0, none⟩), .pointer (some ⟨γ185 2, 0, none⟩), .pointer (some ⟨γ185 3, 0, none⟩)])] (ops_inline (g := 68) (args := #[.pointer (some ⟨γ199 0, 0, none⟩), .pointer (some ⟨γ185 1, 0, none⟩), .pointer (some ⟨γ185 2, 0, none⟩), .pointer (some ⟨γ185 3, 0, none⟩)]) (by kernel_rfl) (by kernel_rfl) (by kernel_rfl) (fun args w => Try.call68 args w) Try.func68 rfl Try.ntmps68 rfl (sq_ (qa0 [] [0, 1, 2, 3] [] (ds_ (sq_ (sq_ (qa0 [(0, .go (owns 6 0 1))] [0, 2, 3] [(11, .bool true)] (ds_ (t_ (sq_ (qa0 [] [] [(5, .int .i64 2)] (ds_ (bk ([]) (.int .i64 2) (qo0 1 [] [4, 7] [(8, .int .i64 2)] (on_ (ds_ (sq_ (qa0 [] [4, 7, 8] [(22, .bool true)] (ds_ (t_ (sq_ (qa0 [(2, .go (owns 1 0 1))] [4] [(5, .int .i64 2)] (ds_ (bk (owns 1 0 1) (.tuple #[.agg #[.slice none 0 0], .int .i64 2]) (qo0 4 [(5, .go (owns 3 0 1))] [8] [(9, .int .i64 2)] (on_ (ds_ (bk (owns 3 0 1) (.tuple #[.agg #[.slice none 0 0], .int .i64 2]) (qo0 4 [(12, .go (owns 8 0 1))] [6] [(7, .int .i64 2)] (on_ (ds_ (rt (owns 8 0 1) (.tuple #[.agg #[.slice none 0 0], .int .i64 2]) ?_))))))))))))))))))))))))))))))))))))))
   exact fun w' hw => by rw [show runV ts il dt = alterV (runF dt) ts (runB dt) il from rfl, alter_arg q189 (show runB dt = false from decide_eq_false (by omega))]; exact ⟨none, 0, 0, [], rfl, SlO.nil, hw.below, hw.sub (List.nil_sublist _)⟩
end Go.Proofs.Ytnhkecfapohlgaa

/-! The walker: rows of rows of whole numbers, read or one's own. -/
namespace Go.Proofs.Ytnhkecfapohlgaa
open Go Go.RowKit

/-- A row of whole numbers as an element. -/
structure IntsA where
  p : Option Addr
  n : Nat
  cap : Nat
  l : List Int
def IntsA.enc (x : IntsA) : List Value := [.slice x.p x.n x.cap]
instance : Enc IntsA := ⟨IntsA.enc, 1, fun _ => rfl, fun x v h => by simp [IntsA.enc] at h; subst h; rfl, by decide⟩
structure IntsA.Reads (w : World) (x : IntsA) : Prop where
  sv : Sv w x.p x.l
  hn : x.n = x.l.length
  hc : x.n ≤ x.cap
  hb : x.cap ≤ 9223372036854775807
section
variable {w w' w0 : World} {x : IntsA} {al : List IntsA} {T : TypeId} {Y Yi L : List Ob}
theorem IntsA.Reads.kept (h : x.Reads w) (hb : Below w.heap.size w w') : x.Reads w' := ⟨h.sv.kept hb, h.hn, h.hc, h.hb⟩
theorem SlO.facts {α : Type} [Enc α] {p : Option Addr} {n cap : Nat} {l : List α} (h : SlO T Y p n cap l) : n = l.length ∧ n ≤ cap ∧ cap ≤ 9223372036854775807 := by
  refine ⟨h.len, ?_⟩
  rcases h with ⟨_, _, h, h2, _⟩ | ⟨g, cs, _, _, _, h⟩
  · omega
  · exact ⟨h.le, h.max⟩
/-- Rows of one's own, each in a block of its own. -/
def GotR (T : TypeId) (Yi : List Ob) (al : List IntsA) : Prop := ∃ Ys : List (List Ob), Yi = Ys.flatten ∧ Ys.length = al.length ∧ ∀ (i : Nat) (Y : List Ob) (x : IntsA), Ys[i]? = some Y → al[i]? = some x → SlO T Y x.p x.n x.cap x.l
theorem GotR.nil : GotR T [] [] := ⟨[], rfl, rfl, fun i Y x h => by simp at h⟩
theorem GotR.own (h : GotR T Yi al) (hx : x ∈ al) : ∃ Y, List.Sublist Y Yi ∧ SlO T Y x.p x.n x.cap x.l := by
  obtain ⟨Ys, rfl, hl, hs⟩ := h
  obtain ⟨i, hi⟩ := List.mem_iff_getElem?.1 hx
  have hil := (List.getElem?_eq_some_iff.1 hi).1
  have e : Ys[i]? = some Ys[i] := List.getElem?_eq_getElem (by omega)
  exact ⟨Ys[i], List.sublist_flatten_of_mem (List.getElem_mem _), hs i _ x e hi⟩
theorem SlO.sub {α : Type} [Enc α] {p : Option Addr} {n cap : Nat} {l : List α} (h : SlO T Y p n cap l) (hw : Hs w0 L w) (hs : List.Sublist Y L) : Sv w p l := h.at (R := []) (by rw [List.append_nil]; exact hw.sub hs)
theorem GotR.reads (h : GotR T Yi al) (hw : Hs w0 L w) (hs : List.Sublist Yi L) : ∀ x ∈ al, x.Reads w := fun x hx => by
  obtain ⟨Y, h1, h2⟩ := h.own hx
  have hf := h2.facts
  exact ⟨h2.sub hw (h1.trans hs), hf.1, hf.2.1, hf.2.2⟩
end
section
variable {E : Env} {k : List Fr} {l : Sl} {L L' : List Ob} {all os : List Oper} {i : Nat} {c : Code}
theorem Done.as (h : L = L') (hd : Done E k l L') : Done E k l L := h ▸ hd
theorem At.as (h : L = L') (hd : At E k c l L') : At E k c l L := h ▸ hd
theorem Ops.as (h : L = L') (hd : Ops E k all os i l L') : Ops E k all os i l L := h ▸ hd
theorem min_if17 {n : Nat} : (if (17 : Int) < ((n : Nat) : Int) then (17 : Int) else ((n : Nat) : Int)) = ((min n 17 : Nat) : Int) := by split <;> omega
end
end Go.Proofs.Ytnhkecfapohlgaa

/-! The layer does something. -/
namespace Go.Proofs.Ytnhkecfapohlgaa
open Go Go.RowKit
theorem lit_U0 : ∀ r ∈ [(⟨1, 1, 0, 100, 10⟩ : Rn), (⟨2, 2, 0, 300, 20⟩ : Rn)], r.U := by
 intro r hr
 simp only [List.mem_cons, List.not_mem_nil, or_false] at hr
 rcases hr with rfl | rfl <;> exact ⟨by decide, by decide, by decide, by decide, by constructor <;> decide⟩
theorem lit_U1 : ∀ r ∈ ([(⟨1, 1, 0, 100, 10⟩ : Rn), (⟨2, 2, 0, 300, 20⟩ : Rn), (⟨3, 1, 0, 360, 30⟩ : Rn)] : List Rn), r.U := by
 intro r hr
 simp only [List.mem_cons, List.not_mem_nil, or_false] at hr
 rcases hr with rfl | rfl | rfl <;> exact ⟨by decide, by decide, by decide, by decide, by constructor <;> decide⟩

set_option maxRecDepth 100000 in
theorem over_t (a b : Int) (w : World)
 : Calls Try.prog 32 #[.int .u64 a, .int .u64 b] w fun e w' => e = .returned (.agg #[.int .u64 0, .int .u64 a, .int .u64 b]) ∧ Below w.heap.size w w' := by
 refine enter (Hs.start w) Try.func32 rfl Try.ntmps32 rfl (sq_ (ma0 [] [0, 1] (fun γ1 => [(4, .pointer (some ⟨γ1 0, 0, none⟩))]) (fun γ1 L => bx (γ1 0) (#[.int .u64 0, .int .u64 0, .int .u64 0]) 33 :: L) (fun γ1 => ds_ (sq_ (ma0 [(4, .go (owns 0 0 3))] [4] (fun _ => []) (fun _ L => (L.set 0 (bx (γ1 0) (#[.int .u64 0, .int .u64 a, .int .u64 b]) 33))) (fun _ => ds_ (rt (owns 0 0 3) (.agg #[.int .u64 0, .int .u64 a, .int .u64 b]) ?_)))))))
 exact fun w' hw => ⟨rfl, hw.below⟩

set_option maxRecDepth 100000 in
theorem wakes_t  (w : World)
 : Calls Try.prog 9 #[] w fun e w' => e = .returned (.bool true) ∧ Below w.heap.size w w' := by
 refine enter (Hs.start w) Try.func9 rfl Try.ntmps9 rfl (sq_ (qa0 [] [] [] (ds_ (sq_ (ao_ (cD (.agg #[.int .u64 0, .int .u64 100, .int .u64 10]) Try.call32 (fun w hw => over_t 100 10 w) (qo0 1 [] [] [(9, .agg #[.int .i64 1, .int .i64 1, .int .u64 0, .int .u64 100, .int .u64 10])] (cD (.agg #[.int .u64 0, .int .u64 300, .int .u64 20]) Try.call32 (fun w hw => over_t 300 20 w) (mo0 5 [(7, .go (owns 0 0 1))] [] (fun γ4 => [(1, .pointer (some ⟨γ4 1, 0, none⟩))]) (fun γ4 L => bx (γ4 1) (#[.slice (some ⟨γ4 0, 0, none⟩) 2 2]) 24 :: bx (γ4 0) (#[.int .i64 1, .int .i64 1, .int .u64 0, .int .u64 100, .int .u64 10, .int .i64 2, .int .i64 2, .int .u64 0, .int .u64 300, .int .u64 20]) 35 :: L) (fun γ4 => on_ (ds_ (sq_ ?_))))))))))))
 refine at_any (by kernel_rfl) ?_
 refine any_cutX (V := (List Ob) × (Nat) × (Nat) × (Option Addr) × (Nat → Nat)) (fun ⟨Y67, c67, n67, q67, γ147⟩ => SlO 35 Y67 q67 n67 c67 ([(⟨1, 1, 0, 100, 10⟩ : Rn), (⟨2, 2, 0, 300, 20⟩ : Rn), (⟨3, 1, 0, 360, 30⟩ : Rn)] : List Rn) ∧ n67 = 3 ∧ n67 = (([(⟨1, 1, 0, 100, 10⟩ : Rn), (⟨2, 2, 0, 300, 20⟩ : Rn), (⟨3, 1, 0, 360, 30⟩ : Rn)] : List Rn)).length) 0 #[true, true, true, true, true, true, true, true, true, true] (fun ⟨Y67, c67, n67, q67, γ147⟩ => [(1, .pointer (some ⟨γ4 1, 0, none⟩)), (2, .pointer (some ⟨γ147 0, 0, none⟩)), (3, .int .i64 0)]) (fun ⟨Y67, c67, n67, q67, γ147⟩ => bx (γ147 0) (#[.slice q67 n67 c67]) 24 :: bx (γ4 1) (#[.slice (some ⟨γ4 0, 0, none⟩) 2 2]) 24 :: bx (γ4 0) (#[.int .i64 1, .int .i64 1, .int .u64 0, .int .u64 100, .int .u64 10, .int .i64 2, .int .i64 2, .int .u64 0, .int .u64 300, .int .u64 20]) 35 :: (Y67 ++ [])) ?_ (fun hmx10 => ?_)
 rotate_left
 ·
  refine any_cutX (V := (List Ob) × (Nat) × (Nat) × (Option Addr) × (Nat → Nat)) (fun ⟨Y67, c67, n67, q67, γ147⟩ => SlO 35 Y67 q67 n67 c67 ([(⟨1, 1, 0, 100, 10⟩ : Rn), (⟨2, 2, 0, 300, 20⟩ : Rn), (⟨3, 1, 0, 360, 30⟩ : Rn)] : List Rn) ∧ n67 = 3 ∧ n67 = (([(⟨1, 1, 0, 100, 10⟩ : Rn), (⟨2, 2, 0, 300, 20⟩ : Rn), (⟨3, 1, 0, 360, 30⟩ : Rn)] : List Rn)).length) 2 #[true, true, true, true, true, true, true, true, false, false] (fun ⟨Y67, c67, n67, q67, γ147⟩ => [(1, .pointer (some ⟨γ4 1, 0, none⟩)), (2, .pointer (some ⟨γ147 0, 0, none⟩)), (19, .agg #[.slice q67 n67 c67]), (20, .int .i64 0)]) (fun ⟨Y67, c67, n67, q67, γ147⟩ => bx (γ147 0) (#[.slice none 0 0]) 24 :: bx (γ4 1) (#[.slice (some ⟨γ4 0, 0, none⟩) 2 2]) 24 :: bx (γ4 0) (#[.int .i64 1, .int .i64 1, .int .u64 0, .int .u64 100, .int .u64 10, .int .i64 2, .int .i64 2, .int .u64 0, .int .u64 300, .int .u64 20]) 35 :: (Y67 ++ [])) ?_ (fun hmx9 => ?_)
  ·
   rintro ⟨Y67, c67, n67, q67, γ147⟩ ⟨hO67, hcn67, hl67⟩
   refine a1 8 rfl ?_
   refine mo0 1 [(8, .go (owns 0 0 1))] [1, 2, 20] (fun _ => []) (fun _ L => (L.set 0 (bx (γ147 0) (#[.slice q67 n67 c67]) 24))) (fun _ => ?_)
   refine od_ ?_
   refine tk (m := 0) [9] [] [1, 2] [(3, .int .i64 0)] ([]) #[true, true, true, true, true, true, true, true, true, true] al0 ?_
   exact wk (hmx10 (Y67, c67, n67, q67, γ147) ⟨hO67, hcn67, hl67⟩) [1, 2, 3] [[_], [_], [_], _] [0, 1, 2, 3] rfl rfl
  refine any_cutX (V := (List Ob) × (Nat) × (Nat) × (Option Addr)) (fun ⟨Y67, c67, n67, q67⟩ => SlO 35 Y67 q67 n67 c67 ([(⟨1, 1, 0, 100, 10⟩ : Rn), (⟨2, 2, 0, 300, 20⟩ : Rn), (⟨3, 1, 0, 360, 30⟩ : Rn)] : List Rn) ∧ n67 = 3 ∧ n67 = (([(⟨1, 1, 0, 100, 10⟩ : Rn), (⟨2, 2, 0, 300, 20⟩ : Rn), (⟨3, 1, 0, 360, 30⟩ : Rn)] : List Rn)).length) 3 #[true, true, true, true, true, true, true, false, false, false] (fun ⟨Y67, c67, n67, q67⟩ => [(1, .pointer (some ⟨γ4 1, 0, none⟩)), (19, .agg #[.slice q67 n67 c67]), (20, .int .i64 0)]) (fun ⟨Y67, c67, n67, q67⟩ => bx (γ4 1) (#[.slice (some ⟨γ4 0, 0, none⟩) 2 2]) 24 :: bx (γ4 0) (#[.int .i64 1, .int .i64 1, .int .u64 0, .int .u64 100, .int .u64 10, .int .i64 2, .int .i64 2, .int .u64 0, .int .u64 300, .int .u64 20]) 35 :: (Y67 ++ [])) ?_ (fun hmx8 => ?_)
  ·
   rintro ⟨Y67, c67, n67, q67⟩ ⟨hO67, hcn67, hl67⟩
   refine a1 7 rfl ?_
   refine mo0 1 [] [1, 19, 20] (fun γ147 => [(2, .pointer (some ⟨γ147 0, 0, none⟩))]) (fun γ147 L => bx (γ147 0) (#[.slice none 0 0]) 24 :: L) (fun γ147 => ?_)
   refine od_ ?_
   exact wk (hmx9 (Y67, c67, n67, q67, γ147) ⟨hO67, hcn67, hl67⟩) [1, 2, 19, 20] [[_], [_], [_], _] [0, 1, 2, 3] rfl rfl
  refine any_cutX (V := (Nat → Nat)) (fun γ147 => True) 6 #[true, true, true, false, false, false, false, true, false, false] (fun γ147 => [(1, .pointer (some ⟨γ4 1, 0, none⟩)), (2, .pointer (some ⟨γ147 0, 0, none⟩)), (15, .agg #[.slice (some ⟨γ4 0, 0, none⟩) 2 2]), (17, .agg #[.int .i64 3, .int .i64 1, .int .u64 0, .int .u64 0, .int .u64 30])]) (fun γ147 => [bx (γ147 0) (#[.slice none 0 0]) 24, bx (γ4 1) (#[.slice (some ⟨γ4 0, 0, none⟩) 2 2]) 24, bx (γ4 0) (#[.int .i64 1, .int .i64 1, .int .u64 0, .int .u64 100, .int .u64 10, .int .i64 2, .int .i64 2, .int .u64 0, .int .u64 300, .int .u64 20]) 35]) ?_ (fun hmx7 => ?_)
  ·
   rintro γ147 _
   refine a1 3 rfl ?_
   refine cP (fun v L' => ∃ q_ n_ c_ Y_, v = .tuple #[.agg #[.slice q_ n_ c_], .int .i64 0] ∧ L' = List.take 3 ([bx (γ147 0) (#[.slice none 0 0]) 24, bx (γ4 1) (#[.slice (some ⟨γ4 0, 0, none⟩) 2 2]) 24, bx (γ4 0) (#[.int .i64 1, .int .i64 1, .int .u64 0, .int .u64 100, .int .u64 10, .int .i64 2, .int .i64 2, .int .u64 0, .int .u64 300, .int .u64 20]) 35]) ++ (Y_ ++ List.drop 3 ([bx (γ147 0) (#[.slice none 0 0]) 24, bx (γ4 1) (#[.slice (some ⟨γ4 0, 0, none⟩) 2 2]) 24, bx (γ4 0) (#[.int .i64 1, .int .i64 1, .int .u64 0, .int .u64 100, .int .u64 10, .int .i64 2, .int .i64 2, .int .u64 0, .int .u64 300, .int .u64 20]) 35])) ∧ SlO 35 Y_ q_ n_ c_ ([(⟨1, 1, 0, 100, 10⟩ : Rn), (⟨2, 2, 0, 300, 20⟩ : Rn), (⟨3, 1, 0, 360, 30⟩ : Rn)] : List Rn)) Try.call28 (fun w hw => (join_t (some ⟨γ4 0, 0, none⟩) 2 2 [(⟨1, 1, 0, 100, 10⟩ : Rn), (⟨2, 2, 0, 300, 20⟩ : Rn)] (⟨3, 1, 0, 0, 30⟩ : Rn) 90 w (sv_row (hw.row 2 rfl) rfl) rfl (by decide) lit_U0 ⟨by decide, by decide, by decide, by decide, by constructor <;> decide⟩ (by decide)).mono fun e w' ⟨q_, n_, c_, Y_, he, hO, hb, hY⟩ => by rw [show joinV [(⟨1, 1, 0, 100, 10⟩ : Rn), (⟨2, 2, 0, 300, 20⟩ : Rn)] (⟨3, 1, 0, 0, 30⟩ : Rn) 90 = (([(⟨1, 1, 0, 100, 10⟩ : Rn), (⟨2, 2, 0, 300, 20⟩ : Rn), (⟨3, 1, 0, 360, 30⟩ : Rn)] : List Rn), 0) from by kernel_rfl] at he hO; exact ⟨_, _, he, ⟨q_, n_, c_, Y_, rfl, rfl, hO⟩, hw.join hb hY 3⟩) ?_
   rintro v67 L67 ⟨q67, n67, c67, Y67, rfl, rfl, hO67⟩
   have hl67 := hO67.len
   have hcn67 : n67 = 3 := hO67.len
   refine od_ ?_
   refine tk (m := 2) [4, 5, 6] [] [1, 2] [(19, .agg #[.slice q67 n67 c67]), (20, .int .i64 0)] ([]) #[true, true, true, true, true, true, true, true, false, false] al0 ?_
   exact wk (hmx9 (Y67, c67, n67, q67, γ147) ⟨hO67, hcn67, hl67⟩) [1, 2, 19, 20] [[_], [_], [_], _] [0, 1, 2, 3] rfl rfl
  refine any_cutX (V := (Nat → Nat)) (fun γ147 => True) 7 #[false, true, true, false, false, false, false, true, false, false] (fun γ147 => [(1, .pointer (some ⟨γ4 1, 0, none⟩)), (2, .pointer (some ⟨γ147 0, 0, none⟩)), (17, .agg #[.int .i64 3, .int .i64 1, .int .u64 0, .int .u64 0, .int .u64 30])]) (fun γ147 => [bx (γ147 0) (#[.slice none 0 0]) 24, bx (γ4 1) (#[.slice (some ⟨γ4 0, 0, none⟩) 2 2]) 24, bx (γ4 0) (#[.int .i64 1, .int .i64 1, .int .u64 0, .int .u64 100, .int .u64 10, .int .i64 2, .int .i64 2, .int .u64 0, .int .u64 300, .int .u64 20]) 35]) ?_ (fun hmx6 => ?_)
  ·
   rintro γ147 _
   refine a1 0 rfl ?_
   refine qo0 1 [(0, .go (owns 1 0 1))] [1, 2, 17] [(15, .agg #[.slice (some ⟨γ4 0, 0, none⟩) 2 2])] ?_
   refine od_ ?_
   exact wk (hmx7 γ147 trivial) [1, 2, 15, 17] [[_], [_], [_]] [0, 1, 2] rfl rfl
  refine any_cutX (V := Unit) (fun _ => True) 7 #[true, true, true, false, false, false, false, false, false, false] (fun _ => [(1, .pointer (some ⟨γ4 1, 0, none⟩)), (15, .agg #[.slice (some ⟨γ4 0, 0, none⟩) 2 2]), (17, .agg #[.int .i64 3, .int .i64 1, .int .u64 0, .int .u64 0, .int .u64 30])]) (fun _ => [bx (γ4 1) (#[.slice (some ⟨γ4 0, 0, none⟩) 2 2]) 24, bx (γ4 0) (#[.int .i64 1, .int .i64 1, .int .u64 0, .int .u64 100, .int .u64 10, .int .i64 2, .int .i64 2, .int .u64 0, .int .u64 300, .int .u64 20]) 35]) ?_ (fun hmx5 => ?_)
  ·
   rintro _ _
   refine any_fork [3, 7] (by kernel_rfl) (by simp) (each_cons _ rfl ?_ (each_cons _ rfl ?_ (each_nil)))
   ·
    refine cP (fun v L' => ∃ q_ n_ c_ Y_, v = .tuple #[.agg #[.slice q_ n_ c_], .int .i64 0] ∧ L' = List.take 2 ([bx (γ4 1) (#[.slice (some ⟨γ4 0, 0, none⟩) 2 2]) 24, bx (γ4 0) (#[.int .i64 1, .int .i64 1, .int .u64 0, .int .u64 100, .int .u64 10, .int .i64 2, .int .i64 2, .int .u64 0, .int .u64 300, .int .u64 20]) 35]) ++ (Y_ ++ List.drop 2 ([bx (γ4 1) (#[.slice (some ⟨γ4 0, 0, none⟩) 2 2]) 24, bx (γ4 0) (#[.int .i64 1, .int .i64 1, .int .u64 0, .int .u64 100, .int .u64 10, .int .i64 2, .int .i64 2, .int .u64 0, .int .u64 300, .int .u64 20]) 35])) ∧ SlO 35 Y_ q_ n_ c_ ([(⟨1, 1, 0, 100, 10⟩ : Rn), (⟨2, 2, 0, 300, 20⟩ : Rn), (⟨3, 1, 0, 360, 30⟩ : Rn)] : List Rn)) Try.call28 (fun w hw => (join_t (some ⟨γ4 0, 0, none⟩) 2 2 [(⟨1, 1, 0, 100, 10⟩ : Rn), (⟨2, 2, 0, 300, 20⟩ : Rn)] (⟨3, 1, 0, 0, 30⟩ : Rn) 90 w (sv_row (hw.row 1 rfl) rfl) rfl (by decide) lit_U0 ⟨by decide, by decide, by decide, by decide, by constructor <;> decide⟩ (by decide)).mono fun e w' ⟨q_, n_, c_, Y_, he, hO, hb, hY⟩ => by rw [show joinV [(⟨1, 1, 0, 100, 10⟩ : Rn), (⟨2, 2, 0, 300, 20⟩ : Rn)] (⟨3, 1, 0, 0, 30⟩ : Rn) 90 = (([(⟨1, 1, 0, 100, 10⟩ : Rn), (⟨2, 2, 0, 300, 20⟩ : Rn), (⟨3, 1, 0, 360, 30⟩ : Rn)] : List Rn), 0) from by kernel_rfl] at he hO; exact ⟨_, _, he, ⟨q_, n_, c_, Y_, rfl, rfl, hO⟩, hw.join hb hY 2⟩) ?_
    rintro v67 L67 ⟨q67, n67, c67, Y67, rfl, rfl, hO67⟩
    have hl67 := hO67.len
    have hcn67 : n67 = 3 := hO67.len
    refine od_ ?_
    refine tk (m := 3) [4, 5, 6] [] [1] [(19, .agg #[.slice q67 n67 c67]), (20, .int .i64 0)] ([]) #[true, true, true, true, true, true, true, false, false, false] al0 ?_
    exact wk (hmx8 (Y67, c67, n67, q67) ⟨hO67, hcn67, hl67⟩) [1, 19, 20] [[_], [_], _] [0, 1, 2] rfl rfl
   ·
    refine mo0 1 [] [1, 15, 17] (fun γ147 => [(2, .pointer (some ⟨γ147 0, 0, none⟩))]) (fun γ147 L => bx (γ147 0) (#[.slice none 0 0]) 24 :: L) (fun γ147 => ?_)
    refine od_ ?_
    exact wk (hmx7 γ147 trivial) [1, 2, 15, 17] [[_], [_], [_]] [0, 1, 2] rfl rfl
  refine any_cutX (V := (Nat → Nat)) (fun γ147 => True) 8 #[true, false, false, false, false, false, false, true, false, false] (fun γ147 => [(1, .pointer (some ⟨γ4 1, 0, none⟩)), (2, .pointer (some ⟨γ147 0, 0, none⟩)), (15, .agg #[.slice (some ⟨γ4 0, 0, none⟩) 2 2])]) (fun γ147 => [bx (γ147 0) (#[.slice none 0 0]) 24, bx (γ4 1) (#[.slice (some ⟨γ4 0, 0, none⟩) 2 2]) 24, bx (γ4 0) (#[.int .i64 1, .int .i64 1, .int .u64 0, .int .u64 100, .int .u64 10, .int .i64 2, .int .i64 2, .int .u64 0, .int .u64 300, .int .u64 20]) 35]) ?_ (fun hmx4 => ?_)
  ·
   rintro γ147 _
   refine a1 1 rfl ?_
   refine cD (.agg #[.int .u64 0, .int .u64 0, .int .u64 30]) Try.call32 (fun w hw => over_t 0 30 w) ?_
   refine od_ ?_
   refine tk (m := 6) [2] [] [1, 2, 15] [(17, .agg #[.int .i64 3, .int .i64 1, .int .u64 0, .int .u64 0, .int .u64 30])] ([]) #[true, true, true, false, false, false, false, true, false, false] al0 ?_
   exact wk (hmx7 γ147 trivial) [1, 2, 15, 17] [[_], [_], [_]] [0, 1, 2] rfl rfl
  refine any_cutX (V := Unit) (fun _ => True) 8 #[false, true, true, false, false, false, false, false, false, false] (fun _ => [(1, .pointer (some ⟨γ4 1, 0, none⟩)), (17, .agg #[.int .i64 3, .int .i64 1, .int .u64 0, .int .u64 0, .int .u64 30])]) (fun _ => [bx (γ4 1) (#[.slice (some ⟨γ4 0, 0, none⟩) 2 2]) 24, bx (γ4 0) (#[.int .i64 1, .int .i64 1, .int .u64 0, .int .u64 100, .int .u64 10, .int .i64 2, .int .i64 2, .int .u64 0, .int .u64 300, .int .u64 20]) 35]) ?_ (fun hmx3 => ?_)
  ·
   rintro _ _
   refine any_fork [0, 7] (by kernel_rfl) (by simp) (each_cons _ rfl ?_ (each_cons _ rfl ?_ (each_nil)))
   ·
    refine qo0 1 [(0, .go (owns 0 0 1))] [1, 17] [(15, .agg #[.slice (some ⟨γ4 0, 0, none⟩) 2 2])] ?_
    refine od_ ?_
    exact wk (hmx5 () trivial) [1, 15, 17] [[_], [_]] [0, 1] rfl rfl
   ·
    refine mo0 1 [] [1, 17] (fun γ147 => [(2, .pointer (some ⟨γ147 0, 0, none⟩))]) (fun γ147 L => bx (γ147 0) (#[.slice none 0 0]) 24 :: L) (fun γ147 => ?_)
    refine od_ ?_
    exact wk (hmx6 γ147 trivial) [1, 2, 17] [[_], [_], [_]] [0, 1, 2] rfl rfl
  refine any_cutX (V := (Nat → Nat)) (fun γ147 => True) 9 #[false, false, false, false, false, false, false, true, false, false] (fun γ147 => [(1, .pointer (some ⟨γ4 1, 0, none⟩)), (2, .pointer (some ⟨γ147 0, 0, none⟩))]) (fun γ147 => [bx (γ147 0) (#[.slice none 0 0]) 24, bx (γ4 1) (#[.slice (some ⟨γ4 0, 0, none⟩) 2 2]) 24, bx (γ4 0) (#[.int .i64 1, .int .i64 1, .int .u64 0, .int .u64 100, .int .u64 10, .int .i64 2, .int .i64 2, .int .u64 0, .int .u64 300, .int .u64 20]) 35]) ?_ (fun hmx2 => ?_)
  ·
   rintro γ147 _
   refine any_fork [0, 1] (by kernel_rfl) (by simp) (each_cons _ rfl ?_ (each_cons _ rfl ?_ (each_nil)))
   ·
    refine qo0 1 [(0, .go (owns 1 0 1))] [1, 2] [(15, .agg #[.slice (some ⟨γ4 0, 0, none⟩) 2 2])] ?_
    refine od_ ?_
    exact wk (hmx4 γ147 trivial) [1, 2, 15] [[_], [_], [_]] [0, 1, 2] rfl rfl
   ·
    refine cD (.agg #[.int .u64 0, .int .u64 0, .int .u64 30]) Try.call32 (fun w hw => over_t 0 30 w) ?_
    refine od_ ?_
    refine tk (m := 7) [2] [] [1, 2] [(17, .agg #[.int .i64 3, .int .i64 1, .int .u64 0, .int .u64 0, .int .u64 30])] ([]) #[false, true, true, false, false, false, false, true, false, false] al0 ?_
    exact wk (hmx6 γ147 trivial) [1, 2, 17] [[_], [_], [_]] [0, 1, 2] rfl rfl
  refine any_cutX (V := Unit) (fun _ => True) 9 #[true, false, false, false, false, false, false, false, false, false] (fun _ => [(1, .pointer (some ⟨γ4 1, 0, none⟩)), (15, .agg #[.slice (some ⟨γ4 0, 0, none⟩) 2 2])]) (fun _ => [bx (γ4 1) (#[.slice (some ⟨γ4 0, 0, none⟩) 2 2]) 24, bx (γ4 0) (#[.int .i64 1, .int .i64 1, .int .u64 0, .int .u64 100, .int .u64 10, .int .i64 2, .int .i64 2, .int .u64 0, .int .u64 300, .int .u64 20]) 35]) ?_ (fun hmx1 => ?_)
  ·
   rintro _ _
   refine any_fork [1, 7] (by kernel_rfl) (by simp) (each_cons _ rfl ?_ (each_cons _ rfl ?_ (each_nil)))
   ·
    refine cD (.agg #[.int .u64 0, .int .u64 0, .int .u64 30]) Try.call32 (fun w hw => over_t 0 30 w) ?_
    refine od_ ?_
    refine tk (m := 7) [2] [] [1, 15] [(17, .agg #[.int .i64 3, .int .i64 1, .int .u64 0, .int .u64 0, .int .u64 30])] ([]) #[true, true, true, false, false, false, false, false, false, false] al0 ?_
    exact wk (hmx5 () trivial) [1, 15, 17] [[_], [_]] [0, 1] rfl rfl
   ·
    refine mo0 1 [] [1, 15] (fun γ147 => [(2, .pointer (some ⟨γ147 0, 0, none⟩))]) (fun γ147 L => bx (γ147 0) (#[.slice none 0 0]) 24 :: L) (fun γ147 => ?_)
    refine od_ ?_
    exact wk (hmx4 γ147 trivial) [1, 2, 15] [[_], [_], [_]] [0, 1, 2] rfl rfl
  refine any_fork [0, 1, 7] (by kernel_rfl) (by simp) (each_cons _ rfl ?_ (each_cons _ rfl ?_ (each_cons _ rfl ?_ (each_nil))))
  ·
   refine qo0 1 [(0, .go (owns 0 0 1))] [1] [(15, .agg #[.slice (some ⟨γ4 0, 0, none⟩) 2 2])] ?_
   refine od_ ?_
   exact wk (hmx1 () trivial) [1, 15] [[_], [_]] [0, 1] rfl rfl
  ·
   refine cD (.agg #[.int .u64 0, .int .u64 0, .int .u64 30]) Try.call32 (fun w hw => over_t 0 30 w) ?_
   refine od_ ?_
   refine tk (m := 8) [2] [] [1] [(17, .agg #[.int .i64 3, .int .i64 1, .int .u64 0, .int .u64 0, .int .u64 30])] ([]) #[false, true, true, false, false, false, false, false, false, false] al0 ?_
   exact wk (hmx3 () trivial) [1, 17] [[_], [_]] [0, 1] rfl rfl
  ·
   refine mo0 1 [] [1] (fun γ147 => [(2, .pointer (some ⟨γ147 0, 0, none⟩))]) (fun γ147 L => bx (γ147 0) (#[.slice none 0 0]) 24 :: L) (fun γ147 => ?_)
   refine od_ ?_
   exact wk (hmx2 γ147 trivial) [1, 2] [[_], [_], [_]] [0, 1, 2] rfl rfl
 rintro ⟨Y67, c67, n67, q67, γ147⟩ ⟨hO67, hcn67, hl67⟩
 refine any_nil (by kernel_rfl) ?_
 refine ds_ (sq_ (ao_ (mo0 2 [(0, .go (owns 1 0 1))] [2, 3] (fun γ260 => [(22, .agg #[.slice (some ⟨γ4 0, 0, none⟩) 2 2]), (23, .slice (some ⟨γ260 0, 0, none⟩) 1 1)]) (fun γ260 L => bx (γ260 0) (#[.int .i64 2]) 3 :: L) (fun γ260 => cP (fun v L' => ∃ q_ n_ c_ Y_, v = .tuple #[.agg #[.slice q_ n_ c_], .int .i64 0] ∧ L' = List.take 4 (bx (γ260 0) (#[.int .i64 2]) 3 :: bx (γ147 0) (#[.slice q67 n67 c67]) 24 :: bx (γ4 1) (#[.slice (some ⟨γ4 0, 0, none⟩) 2 2]) 24 :: bx (γ4 0) (#[.int .i64 1, .int .i64 1, .int .u64 0, .int .u64 100, .int .u64 10, .int .i64 2, .int .i64 2, .int .u64 0, .int .u64 300, .int .u64 20]) 35 :: (Y67 ++ [])) ++ (Y_ ++ List.drop 4 (bx (γ260 0) (#[.int .i64 2]) 3 :: bx (γ147 0) (#[.slice q67 n67 c67]) 24 :: bx (γ4 1) (#[.slice (some ⟨γ4 0, 0, none⟩) 2 2]) 24 :: bx (γ4 0) (#[.int .i64 1, .int .i64 1, .int .u64 0, .int .u64 100, .int .u64 10, .int .i64 2, .int .i64 2, .int .u64 0, .int .u64 300, .int .u64 20]) 35 :: (Y67 ++ []))) ∧ SlO 35 Y_ q_ n_ c_ ([(⟨1, 1, 0, 100, 10⟩ : Rn), (⟨2, 2, 0, 320, 20⟩ : Rn)] : List Rn)) Try.call16 (fun w hw => (run_t (some ⟨γ4 0, 0, none⟩) 2 2 [(⟨1, 1, 0, 100, 10⟩ : Rn), (⟨2, 2, 0, 300, 20⟩ : Rn)] (some ⟨γ260 0, 0, none⟩) 1 1 [2] 10 w (sv_row (hw.row 3 rfl) rfl) rfl (by decide) lit_U0 (sv_row (hw.row 0 rfl) rfl) rfl (by decide)).mono fun e w' ⟨q_, n_, c_, Y_, he, hO, hb, hY⟩ => by rw [show runV [(⟨1, 1, 0, 100, 10⟩ : Rn), (⟨2, 2, 0, 300, 20⟩ : Rn)] [2] 10 = (([(⟨1, 1, 0, 100, 10⟩ : Rn), (⟨2, 2, 0, 320, 20⟩ : Rn)] : List Rn), 0) from by kernel_rfl] at he hO; exact ⟨_, _, he, ⟨q_, n_, c_, Y_, rfl, rfl, hO⟩, hw.join hb hY 4⟩) ?_))))
 rintro v261 L261 ⟨q261, n261, c261, Y261, rfl, rfl, hO261⟩
 have hl261 := hO261.len
 have hcn261 : n261 = 2 := hO261.len
 refine mo0 6 [(7, .go (owns 0 0 1))] [2, 3] (fun γ262 => [(4, .pointer (some ⟨γ262 0, 0, none⟩)), (5, .int .i64 0)]) (fun γ262 L => bx (γ262 0) (#[.slice q261 n261 c261]) 24 :: L) (fun γ262 => on_ (ds_ (sq_ (ao_ (qo0 1 [(0, .go (owns 2 0 1))] [3, 4, 5] [(28, .agg #[.slice q67 n67 c67])] (cD (.tuple #[.agg #[.int .i64 3, .int .i64 1, .int .u64 0, .int .u64 360, .int .u64 30], .bool true]) Try.call11 (fun w hw => by have := getq_t q67 n67 c67 ([(⟨1, 1, 0, 100, 10⟩ : Rn), (⟨2, 2, 0, 300, 20⟩ : Rn), (⟨3, 1, 0, 360, 30⟩ : Rn)] : List Rn) 3 w (hO67.atN (A := (_ :: _ :: _ :: _ :: _ :: Y261)) hw) hO67.len (by omega) lit_U1 (by decide) (by decide); rw [show getQ ([(⟨1, 1, 0, 100, 10⟩ : Rn), (⟨2, 2, 0, 300, 20⟩ : Rn), (⟨3, 1, 0, 360, 30⟩ : Rn)] : List Rn) 3 = some (⟨3, 1, 0, 360, 30⟩ : Rn) from by kernel_rfl] at this; exact this) (mo0 6 [(6, .go (owns 0 0 5))] [3, 4, 5] (fun γ264 => [(6, .pointer (some ⟨γ264 0, 0, none⟩)), (7, .bool true)]) (fun γ264 L => bx (γ264 0) (#[.int .i64 3, .int .i64 1, .int .u64 0, .int .u64 360, .int .u64 30]) 35 :: L) (fun γ264 => on_ (ds_ (sq_ ?_))))))))))
 refine at_calm rfl (by kernel_rfl) (by kernel_rfl) ?_
 refine cm 12 [(11, .go (owns 0 2 3))] [4] [(41, .bool true), (43, .agg #[.int .u64 0, .int .u64 360, .int .u64 30])] ([]) (by kernel_rfl) rfl al0 ?_
 refine cK (.agg #[.int .u64 0, .int .u64 360, .int .u64 30]) Try.call32 (fun w hw => over_t 360 30 w) ?_
 have hln267 := hO261.len
 obtain ⟨g267, cs267, rfl, rfl, hOw267⟩ := hO261.rowOf (i := 1) (by omega)
 refine cm 14 [(13, .eqs true), (17, .go (owns 1 0 1)), (19, .yes), (23, .go (owns 1 0 1)), (24, .at g267 0 1), (26, .go (ownps 6 (0 + 1 * 5 + 2) [.int .u64 0, .int .u64 320, .int .u64 20]))] [] [(53, .bool true), (58, .agg #[.int .u64 0, .int .u64 320, .int .u64 20])] ([EqRun Try.prog .eql 33 (.tmp 43) (.tmp 44) (.agg #[.int .u64 0, .int .u64 360, .int .u64 30]) (.agg #[.int .u64 0, .int .u64 360, .int .u64 30]) true] ++ ([((n261 : Nat) : Int) = (2 : Int)] ++ ([(some ⟨g267, 0, none⟩ : Option Addr) = some ⟨g267, 0, none⟩, 1 = ((1 : Nat) : Int), 1 < n261] ++ (acellsP cs267 (0 + 1 * 5 + 2) [.int .u64 0, .int .u64 320, .int .u64 20])))) (by kernel_rfl) rfl (alA (al1 (fq_eq_t (a := (⟨0, 360, 30⟩ : Fq)) (b := (⟨0, 360, 30⟩ : Fq)) rfl)) (alA (al1 (by rw [hl261]; rfl)) (alA (al2 rfl (al2 rfl (al1 (by omega)))) (rda_part (hOw267.rdx hO261.len (show ([(⟨1, 1, 0, 100, 10⟩ : Rn), (⟨2, 2, 0, 320, 20⟩ : Rn)] : List Rn)[1]? = some (⟨2, 2, 0, 320, 20⟩ : Rn) from rfl)) 2 _ rfl)))) ?_
 refine cK (.agg #[.int .u64 0, .int .u64 320, .int .u64 20]) Try.call32 (fun w hw => over_t 320 20 w) ?_
 refine cm 3 [(28, .eqs true)] [] [(0, .bool true)] ([EqRun Try.prog .eql 33 (.tmp 58) (.tmp 59) (.agg #[.int .u64 0, .int .u64 320, .int .u64 20]) (.agg #[.int .u64 0, .int .u64 320, .int .u64 20]) true]) (by kernel_rfl) rfl (al1 (fq_eq_t (a := (⟨0, 320, 20⟩ : Fq)) (b := (⟨0, 320, 20⟩ : Fq)) rfl)) ?_
 refine calm_nil' ?_
 refine ds_ (rt ([]) (.bool true) ?_)
 exact fun w' hw => ⟨rfl, hw.below⟩
end Go.Proofs.Ytnhkecfapohlgaa

/-! What is shortened, what is named; plain. -/
namespace Go.Proofs.Ytnhkecfapohlgaa
open Go Go.RowKit

theorem SlO.asE {α : Type} [Enc α] {T : TypeId} {Y : List Ob} {p : Option Addr} {n cap : Nat} {l l' : List α} (h : SlO T Y p n cap l) (e : l = l') : SlO T Y p n cap l' := e ▸ h
theorem take_min {α : Type} {l : List α} {n : Nat} (h : n = l.length) : l.take (min n 17) = l.take 17 := by
  by_cases h2 : n ≤ 17
  · rw [Nat.min_eq_left h2, List.take_of_length_le (by omega), List.take_of_length_le (by omega)]
  · rw [Nat.min_eq_right (by omega)]
theorem take_U {ts : List Rn} {k : Nat} (hU : ∀ r ∈ ts, r.U) : ∀ r ∈ ts.take k, r.U := fun r hr => hU r (List.mem_of_mem_take hr)
def inL (l : List Int) (r : Rn) : Bool := decide (r.id ∈ l)
/-- The numbers that an op names, of those that are there. -/
def namedV (ts : List Rn) (l : List Int) : List Int := (ts.filter (inL l)).map Rn.id
section
variable {l : List Int} {x : Rn} {k : Int} {j : Nat}
end
end Go.Proofs.Ytnhkecfapohlgaa

/-! What is shortened, what is named. -/
namespace Go.Proofs.Ytnhkecfapohlgaa
open Go Go.RowKit

set_option maxRecDepth 100000 in
theorem rcopy_t (p : Option Addr) (n cap : Nat) (ts : List Rn) (w : World)
 (hts : Sv w p ts) (hn : n = ts.length) (hb : n ≤ 1000)
 : Calls Try.prog 33 #[.agg #[.slice p n cap]] w fun e w' => ∃ q' n' c' Y, e = .returned (.agg #[.slice q' n' c']) ∧ SlO 35 Y q' n' c' ts ∧ Below w.heap.size w w' ∧ Hs w Y w' := by
 refine enter (Hs.start w) Try.func33 rfl Try.ntmps33 rfl (sq_ (ma0 [] [] (fun γ1 => [(1, .pointer (some ⟨γ1 0, 0, none⟩)), (2, .pointer (some ⟨γ1 1, 0, none⟩))]) (fun γ1 L => bx (γ1 1) (#[.slice none 0 0]) 24 :: bx (γ1 0) (#[.slice p n cap]) 24 :: L) (fun γ1 => ds_ (sq_ (ao_ (mo0 3 [(2, .go (owns 2 0 1))] [2] (fun γ2 => [(3, .slice (some ⟨γ2 0, 0, none⟩) 0 0), (5, .slice p n cap)]) (fun γ2 L => bx (γ2 0) (#[]) 35 :: L) (fun γ2 => ops_append (α := Rn) [bx (γ1 1) (#[.slice none 0 0]) 24, bx (γ1 0) (#[.slice p n cap]) 24] ([bx (γ2 0) (#[]) 35]) ([]) (mvE rfl) rfl (by kernel_rfl) (by kernel_rfl) (p := (some ⟨γ2 0, 0, none⟩)) (n := 0) (cap := 0) (m := n) (yv := .slice p n cap) (by kernel_rfl) (by kernel_rfl) (T := 35) (by_ := 40) (by kernel_rfl) ([]) ts (SlO.lit (by rfl) (by rfl) (by simp [maxLen])) (fun w hw => src_svn Try.underlying22 (hts.kept hw.below) hn) hn (by have hmx : maxLen = 9223372036854775807 := rfl; omega) (by have hmx : maxLen = 9223372036854775807 := rfl; omega) (fun Y3 p3 cap3 hO3 => mo0 2 [(5, .go (owns 0 0 1))] [2] (fun _ => []) (fun _ L => (L.set 0 (bx (γ1 1) (#[.slice p3 (0 + n) cap3]) 24))) (fun _ => on_ (ds_ (rt (owns 0 0 1) (.agg #[.slice p3 (0 + n) cap3]) ?_)))))))))))
 exact fun w' hw => ⟨_, _, _, _, rfl, SlO.asE hO3 (by rw [List.nil_append]), hw.below, one_tail (Hs.pick [[bx (γ1 1) (#[.slice p3 (0 + n) cap3]) 24], [bx (γ1 0) (#[.slice p n cap]) 24], Y3] [2] [0, 1] (by kernel_rfl) hw)⟩

set_option maxRecDepth 100000 in
theorem short_t (p : Option Addr) (n cap : Nat) (ts : List Rn) (w : World)
 (hts : Sv w p ts) (hn : n = ts.length) (hcp : n ≤ cap) (hb : n ≤ 9223372036854775807)
 : Calls Try.prog 10 #[.agg #[.slice p n cap]] w fun e w' => ∃ q' n' c' Y, e = .returned (.agg #[.slice q' n' c']) ∧ SlO 35 Y q' n' c' (ts.take 17) ∧ Below w.heap.size w w' ∧ Hs w Y w' := by
 refine enter (Hs.start w) Try.func10 rfl Try.ntmps10 rfl (sq_ (ma0 [] [] (fun γ1 => [(1, .pointer (some ⟨γ1 0, 0, none⟩)), (2, .pointer (some ⟨γ1 1, 0, none⟩))]) (fun γ1 L => bx (γ1 1) (#[.slice none 0 0]) 24 :: bx (γ1 0) (#[.slice p n cap]) 24 :: L) (fun γ1 => ds_ (sq_ (ao_ (qo 8 [(1, .go (owns 1 0 1)), (3, .go (owns 1 0 1)), (6, .sl (.slice p (min n 17) cap))] [2] [(10, .agg #[.slice p (min n 17) cap])] ([SlRun Try.prog 22 (.slice p n cap) none (some (.int .i64 (if (17 : Int) < ((n : Nat) : Int) then 17 else (n : Nat)))) none (.slice p (min n 17) cap)]) (al1 (by rw [min_if17]; exact slE_hi (P := Try.prog) (h := (min n 17)) (T := 22) (e := 35) (k := 5) (by_ := 40) (by kernel_rfl) (by omega))) (cP (fun v L' => ∃ q_ n_ c_ Y_, v = .agg #[.slice q_ n_ c_] ∧ L' = List.take 2 ([bx (γ1 1) (#[.slice none 0 0]) 24, bx (γ1 0) (#[.slice p n cap]) 24]) ++ (Y_ ++ List.drop 2 ([bx (γ1 1) (#[.slice none 0 0]) 24, bx (γ1 0) (#[.slice p n cap]) 24])) ∧ SlO 35 Y_ q_ n_ c_ (ts.take (min n 17))) Try.call33 (fun w hw => (rcopy_t p (min n 17) cap (ts.take (min n 17)) w ((hts.kept hw.below).take (min n 17)) (by rw [List.length_take]; omega) (by omega)).mono fun e w' ⟨q_, n_, c_, Y_, he, hO, hb, hY⟩ => ⟨_, _, he, ⟨q_, n_, c_, Y_, rfl, rfl, hO⟩, hw.join hb hY 2⟩) ?_)))))))
 rintro v3 L3 ⟨q3, n3, c3, Y3, rfl, rfl, hO3⟩
 refine mo0 1 [(9, .go (owns 0 0 1))] [2] (fun _ => []) (fun _ L => (L.set 0 (bx (γ1 1) (#[.slice q3 n3 c3]) 24))) (fun _ => on_ (ds_ (rt (owns 0 0 1) (.agg #[.slice q3 n3 c3]) ?_)))
 exact fun w' hw => ⟨_, _, _, _, rfl, SlO.asE hO3 (take_min hn), hw.below, one_tail (Hs.pick [[bx (γ1 1) (#[.slice q3 n3 c3]) 24], [bx (γ1 0) (#[.slice p n cap]) 24], Y3] [2] [0, 1] (by kernel_rfl) hw)⟩

end Go.Proofs.Ytnhkecfapohlgaa

/-! Queues: Weigh. -/
namespace Go.Proofs.Ytnhkecfapohlgaa
open Go Go.RowKit

end Go.Proofs.Ytnhkecfapohlgaa

/-! What comes of changes; plain. -/
namespace Go.Proofs.Ytnhkecfapohlgaa
open Go Go.RowKit

section
variable {f : Rn → Rn × Int} {ts : List Rn} {l : List Int} {x y r : Rn} {j i : Nat} {k e e0 la : Int} {ok : Bool}
/-- What a change keeps. -/
def Keeps (f : Rn → Rn × Int) : Prop := ∀ r : Rn, rnB r = true → r.U → (f r).2 = 0 → rnB (f r).1 = true ∧ (f r).1.id = r.id ∧ (f r).1.U
structure AltOk (f : Rn → Rn × Int) (ts : List Rn) (ok : Bool) (l : List Int) : Prop where
  good : GoodQ ts
  yes : ok = true
  ris : risI l = true
  has : ∀ k ∈ l, ∃ r, getK Rn.id ts k = some r ∧ (f r).2 = 0
  eq : (alterV f ts ok l).1 = altL f ts l
theorem mem_altL (h : x ∈ altL f ts l) : ∃ r ∈ ts, x = if r.id ∈ l then (f r).1 else r := by
  unfold altL at h
  obtain ⟨r, hr, rfl⟩ := List.mem_map.1 h
  exact ⟨r, hr, rfl⟩
theorem AltOk.err (h : AltOk f ts ok l) (hr : r ∈ ts) (hl : r.id ∈ l) : (f r).2 = 0 := by
  obtain ⟨r', hg, he⟩ := h.has _ hl
  have := (getK_iff h.good.rs).2 ⟨hr, rfl⟩
  rw [hg] at this
  cases this; exact he
theorem AltOk.U (h : AltOk f ts ok l) (hf : Keeps f) (hU : ∀ r ∈ ts, r.U) : ∀ r ∈ altL f ts l, r.U := by
  intro x hx
  obtain ⟨r, hr, rfl⟩ := mem_altL hx
  by_cases hl : r.id ∈ l
  · rw [if_pos hl]; exact (hf r (h.good.rn r hr) (hU r hr) (h.err hr hl)).2.2
  · rw [if_neg hl]; exact hU r hr
theorem AltOk.idk (h : AltOk f ts ok l) (hf : Keeps f) (hU : ∀ r ∈ ts, r.U) (hr : r ∈ ts) : (if r.id ∈ l then (f r).1 else r).id = r.id := by
  by_cases hl : r.id ∈ l
  · rw [if_pos hl]; exact (hf r (h.good.rn r hr) (hU r hr) (h.err hr hl)).2.1
  · rw [if_neg hl]
theorem AltOk.chk (h : AltOk f ts ok l) (hf : Keeps f) (hU : ∀ r ∈ ts, r.U) : GoodQ (altL f ts l) := by
  refine ⟨?_, fun x hx => ?_⟩
  · unfold altL Ris
    rw [List.pairwise_map]
    refine List.Pairwise.imp_of_mem (fun {a b} ha hb hab => ?_) h.good.rs
    rw [h.idk hf hU ha, h.idk hf hU hb]; exact hab
  · obtain ⟨r, hr, rfl⟩ := mem_altL hx
    by_cases hl : r.id ∈ l
    · rw [if_pos hl]; exact (hf r (h.good.rn r hr) (hU r hr) (h.err hr hl)).1
    · rw [if_neg hl]; exact h.good.rn r hr
theorem AltOk.get (h : AltOk f ts ok l) (hf : Keeps f) (hU : ∀ r ∈ ts, r.U) (hg : getK Rn.id ts k = some r) : getK Rn.id (altL f ts l) k = some (if r.id ∈ l then (f r).1 else r) := by
  obtain ⟨hm, hid⟩ := (getK_iff h.good.rs).1 hg
  refine (getK_iff (h.chk hf hU).rs).2 ⟨?_, by rw [h.idk hf hU hm, hid]⟩
  unfold altL
  exact List.mem_map.2 ⟨r, hm, rfl⟩
end
/- the order of fractions -/
section
variable {a b f t : Fq} {n w s x y d : Int}
theorem up_le (hd : 1 ≤ d) : x ≤ upD x d * d := by
  unfold upD
  have h1 := Int.mul_ediv_add_emod (x + d - 1) d
  have h2 := Int.emod_lt_of_pos (x + d - 1) (show 0 < d by omega)
  rw [Int.mul_comm] at h1
  omega
theorem up_lt (hd : 1 ≤ d) : (upD x d - 1) * d < x := by
  unfold upD
  have h1 := Int.mul_ediv_add_emod (x + d - 1) d
  have h2 := Int.emod_nonneg (x + d - 1) (show d ≠ 0 by omega)
  rw [Int.mul_comm] at h1
  rw [Int.sub_mul]
  omega
theorem up_least (hd : 1 ≤ d) (h : x ≤ y * d) : upD x d ≤ y := by
  have h1 := up_lt (x := x) hd
  have h2 : (upD x d - 1) * d < y * d := by omega
  have := Int.lt_of_mul_lt_mul_right h2 (show 0 ≤ d by omega)
  omega
theorem cmpI_neg : cmpI x y < 0 ↔ x < y := by unfold cmpI; split <;> (try split) <;> omega
theorem cmpI_pos : 0 < cmpI x y ↔ y < x := by unfold cmpI; split <;> (try split) <;> omega
theorem cmpI_zero : cmpI x y = 0 ↔ x = y := by unfold cmpI; split <;> (try split) <;> omega
theorem cmp_yes (ha : a.ok = true) (hb : b.ok = true) : cmpF a b = cmpI (a.num * b.w) (b.num * a.w) := cmpF_yes (by rw [ha, hb]; rfl)
structure OverOk (f : Fq) (w : Int) : Prop where
  eq : (overV f w).1 = mkF (upD (f.num * w) f.w) w
  U : (overV f w).1.U
  ok : (overV f w).1.ok = true
  num : (overV f w).1.num = upD (f.num * w) f.w
  lt : upD (f.num * w) f.w < 1267650600228229401496703205376
theorem over_cases (hU : f.U) (hk : f.ok = true) (hw : wB w = true) : (overV f w).2 = 0 ∧ OverOk f w ∨ (overV f w).2 = 131 ∧ ¬ upD (f.num * w) f.w < 1267650600228229401496703205376 := by
  rw [over_yes hk hw]
  by_cases h : hiV (upD (f.num * w) f.w) < 68719476736
  · rw [with_yes rfl h]
    have e : (overV f w).1 = mkF (upD (f.num * w) f.w) w := by rw [over_yes hk hw, with_yes rfl h]
    have hw2 := wB_iff.1 hw
    refine .inl ⟨rfl, e, over_U hU, ?_, by rw [e]; exact num_mk, hi_36.1 h⟩
    rw [e]; exact ok_yes hw2.1 hw2.2 h
  · rw [with_no (.inr h)]; exact .inr ⟨rfl, fun n => h (hi_36.2 n)⟩
theorem over_ok0 (hU : f.U) (hk : f.ok = true) (hw : wB w = true) (h : (overV f w).2 = 0) : OverOk f w := by
  rcases over_cases hU hk hw with h1 | h1
  · exact h1.2
  · omega
theorem less_ok (hU : f.U) (hk : f.ok = true) (hn : 0 ≤ n) : (lessV f n).2 = 0 ∧ (lessV f n).1.ok = true ∧ (lessV f n).1.num = subV f.num n ∧ (lessV f n).1.w = f.w := by
  rw [less_yesV hk]
  have h1 := ok_iff.1 hk
  exact ⟨rfl, ok_yes h1.1.1 h1.1.2 (hi_36.2 (less_r hU hk hn).2), num_mk, rfl⟩
end
section
variable {ts : List Rn} {l : List Int} {r : Rn} {k wt many dt : Int}
/-- VtimeWeighs, told by what is reckoned. -/
structure WeighFacts (ts : List Rn) (k wt many : Int) (r : Rn) : Prop where
  U : r.U
  get : getQ ts k = some r
  get2 : getQ (weighV ts [k] wt many).1 k = some (weighF wt many r).1
  U2 : (weighF wt many r).1.U
  tt : (weighF wt many r).1.t = (overV r.t wt).1
  tw : (overV r.t wt).1.w = wt
  Uo : (overV r.t wt).1.U
  ge : 0 ≤ cmpF (overV r.t wt).1 r.t
  ls : (lessV (overV r.t wt).1 1).2 = 0
  lt : ¬ ((overV r.t wt).1.hi = 0 ∧ (overV r.t wt).1.lo = 0) → cmpF (lessV (overV r.t wt).1 1).1 r.t < 0
  err : (weighV (weighV ts [k] wt many).1 [k] r.tw r.each).2 = 0 ∨ (weighV (weighV ts [k] wt many).1 [k] r.tw r.each).2 = 131
  back : (weighV (weighV ts [k] wt many).1 [k] r.tw r.each).2 = 0 → getQ (weighV (weighV ts [k] wt many).1 [k] r.tw r.each).1 k = some (weighF r.tw r.each (weighF wt many r).1).1 ∧ 0 ≤ cmpF (overV (overV r.t wt).1 r.tw).1 r.t
end
end Go.Proofs.Ytnhkecfapohlgaa

/-! The statement VtimeWeighs, walked. -/
namespace Go.Proofs.Ytnhkecfapohlgaa
open Go Go.RowKit
structure Wd where
 hi : Int
 lo : Int
deriving DecidableEq
end Go.Proofs.Ytnhkecfapohlgaa

/-! Queues: Clip. -/
namespace Go.Proofs.Ytnhkecfapohlgaa
open Go Go.RowKit

set_option maxRecDepth 100000 in
theorem clip_t (p : Option Addr) (n cap : Nat) (ts : List Rn) (w : World)
 (hts : Sv w p ts) (hn : n = ts.length) (hb : n ≤ 1000)
 (hU : ∀ r ∈ ts, r.U)
 : Calls Try.prog 29 #[.agg #[.slice p n cap]] w fun e w' => ∃ q' n' c' Y q2' m' c2' Z, e = .returned (.tuple #[.agg #[.slice q' n' c'], .slice q2' m' c2', .int .i64 (clipV ts).2.2]) ∧ SlO 35 Y q' n' c' (clipV ts).1 ∧ SlO 3 Z q2' m' c2' (clipV ts).2.1 ∧ Below w.heap.size w w' ∧ Hs w (Y ++ Z) w' := by
 refine enter (Hs.start w) Try.func29 rfl Try.ntmps29 rfl (sq_ (ma0 [] [] (fun γ1 => [(1, .pointer (some ⟨γ1 0, 0, none⟩)), (2, .pointer (some ⟨γ1 1, 0, none⟩))]) (fun γ1 L => bx (γ1 1) (#[.slice none 0 0]) 24 :: bx (γ1 0) (#[.slice p n cap]) 24 :: L) (fun γ1 => ds_ (sq_ (ma0 [] [1, 2] (fun γ2 => [(5, .pointer (some ⟨γ2 0, 0, none⟩))]) (fun γ2 L => bx (γ2 0) (#[.slice none 0 0]) 41 :: L) (fun γ2 => ds_ (sq_ (ao_ (qo0 2 [(0, .go (owns 2 0 1))] [2, 5] [(9, .agg #[.slice p n cap]), (10, .func (.func 63) #[] #[.pointer (some ⟨γ2 0, 0, none⟩)])] (ops_inline (g := 56) (args := #[.agg #[.slice p n cap], .func (.func 63) #[] #[.pointer (some ⟨γ2 0, 0, none⟩)]]) (by kernel_rfl) (by kernel_rfl) (by kernel_rfl) (fun args w => Try.call56 args w) Try.func56 rfl Try.ntmps56 rfl (sq_ (ma0 [] [1] (fun γ4 => [(2, .pointer (some ⟨γ4 0, 0, none⟩)), (4, .pointer (some ⟨γ4 1, 0, none⟩))]) (fun γ4 L => bx (γ4 1) (#[.slice none 0 0]) 24 :: bx (γ4 0) (#[.slice p n cap]) 24 :: L) (fun γ4 => ds_ (sq_ (sq_ (ao_ (qo0 1 [(0, .go (owns 1 0 1))] [1, 2, 4] [(9, .agg #[.slice p n cap])] ?_)))))))))))))))))
 rcases q6 : chkQ ts with _ | _
 ·
  refine cD (.int .i64 200) Try.call20 (fun w hw => by have := qcheck_t p n cap ts w (hts.kept hw.below) hn (by omega); rw [q6] at this; exact this) (qo0 1 [] [1, 2, 4] [(6, .int .i64 200)] (on_ (ds_ (sq_ (qa0 [] [1, 2, 4, 6] [(12, .bool true)] (ds_ (t_ (sq_ (qa0 [(2, .go (owns 0 0 1))] [4] [(5, .int .i64 200)] (ds_ (bk (owns 0 0 1) (.tuple #[.agg #[.slice none 0 0], .int .i64 200]) (mo0 6 [(7, .go (owns 0 0 1))] [2, 5] (fun γ10 => [(6, .pointer (some ⟨γ10 0, 0, none⟩)), (7, .int .i64 200)]) (fun γ10 L => bx (γ10 0) (#[.slice none 0 0]) 24 :: L) (fun γ10 => on_ (ds_ (sq_ (sq_ (qa0 [] [2, 5, 6, 7] [(15, .bool true)] (ds_ (t_ (qa0 [(0, .go (owns 3 0 1))] [2, 5, 6, 7] [] (ds_ (sq_ ?_))))))))))))))))))))))
  refine at_any (by kernel_rfl) ?_
  refine tk (m := 5) [2] [] [2, 5, 6] [(18, .int .i64 200)] ([]) #[false, false, true, false, false, false] al0 ?_
  refine any_cutX (V := Unit) (fun _ => True) 0 #[true, true, true, true, true, true] (fun _ => [(2, .pointer (some ⟨γ1 1, 0, none⟩)), (3, .slice none 0 0), (4, .int .i64 200)]) (fun _ => [bx (γ10 0) (#[.slice none 0 0]) 24, bx (γ4 1) (#[.slice none 0 0]) 24, bx (γ4 0) (#[.slice p n cap]) 24, bx (γ2 0) (#[.slice none 0 0]) 41, bx (γ1 1) (#[.slice none 0 0]) 24, bx (γ1 0) (#[.slice p n cap]) 24]) ?_ (fun hmx5 => ?_)
  rotate_left
  ·
   refine any_cutX (V := Unit) (fun _ => True) 3 #[true, false, true, true, false, false] (fun _ => [(2, .pointer (some ⟨γ1 1, 0, none⟩)), (5, .pointer (some ⟨γ2 0, 0, none⟩)), (18, .int .i64 200)]) (fun _ => [bx (γ10 0) (#[.slice none 0 0]) 24, bx (γ4 1) (#[.slice none 0 0]) 24, bx (γ4 0) (#[.slice p n cap]) 24, bx (γ2 0) (#[.slice none 0 0]) 41, bx (γ1 1) (#[.slice none 0 0]) 24, bx (γ1 0) (#[.slice p n cap]) 24]) ?_ (fun hmx4 => ?_)
   ·
    rintro _ _
    refine a1 1 rfl ?_
    refine qo0 1 [(1, .go (owns 3 0 1))] [2, 18] [(17, .slice none 0 0)] ?_
    refine od_ ?_
    refine tk (m := 0) [4, 5] [] [2] [(3, .slice none 0 0), (4, .int .i64 200)] ([]) #[true, true, true, true, true, true] al0 ?_
    exact wk (hmx5 () trivial) [2, 3, 4] [[_], [_], [_], [_], [_], [_]] [0, 1, 2, 3, 4, 5] rfl rfl
   refine any_cutX (V := Unit) (fun _ => True) 3 #[true, true, true, false, false, false] (fun _ => [(2, .pointer (some ⟨γ1 1, 0, none⟩)), (16, .agg #[.slice none 0 0]), (17, .slice none 0 0), (18, .int .i64 200)]) (fun _ => [bx (γ10 0) (#[.slice none 0 0]) 24, bx (γ4 1) (#[.slice none 0 0]) 24, bx (γ4 0) (#[.slice p n cap]) 24, bx (γ2 0) (#[.slice none 0 0]) 41, bx (γ1 1) (#[.slice none 0 0]) 24, bx (γ1 0) (#[.slice p n cap]) 24]) ?_ (fun hmx3 => ?_)
   ·
    rintro _ _
    refine a1 3 rfl ?_
    refine qo0 1 [(3, .go (owns 4 0 1))] [2, 17, 18] [] ?_
    refine od_ ?_
    refine tk (m := 0) [4, 5] [] [2] [(3, .slice none 0 0), (4, .int .i64 200)] ([]) #[true, true, true, true, true, true] al0 ?_
    exact wk (hmx5 () trivial) [2, 3, 4] [[_], [_], [_], [_], [_], [_]] [0, 1, 2, 3, 4, 5] rfl rfl
   refine any_cutX (V := Unit) (fun _ => True) 4 #[false, true, true, false, false, false] (fun _ => [(2, .pointer (some ⟨γ1 1, 0, none⟩)), (6, .pointer (some ⟨γ10 0, 0, none⟩)), (17, .slice none 0 0), (18, .int .i64 200)]) (fun _ => [bx (γ10 0) (#[.slice none 0 0]) 24, bx (γ4 1) (#[.slice none 0 0]) 24, bx (γ4 0) (#[.slice p n cap]) 24, bx (γ2 0) (#[.slice none 0 0]) 41, bx (γ1 1) (#[.slice none 0 0]) 24, bx (γ1 0) (#[.slice p n cap]) 24]) ?_ (fun hmx2 => ?_)
   ·
    rintro _ _
    refine a1 0 rfl ?_
    refine qo0 1 [(0, .go (owns 0 0 1))] [2, 17, 18] [(16, .agg #[.slice none 0 0])] ?_
    refine od_ ?_
    exact wk (hmx3 () trivial) [2, 16, 17, 18] [[_], [_], [_], [_], [_], [_]] [0, 1, 2, 3, 4, 5] rfl rfl
   refine any_cutX (V := Unit) (fun _ => True) 4 #[true, false, true, false, false, false] (fun _ => [(2, .pointer (some ⟨γ1 1, 0, none⟩)), (5, .pointer (some ⟨γ2 0, 0, none⟩)), (16, .agg #[.slice none 0 0]), (18, .int .i64 200)]) (fun _ => [bx (γ10 0) (#[.slice none 0 0]) 24, bx (γ4 1) (#[.slice none 0 0]) 24, bx (γ4 0) (#[.slice p n cap]) 24, bx (γ2 0) (#[.slice none 0 0]) 41, bx (γ1 1) (#[.slice none 0 0]) 24, bx (γ1 0) (#[.slice p n cap]) 24]) ?_ (fun hmx1 => ?_)
   ·
    rintro _ _
    refine any_fork [1, 3] (by kernel_rfl) (by simp) (each_cons _ rfl ?_ (each_cons _ rfl ?_ (each_nil)))
    ·
     refine qo0 1 [(1, .go (owns 3 0 1))] [2, 16, 18] [(17, .slice none 0 0)] ?_
     refine od_ ?_
     exact wk (hmx3 () trivial) [2, 16, 17, 18] [[_], [_], [_], [_], [_], [_]] [0, 1, 2, 3, 4, 5] rfl rfl
    ·
     refine qo0 1 [(3, .go (owns 4 0 1))] [2, 5, 18] [] ?_
     refine od_ ?_
     exact wk (hmx4 () trivial) [2, 5, 18] [[_], [_], [_], [_], [_], [_]] [0, 1, 2, 3, 4, 5] rfl rfl
   refine any_fork [0, 1] (by kernel_rfl) (by simp) (each_cons _ rfl ?_ (each_cons _ rfl ?_ (each_nil)))
   ·
    refine qo0 1 [(0, .go (owns 0 0 1))] [2, 5, 18] [(16, .agg #[.slice none 0 0])] ?_
    refine od_ ?_
    exact wk (hmx1 () trivial) [2, 5, 16, 18] [[_], [_], [_], [_], [_], [_]] [0, 1, 2, 3, 4, 5] rfl rfl
   ·
    refine qo0 1 [(1, .go (owns 3 0 1))] [2, 6, 18] [(17, .slice none 0 0)] ?_
    refine od_ ?_
    exact wk (hmx2 () trivial) [2, 6, 17, 18] [[_], [_], [_], [_], [_], [_]] [0, 1, 2, 3, 4, 5] rfl rfl
  rintro _ _
  refine any_nil (by kernel_rfl) ?_
  refine ds_ (rt (owns 4 0 1) (.tuple #[.agg #[.slice none 0 0], .slice none 0 0, .int .i64 200]) ?_)
  exact fun w' hw => by rw [clip_bad q6]; exact ⟨none, 0, 0, [], none, 0, 0, [], rfl, SlO.nil, SlO.nil, hw.below, hw.sub (List.nil_sublist _)⟩
 ·
  refine cD (.int .i64 0) Try.call20 (fun w hw => by have := qcheck_t p n cap ts w (hts.kept hw.below) hn (by omega); rw [q6] at this; exact this) (qo0 1 [] [1, 2, 4] [(6, .int .i64 0)] (on_ (ds_ (sq_ (qa0 [] [1, 2, 4, 6] [(12, .bool false)] (ds_ (f_ (at_skip (ds_ (sq_ ?_))))))))))
  have hgq := chk_iff.1 q6
  have hlq := hgq.len
  refine ao_ (qo0 2 [(1, .go (owns 1 0 1))] [1, 4] [(16, .slice p n cap)] (cP (fun v L' => ∃ q_ c_ Y_, v = .slice q_ n c_ ∧ L' = List.take 5 ([bx (γ4 1) (#[.slice none 0 0]) 24, bx (γ4 0) (#[.slice p n cap]) 24, bx (γ2 0) (#[.slice none 0 0]) 41, bx (γ1 1) (#[.slice none 0 0]) 24, bx (γ1 0) (#[.slice p n cap]) 24]) ++ (Y_ ++ List.drop 5 ([bx (γ4 1) (#[.slice none 0 0]) 24, bx (γ4 0) (#[.slice p n cap]) 24, bx (γ2 0) (#[.slice none 0 0]) 41, bx (γ1 1) (#[.slice none 0 0]) 24, bx (γ1 0) (#[.slice p n cap]) 24])) ∧ SlO 35 Y_ q_ n c_ ts) Try.call78 (fun w hw => (qclone_t p n cap ts w (hts.kept hw.below) hn (by omega)).mono fun e w' ⟨q_, c_, Y_, he, hO, hb, hY⟩ => ⟨_, _, he, ⟨q_, c_, Y_, rfl, rfl, hO⟩, hw.join hb hY 5⟩) ?_))
  rintro v181 L181 ⟨q181, cq181, Y181, rfl, rfl, hO181⟩
  refine mo0 3 [(5, .go (owns 0 0 1))] [1, 4] (fun γ182 => [(7, .pointer (some ⟨γ182 0, 0, none⟩))]) (fun γ182 L => bx (γ182 0) (#[.slice q181 n cq181]) 24 :: L) (fun γ182 => on_ (ds_ (sq_ (sq_ (ao_ (qo0 1 [] [4, 7] [(19, .func (.func 63) #[] #[.pointer (some ⟨γ2 0, 0, none⟩)])] (ops_inline (g := 63) (args := #[.pointer (some ⟨γ182 0, 0, none⟩), .pointer (some ⟨γ2 0, 0, none⟩)]) (by kernel_rfl) (by kernel_rfl) (by kernel_rfl) (fun args w => Try.call63 args w) Try.func63 rfl Try.ntmps63 rfl (sq_ (qa0 [] [0, 1] [] (ds_ (sq_ (ao_ (qo0 3 [(2, .go (owns 0 0 1))] [0, 1] [(13, .agg #[.slice q181 n cq181])] (cD (.tuple #[.agg #[.int .u64 ((topV ts).1.hi), .int .u64 ((topV ts).1.lo), .int .u64 ((topV ts).1.w)], .bool ((topV ts).2)]) Try.call49 (fun w hw => top_t q181 n cq181 ts w (hO181.atN (A := [_, _, _, _, _, _]) hw) hO181.len (by omega) hU) (mo0 6 [(8, .go (owns 0 0 3))] [0, 1] (fun γ186 => [(4, .pointer (some ⟨γ186 0, 0, none⟩))]) (fun γ186 L => bx (γ186 0) (#[.int .u64 ((topV ts).1.hi), .int .u64 ((topV ts).1.lo), .int .u64 ((topV ts).1.w)]) 33 :: L) (fun γ186 => on_ (ds_ (sq_ (sq_ (qa0 [(3, .go (owns 1 0 1))] [0, 1, 4] [(20, .slice q181 n cq181), (21, .int .i64 (n : Nat)), (22, .int .i64 0)] (ds_ (at_block (at_loop (α := Nat × List Ob × List Ob × Option Addr × Nat × Nat) [0, 1, 4, 20, 21, 22] (fun ⟨j, Yq, Yo, po, nu, co⟩ => [(0, .pointer (some ⟨γ182 0, 0, none⟩)), (1, .pointer (some ⟨γ2 0, 0, none⟩)), (4, .pointer (some ⟨γ186 0, 0, none⟩)), (20, .slice q181 n cq181), (21, .int .i64 (n : Nat)), (22, .int .i64 (j : Nat))]) (fun ⟨j, Yq, Yo, po, nu, co⟩ => bx (γ186 0) (#[.int .u64 ((topV ts).1.hi), .int .u64 ((topV ts).1.lo), .int .u64 ((topV ts).1.w)]) 33 :: bx (γ182 0) (#[.slice q181 n cq181]) 24 :: bx (γ4 1) (#[.slice none 0 0]) 24 :: bx (γ4 0) (#[.slice p n cap]) 24 :: bx (γ2 0) (#[.slice po nu co]) 41 :: bx (γ1 1) (#[.slice none 0 0]) 24 :: bx (γ1 0) (#[.slice p n cap]) 24 :: (Yq ++ (Yo ++ []))) (fun ⟨j, Yq, Yo, po, nu, co⟩ => j ≤ n ∧ (∀ y ∈ ts.take j, clE (topV ts).1 y = 0) ∧ nu ≤ j ∧ SlO 35 Yq q181 n cq181 (mapTo (clR (topV ts).1) ts j) ∧ SlO 3 Yo po nu co (outTo (chg (topV ts).1) ts j)) (fun ⟨j, Yq, Yo, po, nu, co⟩ => n - j) (0, Y181, [], none, 0, 0) (by kernel_rfl) rfl ⟨Nat.zero_le _, all_take0T, Nat.le_refl _, by rw [mapTo_zero]; exact hO181, SlO.nil⟩ ?_)))))))))))))))))))))))
  rintro ⟨j, Yq, Yo, po, nu, co⟩
  rintro ⟨hj, hz, hnu, hOq, hOo⟩
  have hOqn := hOq.len
  have hmtl : (mapTo (clR (topV ts).1) ts j).length = ts.length := mapTo_len
  refine sq_ ?_
  by_cases q189 : ((j : Nat) : Int) < ((n : Nat) : Int)
  ·
   refine qa [(0, .yes)] [0, 1, 4, 20, 21, 22] [(23, .bool true)] ([((j : Nat) : Int) < ((n : Nat) : Int)]) (al1 q189) (ds_ (sq_ (t_ (at_skip (ds_ (sq_ (at_block (sq_ ?_))))))))
   have hln192 := hOq.len
   obtain ⟨g192, cs192, rfl, rfl, hOw192⟩ := hOq.rowOf (i := j) (by omega)
   obtain ⟨x194, hx194⟩ := get_some (l := (mapTo (clR (topV ts).1) ts j)) (m := j) (by omega)
   have htsx194 : ts[j]? = some x194 := by rw [← mapTo_get (g := (clR (topV ts).1))]; exact hx194
   have hUx194 := hU x194 (List.mem_of_getElem? htsx194)
   refine ma [(1, .at g192 0 j), (2, .go (ownps 7 (0 + j * 5) [.int .i64 x194.id, .int .i64 x194.each, .int .u64 x194.th, .int .u64 x194.tl, .int .u64 x194.tw])), (5, .go (owns 0 0 5))] [0, 1, 4, 20, 21, 22] (fun γ195 => [(6, .int .i64 (j : Nat)), (7, .pointer (some ⟨γ195 0, 0, none⟩))]) (fun γ195 L => bx (γ195 0) (#[.int .i64 x194.id, .int .i64 x194.each, .int .u64 x194.th, .int .u64 x194.tl, .int .u64 x194.tw]) 35 :: L) (fun γ195 => [(some ⟨g192, 0, none⟩ : Option Addr) = some ⟨g192, 0, none⟩, (j : Nat) = ((j : Nat) : Int), j < n] ++ (acellsP cs192 (0 + j * 5) [.int .i64 x194.id, .int .i64 x194.each, .int .u64 x194.th, .int .u64 x194.tl, .int .u64 x194.tw])) (fun γ195 => (alA (al2 rfl (al2 rfl (al1 (by omega)))) (rda_pre (hOw192.rdx hOq.len hx194) _ rfl))) (fun γ195 => ds_ (sq_ (ao_ (qo0 3 [(1, .go (owns 0 2 3)), (2, .go (owns 1 0 3))] [0, 1, 4, 6, 7, 20, 21, 22] [(29, .agg #[.int .u64 x194.th, .int .u64 x194.tl, .int .u64 x194.tw]), (30, .agg #[.int .u64 ((topV ts).1.hi), .int .u64 ((topV ts).1.lo), .int .u64 ((topV ts).1.w)])] (cD (.tuple #[.agg #[.int .u64 ((raiseV x194.t ((topV ts).1) 268435456).1.hi), .int .u64 ((raiseV x194.t ((topV ts).1) 268435456).1.lo), .int .u64 ((raiseV x194.t ((topV ts).1) 268435456).1.w)], .int .i64 ((raiseV x194.t ((topV ts).1) 268435456).2)]) Try.call64 (fun w hw => fraise_t x194.t ((topV ts).1) 268435456 w hUx194.t (topV_U hU) (by omega) (by omega)) (mo0 6 [(8, .go (owns 0 0 3))] [0, 1, 4, 6, 7, 20, 21, 22] (fun γ197 => [(8, .pointer (some ⟨γ197 0, 0, none⟩)), (9, .int .i64 ((raiseV x194.t ((topV ts).1) 268435456).2))]) (fun γ197 L => bx (γ197 0) (#[.int .u64 ((raiseV x194.t ((topV ts).1) 268435456).1.hi), .int .u64 ((raiseV x194.t ((topV ts).1) 268435456).1.lo), .int .u64 ((raiseV x194.t ((topV ts).1) 268435456).1.w)]) 33 :: L) (fun γ197 => on_ (ds_ (sq_ (sq_ ?_))))))))))
   by_cases q199 : ((raiseV x194.t ((topV ts).1) 268435456).2 : Int) ≠ (0 : Int)
   ·
    refine qa [(1, .yes)] [0, 1, 4, 6, 7, 8, 9, 20, 21, 22] [(35, .bool true)] ([((raiseV x194.t ((topV ts).1) 268435456).2 : Int) ≠ (0 : Int)]) (al1 q199) (ds_ (t_ (sq_ (qa0 [] [] [(3, .int .i64 ((raiseV x194.t ((topV ts).1) 268435456).2))] (ds_ (bk ([]) (.int .i64 ((raiseV x194.t ((topV ts).1) 268435456).2)) (qo0 1 [] [4, 7] [(8, .int .i64 ((raiseV x194.t ((topV ts).1) 268435456).2))] (on_ (ds_ (sq_ (qa [(1, .yes)] [4, 7, 8] [(22, .bool true)] ([((raiseV x194.t ((topV ts).1) 268435456).2 : Int) ≠ (0 : Int)]) (al1 q199) (ds_ (t_ (sq_ (qa0 [(2, .go (owns 4 0 1))] [4] [(5, .int .i64 ((raiseV x194.t ((topV ts).1) 268435456).2))] (ds_ (bk (owns 4 0 1) (.tuple #[.agg #[.slice none 0 0], .int .i64 ((raiseV x194.t ((topV ts).1) 268435456).2)]) (mo0 6 [(7, .go (owns 0 0 1))] [2, 5] (fun γ205 => [(6, .pointer (some ⟨γ205 0, 0, none⟩)), (7, .int .i64 ((raiseV x194.t ((topV ts).1) 268435456).2))]) (fun γ205 L => bx (γ205 0) (#[.slice none 0 0]) 24 :: L) (fun γ205 => on_ (ds_ (sq_ (sq_ (qa [(1, .yes)] [2, 5, 6, 7] [(15, .bool true)] ([((raiseV x194.t ((topV ts).1) 268435456).2 : Int) ≠ (0 : Int)]) (al1 q199) (ds_ (t_ (ma0 [(0, .go (owns 7 0 1))] [2, 5, 6, 7] (fun _ => []) (fun _ L => (L.set 7 (bx (γ2 0) (#[.slice none 0 0]) 41))) (fun _ => ds_ (sq_ ?_))))))))))))))))))))))))))))
    refine at_any (by kernel_rfl) ?_
    refine tk (m := 5) [2] [] [2, 5, 6] [(18, .int .i64 ((raiseV x194.t ((topV ts).1) 268435456).2))] ([]) #[false, false, true, false, false, false] al0 ?_
    refine any_cutX (V := Unit) (fun _ => True) 0 #[true, true, true, true, true, true] (fun _ => [(2, .pointer (some ⟨γ1 1, 0, none⟩)), (3, .slice none 0 0), (4, .int .i64 ((raiseV x194.t ((topV ts).1) 268435456).2))]) (fun _ => bx (γ205 0) (#[.slice none 0 0]) 24 :: bx (γ197 0) (#[.int .u64 ((raiseV x194.t ((topV ts).1) 268435456).1.hi), .int .u64 ((raiseV x194.t ((topV ts).1) 268435456).1.lo), .int .u64 ((raiseV x194.t ((topV ts).1) 268435456).1.w)]) 33 :: bx (γ195 0) (#[.int .i64 x194.id, .int .i64 x194.each, .int .u64 x194.th, .int .u64 x194.tl, .int .u64 x194.tw]) 35 :: bx (γ186 0) (#[.int .u64 ((topV ts).1.hi), .int .u64 ((topV ts).1.lo), .int .u64 ((topV ts).1.w)]) 33 :: bx (γ182 0) (#[.slice (some ⟨g192, 0, none⟩) n cq181]) 24 :: bx (γ4 1) (#[.slice none 0 0]) 24 :: bx (γ4 0) (#[.slice p n cap]) 24 :: bx (γ2 0) (#[.slice none 0 0]) 41 :: bx (γ1 1) (#[.slice none 0 0]) 24 :: bx (γ1 0) (#[.slice p n cap]) 24 :: bx g192 cs192 35 :: (Yo ++ [])) ?_ (fun hmx5 => ?_)
    rotate_left
    ·
     refine any_cutX (V := Unit) (fun _ => True) 3 #[true, false, true, true, false, false] (fun _ => [(2, .pointer (some ⟨γ1 1, 0, none⟩)), (5, .pointer (some ⟨γ2 0, 0, none⟩)), (18, .int .i64 ((raiseV x194.t ((topV ts).1) 268435456).2))]) (fun _ => bx (γ205 0) (#[.slice none 0 0]) 24 :: bx (γ197 0) (#[.int .u64 ((raiseV x194.t ((topV ts).1) 268435456).1.hi), .int .u64 ((raiseV x194.t ((topV ts).1) 268435456).1.lo), .int .u64 ((raiseV x194.t ((topV ts).1) 268435456).1.w)]) 33 :: bx (γ195 0) (#[.int .i64 x194.id, .int .i64 x194.each, .int .u64 x194.th, .int .u64 x194.tl, .int .u64 x194.tw]) 35 :: bx (γ186 0) (#[.int .u64 ((topV ts).1.hi), .int .u64 ((topV ts).1.lo), .int .u64 ((topV ts).1.w)]) 33 :: bx (γ182 0) (#[.slice (some ⟨g192, 0, none⟩) n cq181]) 24 :: bx (γ4 1) (#[.slice none 0 0]) 24 :: bx (γ4 0) (#[.slice p n cap]) 24 :: bx (γ2 0) (#[.slice none 0 0]) 41 :: bx (γ1 1) (#[.slice none 0 0]) 24 :: bx (γ1 0) (#[.slice p n cap]) 24 :: bx g192 cs192 35 :: (Yo ++ [])) ?_ (fun hmx4 => ?_)
     ·
      rintro _ _
      refine a1 1 rfl ?_
      refine qo0 1 [(1, .go (owns 7 0 1))] [2, 18] [(17, .slice none 0 0)] ?_
      refine od_ ?_
      refine tk (m := 0) [4, 5] [] [2] [(3, .slice none 0 0), (4, .int .i64 ((raiseV x194.t ((topV ts).1) 268435456).2))] ([]) #[true, true, true, true, true, true] al0 ?_
      exact wk (hmx5 () trivial) [2, 3, 4] [[_], [_], [_], [_], [_], [_], [_], [_], [_], [_], [_], _] [0, 1, 2, 3, 4, 5, 6, 7, 8, 9, 10, 11] rfl rfl
     refine any_cutX (V := Unit) (fun _ => True) 3 #[true, true, true, false, false, false] (fun _ => [(2, .pointer (some ⟨γ1 1, 0, none⟩)), (16, .agg #[.slice none 0 0]), (17, .slice none 0 0), (18, .int .i64 ((raiseV x194.t ((topV ts).1) 268435456).2))]) (fun _ => bx (γ205 0) (#[.slice none 0 0]) 24 :: bx (γ197 0) (#[.int .u64 ((raiseV x194.t ((topV ts).1) 268435456).1.hi), .int .u64 ((raiseV x194.t ((topV ts).1) 268435456).1.lo), .int .u64 ((raiseV x194.t ((topV ts).1) 268435456).1.w)]) 33 :: bx (γ195 0) (#[.int .i64 x194.id, .int .i64 x194.each, .int .u64 x194.th, .int .u64 x194.tl, .int .u64 x194.tw]) 35 :: bx (γ186 0) (#[.int .u64 ((topV ts).1.hi), .int .u64 ((topV ts).1.lo), .int .u64 ((topV ts).1.w)]) 33 :: bx (γ182 0) (#[.slice (some ⟨g192, 0, none⟩) n cq181]) 24 :: bx (γ4 1) (#[.slice none 0 0]) 24 :: bx (γ4 0) (#[.slice p n cap]) 24 :: bx (γ2 0) (#[.slice none 0 0]) 41 :: bx (γ1 1) (#[.slice none 0 0]) 24 :: bx (γ1 0) (#[.slice p n cap]) 24 :: bx g192 cs192 35 :: (Yo ++ [])) ?_ (fun hmx3 => ?_)
     ·
      rintro _ _
      refine a1 3 rfl ?_
      refine qo0 1 [(3, .go (owns 8 0 1))] [2, 17, 18] [] ?_
      refine od_ ?_
      refine tk (m := 0) [4, 5] [] [2] [(3, .slice none 0 0), (4, .int .i64 ((raiseV x194.t ((topV ts).1) 268435456).2))] ([]) #[true, true, true, true, true, true] al0 ?_
      exact wk (hmx5 () trivial) [2, 3, 4] [[_], [_], [_], [_], [_], [_], [_], [_], [_], [_], [_], _] [0, 1, 2, 3, 4, 5, 6, 7, 8, 9, 10, 11] rfl rfl
     refine any_cutX (V := Unit) (fun _ => True) 4 #[false, true, true, false, false, false] (fun _ => [(2, .pointer (some ⟨γ1 1, 0, none⟩)), (6, .pointer (some ⟨γ205 0, 0, none⟩)), (17, .slice none 0 0), (18, .int .i64 ((raiseV x194.t ((topV ts).1) 268435456).2))]) (fun _ => bx (γ205 0) (#[.slice none 0 0]) 24 :: bx (γ197 0) (#[.int .u64 ((raiseV x194.t ((topV ts).1) 268435456).1.hi), .int .u64 ((raiseV x194.t ((topV ts).1) 268435456).1.lo), .int .u64 ((raiseV x194.t ((topV ts).1) 268435456).1.w)]) 33 :: bx (γ195 0) (#[.int .i64 x194.id, .int .i64 x194.each, .int .u64 x194.th, .int .u64 x194.tl, .int .u64 x194.tw]) 35 :: bx (γ186 0) (#[.int .u64 ((topV ts).1.hi), .int .u64 ((topV ts).1.lo), .int .u64 ((topV ts).1.w)]) 33 :: bx (γ182 0) (#[.slice (some ⟨g192, 0, none⟩) n cq181]) 24 :: bx (γ4 1) (#[.slice none 0 0]) 24 :: bx (γ4 0) (#[.slice p n cap]) 24 :: bx (γ2 0) (#[.slice none 0 0]) 41 :: bx (γ1 1) (#[.slice none 0 0]) 24 :: bx (γ1 0) (#[.slice p n cap]) 24 :: bx g192 cs192 35 :: (Yo ++ [])) ?_ (fun hmx2 => ?_)
     ·
      rintro _ _
      refine a1 0 rfl ?_
      refine qo0 1 [(0, .go (owns 0 0 1))] [2, 17, 18] [(16, .agg #[.slice none 0 0])] ?_
      refine od_ ?_
      exact wk (hmx3 () trivial) [2, 16, 17, 18] [[_], [_], [_], [_], [_], [_], [_], [_], [_], [_], [_], _] [0, 1, 2, 3, 4, 5, 6, 7, 8, 9, 10, 11] rfl rfl
     refine any_cutX (V := Unit) (fun _ => True) 4 #[true, false, true, false, false, false] (fun _ => [(2, .pointer (some ⟨γ1 1, 0, none⟩)), (5, .pointer (some ⟨γ2 0, 0, none⟩)), (16, .agg #[.slice none 0 0]), (18, .int .i64 ((raiseV x194.t ((topV ts).1) 268435456).2))]) (fun _ => bx (γ205 0) (#[.slice none 0 0]) 24 :: bx (γ197 0) (#[.int .u64 ((raiseV x194.t ((topV ts).1) 268435456).1.hi), .int .u64 ((raiseV x194.t ((topV ts).1) 268435456).1.lo), .int .u64 ((raiseV x194.t ((topV ts).1) 268435456).1.w)]) 33 :: bx (γ195 0) (#[.int .i64 x194.id, .int .i64 x194.each, .int .u64 x194.th, .int .u64 x194.tl, .int .u64 x194.tw]) 35 :: bx (γ186 0) (#[.int .u64 ((topV ts).1.hi), .int .u64 ((topV ts).1.lo), .int .u64 ((topV ts).1.w)]) 33 :: bx (γ182 0) (#[.slice (some ⟨g192, 0, none⟩) n cq181]) 24 :: bx (γ4 1) (#[.slice none 0 0]) 24 :: bx (γ4 0) (#[.slice p n cap]) 24 :: bx (γ2 0) (#[.slice none 0 0]) 41 :: bx (γ1 1) (#[.slice none 0 0]) 24 :: bx (γ1 0) (#[.slice p n cap]) 24 :: bx g192 cs192 35 :: (Yo ++ [])) ?_ (fun hmx1 => ?_)
     ·
      rintro _ _
      refine any_fork [1, 3] (by kernel_rfl) (by simp) (each_cons _ rfl ?_ (each_cons _ rfl ?_ (each_nil)))
      ·
       refine qo0 1 [(1, .go (owns 7 0 1))] [2, 16, 18] [(17, .slice none 0 0)] ?_
       refine od_ ?_
       exact wk (hmx3 () trivial) [2, 16, 17, 18] [[_], [_], [_], [_], [_], [_], [_], [_], [_], [_], [_], _] [0, 1, 2, 3, 4, 5, 6, 7, 8, 9, 10, 11] rfl rfl
      ·
       refine qo0 1 [(3, .go (owns 8 0 1))] [2, 5, 18] [] ?_
       refine od_ ?_
       exact wk (hmx4 () trivial) [2, 5, 18] [[_], [_], [_], [_], [_], [_], [_], [_], [_], [_], [_], _] [0, 1, 2, 3, 4, 5, 6, 7, 8, 9, 10, 11] rfl rfl
     refine any_fork [0, 1] (by kernel_rfl) (by simp) (each_cons _ rfl ?_ (each_cons _ rfl ?_ (each_nil)))
     ·
      refine qo0 1 [(0, .go (owns 0 0 1))] [2, 5, 18] [(16, .agg #[.slice none 0 0])] ?_
      refine od_ ?_
      exact wk (hmx1 () trivial) [2, 5, 16, 18] [[_], [_], [_], [_], [_], [_], [_], [_], [_], [_], [_], _] [0, 1, 2, 3, 4, 5, 6, 7, 8, 9, 10, 11] rfl rfl
     ·
      refine qo0 1 [(1, .go (owns 7 0 1))] [2, 6, 18] [(17, .slice none 0 0)] ?_
      refine od_ ?_
      exact wk (hmx2 () trivial) [2, 6, 17, 18] [[_], [_], [_], [_], [_], [_], [_], [_], [_], [_], [_], _] [0, 1, 2, 3, 4, 5, 6, 7, 8, 9, 10, 11] rfl rfl
    rintro _ _
    refine any_nil (by kernel_rfl) ?_
    refine ds_ (rt (owns 8 0 1) (.tuple #[.agg #[.slice none 0 0], .slice none 0 0, .int .i64 ((raiseV x194.t ((topV ts).1) 268435456).2)]) ?_)
    have hne : clE (topV ts).1 x194 ≠ 0 := q199
    have her := errL_at hz htsx194 hne
    exact fun w' hw => by rw [clip_err q6 (by rw [her]; exact hne), her]; exact ⟨none, 0, 0, [], none, 0, 0, [], rfl, SlO.nil, SlO.nil, hw.below, hw.sub (List.nil_sublist _)⟩
   ·
    refine qa [(1, .no)] [0, 1, 4, 6, 7, 8, 9, 20, 21, 22] [(35, .bool false)] ([¬ (((raiseV x194.t ((topV ts).1) 268435456).2 : Int) ≠ (0 : Int))]) (al1 q199) (ds_ (f_ (at_skip (ds_ (sq_ ?_)))))
    by_cases q375 : (raiseV x194.t ((topV ts).1) 268435456).1 = x194.t
    ·
     refine qa [(0, .go (owns 0 0 3)), (2, .go (owns 1 2 3)), (3, .eqs false)] [0, 1, 4, 6, 7, 8, 20, 21, 22] [(40, .bool false)] ([EqRun Try.prog .neq 33 (.tmp 37) (.tmp 39) (.agg #[.int .u64 ((raiseV x194.t ((topV ts).1) 268435456).1.hi), .int .u64 ((raiseV x194.t ((topV ts).1) 268435456).1.lo), .int .u64 ((raiseV x194.t ((topV ts).1) 268435456).1.w)]) (.agg #[.int .u64 x194.th, .int .u64 x194.tl, .int .u64 x194.tw]) false]) (al1 (fq_ne_t (a := (raiseV x194.t ((topV ts).1) 268435456).1) (b := x194.t) q375)) (ds_ (f_ (at_skip (done_block (ds_ (qa [(0, .fit)] [0, 1, 4, 20, 21] [(22, .int .i64 (j + 1 : Nat))] ([Fit .i64 ((j + 1 : Nat))]) (al1 (fit64 (by omega) (by omega))) (Done.pick [[bx (γ197 0) (#[.int .u64 ((raiseV x194.t ((topV ts).1) 268435456).1.hi), .int .u64 ((raiseV x194.t ((topV ts).1) 268435456).1.lo), .int .u64 ((raiseV x194.t ((topV ts).1) 268435456).1.w)]) 33], [bx (γ195 0) (#[.int .i64 x194.id, .int .i64 x194.each, .int .u64 x194.th, .int .u64 x194.tl, .int .u64 x194.tw]) 35], [bx (γ186 0) (#[.int .u64 ((topV ts).1.hi), .int .u64 ((topV ts).1.lo), .int .u64 ((topV ts).1.w)]) 33], [bx (γ182 0) (#[.slice (some ⟨g192, 0, none⟩) n cq181]) 24], [bx (γ4 1) (#[.slice none 0 0]) 24], [bx (γ4 0) (#[.slice p n cap]) 24], [bx (γ2 0) (#[.slice po nu co]) 41], [bx (γ1 1) (#[.slice none 0 0]) 24], [bx (γ1 0) (#[.slice p n cap]) 24], [bx g192 cs192 35], Yo] [2, 3, 4, 5, 6, 7, 8, 9, 10] [0, 1] (bx (γ186 0) (#[.int .u64 ((topV ts).1.hi), .int .u64 ((topV ts).1.lo), .int .u64 ((topV ts).1.w)]) 33 :: bx (γ182 0) (#[.slice (some ⟨g192, 0, none⟩) n cq181]) 24 :: bx (γ4 1) (#[.slice none 0 0]) 24 :: bx (γ4 0) (#[.slice p n cap]) 24 :: bx (γ2 0) (#[.slice po nu co]) 41 :: bx (γ1 1) (#[.slice none 0 0]) 24 :: bx (γ1 0) (#[.slice p n cap]) 24 :: ([bx g192 cs192 35] ++ (Yo ++ []))) (by kernel_rfl) rfl rfl ?_)))))))
     exact dr [0, 1, 4, 20, 21, 22] (j + 1, [bx g192 cs192 35], Yo, po, nu, co) ⟨by omega, all_onT hz htsx194 (show clE (topV ts).1 x194 = 0 from by unfold clE; omega), by omega, by rw [mapTo_same htsx194 (clR_same q375)]; exact hOq, by rw [outTo_no htsx194 (chg_no q375)]; exact hOo⟩
    ·
     refine qa [(0, .go (owns 0 0 3)), (2, .go (owns 1 2 3)), (3, .eqs true)] [0, 1, 4, 6, 7, 8, 20, 21, 22] [(40, .bool true)] ([EqRun Try.prog .neq 33 (.tmp 37) (.tmp 39) (.agg #[.int .u64 ((raiseV x194.t ((topV ts).1) 268435456).1.hi), .int .u64 ((raiseV x194.t ((topV ts).1) 268435456).1.lo), .int .u64 ((raiseV x194.t ((topV ts).1) 268435456).1.w)]) (.agg #[.int .u64 x194.th, .int .u64 x194.tl, .int .u64 x194.tw]) true]) (al1 (fq_ne_f (a := (raiseV x194.t ((topV ts).1) 268435456).1) (b := x194.t) q375)) (ds_ (t_ (sq_ (ao_ (mo0 4 [(0, .go (owns 6 0 1)), (2, .go (owns 1 0 1))] [0, 1, 4, 6, 8, 20, 21, 22] (fun γ379 => [(41, .slice po nu co), (44, .slice (some ⟨γ379 0, 0, none⟩) 1 1)]) (fun γ379 L => bx (γ379 0) (#[.int .i64 x194.id]) 3 :: L) (fun γ379 => ops_append (α := Int) [bx (γ379 0) (#[.int .i64 x194.id]) 3, bx (γ197 0) (#[.int .u64 ((raiseV x194.t ((topV ts).1) 268435456).1.hi), .int .u64 ((raiseV x194.t ((topV ts).1) 268435456).1.lo), .int .u64 ((raiseV x194.t ((topV ts).1) 268435456).1.w)]) 33, bx (γ195 0) (#[.int .i64 x194.id, .int .i64 x194.each, .int .u64 x194.th, .int .u64 x194.tl, .int .u64 x194.tw]) 35, bx (γ186 0) (#[.int .u64 ((topV ts).1.hi), .int .u64 ((topV ts).1.lo), .int .u64 ((topV ts).1.w)]) 33, bx (γ182 0) (#[.slice (some ⟨g192, 0, none⟩) n cq181]) 24, bx (γ4 1) (#[.slice none 0 0]) 24, bx (γ4 0) (#[.slice p n cap]) 24, bx (γ2 0) (#[.slice po nu co]) 41, bx (γ1 1) (#[.slice none 0 0]) 24, bx (γ1 0) (#[.slice p n cap]) 24, bx g192 cs192 35] Yo ([]) (.refl _) rfl (by kernel_rfl) (by kernel_rfl) (p := po) (n := nu) (cap := co) (m := 1) (yv := .slice (some ⟨γ379 0, 0, none⟩) 1 1) (by kernel_rfl) (by kernel_rfl) (T := 3) (by_ := 8) (by kernel_rfl) (outTo (chg (topV ts).1) ts j) ([x194.id]) hOo (fun w hw => src_svn Try.underlying41 (sv_row (hw.row 0 rfl) (by rfl)) (by rfl)) (by rfl) (by have hmx : maxLen = 9223372036854775807 := rfl; omega) (by have hmx : maxLen = 9223372036854775807 := rfl; omega) (fun Y380 p380 cap380 hO380 => mo0 1 [(5, .go (owns 7 0 1))] [0, 1, 4, 6, 8, 20, 21, 22] (fun _ => []) (fun _ L => (L.set 7 (bx (γ2 0) (#[.slice p380 (nu + 1) cap380]) 41))) (fun _ => on_ (ds_ (at_calmTo (f := 1) 8 rfl (by kernel_rfl) (by kernel_rfl) (by kernel_rfl) (by kernel_rfl) (by kernel_rfl) (by kernel_rfl) ?_))))))))))
     refine cm 8 [(3, .go (owns 4 0 1)), (5, .go (owns 1 0 3)), (6, .at g192 0 j)] [0, 1, 4, 20, 21, 22] [(51, .agg #[.int .u64 ((raiseV x194.t ((topV ts).1) 268435456).1.hi), .int .u64 ((raiseV x194.t ((topV ts).1) 268435456).1.lo), .int .u64 ((raiseV x194.t ((topV ts).1) 268435456).1.w)]), (53, .pointer (some ⟨g192, 0 + j * 5 + 2, none⟩))] ([(some ⟨g192, 0, none⟩ : Option Addr) = some ⟨g192, 0, none⟩, (j : Nat) = ((j : Nat) : Int), j < n]) (by kernel_rfl) rfl (al2 rfl (al2 rfl (al1 (by omega)))) ?_
     refine calm_nil' ?_
     refine done_pre (li' := #[true, true, true, true, true, true, true, true, false]) (by kernel_rfl) ?_
     refine a1 8 rfl ?_
     refine mo 1 [(8, .go (ownps 10 (0 + j * 5 + 2) [undef, undef, undef]))] [0, 1, 4, 20, 21, 22] (fun _ => []) (fun _ L => (L.set 10 (bx g192 ((((cs192).setIfInBounds (0 + j * 5 + 2) (.int .u64 ((raiseV x194.t ((topV ts).1) 268435456).1.hi))).setIfInBounds (0 + j * 5 + 2 + 1) (.int .u64 ((raiseV x194.t ((topV ts).1) 268435456).1.lo))).setIfInBounds (0 + j * 5 + 2 + 2) (.int .u64 ((raiseV x194.t ((topV ts).1) 268435456).1.w))) 35))) (fun _ => [0 + j * 5 + 2 < (cs192).size] ++ ([0 + j * 5 + 2 + 1 < ((cs192).setIfInBounds (0 + j * 5 + 2) (.int .u64 ((raiseV x194.t ((topV ts).1) 268435456).1.hi))).size] ++ ([0 + j * 5 + 2 + 2 < (((cs192).setIfInBounds (0 + j * 5 + 2) (.int .u64 ((raiseV x194.t ((topV ts).1) 268435456).1.hi))).setIfInBounds (0 + j * 5 + 2 + 1) (.int .u64 ((raiseV x194.t ((topV ts).1) 268435456).1.lo))).size]))) (fun _ => (alA (al1 (by exact hOw192.room hOq.len hx194 (f := 2) (by decide))) (alA (al1 (by have hrm := hOw192.room hOq.len hx194 (f := 3) (by decide); simp only [Array.size_setIfInBounds] at hrm ⊢; exact hrm)) (al1 (by have hrm := hOw192.room hOq.len hx194 (f := 4) (by decide); simp only [Array.size_setIfInBounds] at hrm ⊢; exact hrm))))) (fun _ => ?_)
     refine od_ ?_
     refine any_nil (by kernel_rfl) ?_
     refine done_block (ds_ (qa [(0, .fit)] [0, 1, 4, 20, 21] [(22, .int .i64 (j + 1 : Nat))] ([Fit .i64 ((j + 1 : Nat))]) (al1 (fit64 (by omega) (by omega))) (Done.pick [[bx (γ379 0) (#[.int .i64 x194.id]) 3], [bx (γ197 0) (#[.int .u64 ((raiseV x194.t ((topV ts).1) 268435456).1.hi), .int .u64 ((raiseV x194.t ((topV ts).1) 268435456).1.lo), .int .u64 ((raiseV x194.t ((topV ts).1) 268435456).1.w)]) 33], [bx (γ195 0) (#[.int .i64 x194.id, .int .i64 x194.each, .int .u64 x194.th, .int .u64 x194.tl, .int .u64 x194.tw]) 35], [bx (γ186 0) (#[.int .u64 ((topV ts).1.hi), .int .u64 ((topV ts).1.lo), .int .u64 ((topV ts).1.w)]) 33], [bx (γ182 0) (#[.slice (some ⟨g192, 0, none⟩) n cq181]) 24], [bx (γ4 1) (#[.slice none 0 0]) 24], [bx (γ4 0) (#[.slice p n cap]) 24], [bx (γ2 0) (#[.slice p380 (nu + 1) cap380]) 41], [bx (γ1 1) (#[.slice none 0 0]) 24], [bx (γ1 0) (#[.slice p n cap]) 24], [bx g192 ((((cs192).setIfInBounds (0 + j * 5 + 2) (.int .u64 ((raiseV x194.t ((topV ts).1) 268435456).1.hi))).setIfInBounds (0 + j * 5 + 2 + 1) (.int .u64 ((raiseV x194.t ((topV ts).1) 268435456).1.lo))).setIfInBounds (0 + j * 5 + 2 + 2) (.int .u64 ((raiseV x194.t ((topV ts).1) 268435456).1.w))) 35], Y380] [3, 4, 5, 6, 7, 8, 9, 10, 11] [0, 1, 2] (bx (γ186 0) (#[.int .u64 ((topV ts).1.hi), .int .u64 ((topV ts).1.lo), .int .u64 ((topV ts).1.w)]) 33 :: bx (γ182 0) (#[.slice (some ⟨g192, 0, none⟩) n cq181]) 24 :: bx (γ4 1) (#[.slice none 0 0]) 24 :: bx (γ4 0) (#[.slice p n cap]) 24 :: bx (γ2 0) (#[.slice p380 (nu + 1) cap380]) 41 :: bx (γ1 1) (#[.slice none 0 0]) 24 :: bx (γ1 0) (#[.slice p n cap]) 24 :: ([bx g192 ((((cs192).setIfInBounds (0 + j * 5 + 2) (.int .u64 ((raiseV x194.t ((topV ts).1) 268435456).1.hi))).setIfInBounds (0 + j * 5 + 2 + 1) (.int .u64 ((raiseV x194.t ((topV ts).1) 268435456).1.lo))).setIfInBounds (0 + j * 5 + 2 + 2) (.int .u64 ((raiseV x194.t ((topV ts).1) 268435456).1.w))) 35] ++ (Y380 ++ []))) (by kernel_rfl) rfl rfl ?_)))
     exact dr [0, 1, 4, 20, 21, 22] (j + 1, [bx g192 ((((cs192).setIfInBounds (0 + j * 5 + 2) (.int .u64 ((raiseV x194.t ((topV ts).1) 268435456).1.hi))).setIfInBounds (0 + j * 5 + 2 + 1) (.int .u64 ((raiseV x194.t ((topV ts).1) 268435456).1.lo))).setIfInBounds (0 + j * 5 + 2 + 2) (.int .u64 ((raiseV x194.t ((topV ts).1) 268435456).1.w))) 35], Y380, p380, (nu + 1), cap380) ⟨by omega, all_onT hz htsx194 (show clE (topV ts).1 x194 = 0 from by unfold clE; omega), by omega, by rw [mapTo_on htsx194]; exact (SlO.ofOwn (hOw192.put3 (x' := (⟨x194.id, x194.each, (raiseV x194.t ((topV ts).1) 268435456).1.hi, (raiseV x194.t ((topV ts).1) 268435456).1.lo, (raiseV x194.t ((topV ts).1) 268435456).1.w⟩ : Rn)) (f := 2) hOq.len hx194 (by decide) ⟨(⟨x194.id, x194.each, (raiseV x194.t ((topV ts).1) 268435456).1.hi, x194.tl, x194.tw⟩ : Rn), rfl⟩ ⟨(⟨x194.id, x194.each, (raiseV x194.t ((topV ts).1) 268435456).1.hi, (raiseV x194.t ((topV ts).1) 268435456).1.lo, x194.tw⟩ : Rn), rfl⟩ rfl) (len_set hOq.len)), by rw [outTo_yes htsx194 (chg_yes q375)]; exact hO380⟩
  ·
   refine qa [(0, .no)] [0, 1, 4, 20, 21, 22] [(23, .bool false)] ([¬ (((j : Nat) : Int) < ((n : Nat) : Int))]) (al1 q189) (ds_ (sq_ (f_ (at_leave _ rfl (ds_ (sq_ (qa0 [] [] [(3, .int .i64 0)] (ds_ (bk ([]) (.int .i64 0) (qo0 1 [] [4, 7] [(8, .int .i64 0)] (on_ (ds_ (sq_ (qa0 [] [4, 7, 8] [(22, .bool false)] (ds_ (f_ (at_skip (ds_ (sq_ (ma0 [(0, .go (owns 1 0 1)), (1, .go (owns 2 0 1))] [4] (fun _ => [(5, .int .i64 0)]) (fun _ L => (L.set 2 (bx (γ4 1) (#[.slice q181 n cq181]) 24))) (fun _ => ds_ (bk (owns 2 0 1) (.tuple #[.agg #[.slice q181 n cq181], .int .i64 0]) (mo0 6 [(7, .go (owns 0 0 1))] [2, 5] (fun γ391 => [(6, .pointer (some ⟨γ391 0, 0, none⟩)), (7, .int .i64 0)]) (fun γ391 L => bx (γ391 0) (#[.slice q181 n cq181]) 24 :: L) (fun γ391 => on_ (ds_ (sq_ (sq_ (qa0 [] [2, 5, 6, 7] [(15, .bool false)] (ds_ (f_ (at_skip (ds_ (sq_ ?_)))))))))))))))))))))))))))))))))
   refine at_any (by kernel_rfl) ?_
   refine tk (m := 5) [2] [] [2, 5, 6] [(18, .int .i64 0)] ([]) #[false, false, true, false, false, false] al0 ?_
   refine any_cutX (V := Unit) (fun _ => True) 0 #[true, true, true, true, true, true] (fun _ => [(2, .pointer (some ⟨γ1 1, 0, none⟩)), (3, .slice po nu co), (4, .int .i64 0)]) (fun _ => bx (γ391 0) (#[.slice q181 n cq181]) 24 :: bx (γ186 0) (#[.int .u64 ((topV ts).1.hi), .int .u64 ((topV ts).1.lo), .int .u64 ((topV ts).1.w)]) 33 :: bx (γ182 0) (#[.slice q181 n cq181]) 24 :: bx (γ4 1) (#[.slice q181 n cq181]) 24 :: bx (γ4 0) (#[.slice p n cap]) 24 :: bx (γ2 0) (#[.slice po nu co]) 41 :: bx (γ1 1) (#[.slice q181 n cq181]) 24 :: bx (γ1 0) (#[.slice p n cap]) 24 :: (Yq ++ (Yo ++ []))) ?_ (fun hmx5 => ?_)
   rotate_left
   ·
    refine any_cutX (V := Unit) (fun _ => True) 3 #[true, false, true, true, false, false] (fun _ => [(2, .pointer (some ⟨γ1 1, 0, none⟩)), (5, .pointer (some ⟨γ2 0, 0, none⟩)), (18, .int .i64 0)]) (fun _ => bx (γ391 0) (#[.slice q181 n cq181]) 24 :: bx (γ186 0) (#[.int .u64 ((topV ts).1.hi), .int .u64 ((topV ts).1.lo), .int .u64 ((topV ts).1.w)]) 33 :: bx (γ182 0) (#[.slice q181 n cq181]) 24 :: bx (γ4 1) (#[.slice q181 n cq181]) 24 :: bx (γ4 0) (#[.slice p n cap]) 24 :: bx (γ2 0) (#[.slice po nu co]) 41 :: bx (γ1 1) (#[.slice q181 n cq181]) 24 :: bx (γ1 0) (#[.slice p n cap]) 24 :: (Yq ++ (Yo ++ []))) ?_ (fun hmx4 => ?_)
    ·
     rintro _ _
     refine a1 1 rfl ?_
     refine qo0 1 [(1, .go (owns 5 0 1))] [2, 18] [(17, .slice po nu co)] ?_
     refine od_ ?_
     refine tk (m := 0) [4, 5] [] [2] [(3, .slice po nu co), (4, .int .i64 0)] ([]) #[true, true, true, true, true, true] al0 ?_
     exact wk (hmx5 () trivial) [2, 3, 4] [[_], [_], [_], [_], [_], [_], [_], [_], _, _] [0, 1, 2, 3, 4, 5, 6, 7, 8, 9] rfl rfl
    refine any_cutX (V := Unit) (fun _ => True) 3 #[true, true, true, false, false, false] (fun _ => [(2, .pointer (some ⟨γ1 1, 0, none⟩)), (16, .agg #[.slice q181 n cq181]), (17, .slice po nu co), (18, .int .i64 0)]) (fun _ => bx (γ391 0) (#[.slice q181 n cq181]) 24 :: bx (γ186 0) (#[.int .u64 ((topV ts).1.hi), .int .u64 ((topV ts).1.lo), .int .u64 ((topV ts).1.w)]) 33 :: bx (γ182 0) (#[.slice q181 n cq181]) 24 :: bx (γ4 1) (#[.slice q181 n cq181]) 24 :: bx (γ4 0) (#[.slice p n cap]) 24 :: bx (γ2 0) (#[.slice po nu co]) 41 :: bx (γ1 1) (#[.slice none 0 0]) 24 :: bx (γ1 0) (#[.slice p n cap]) 24 :: (Yq ++ (Yo ++ []))) ?_ (fun hmx3 => ?_)
    ·
     rintro _ _
     refine a1 3 rfl ?_
     refine mo0 1 [(3, .go (owns 6 0 1))] [2, 17, 18] (fun _ => []) (fun _ L => (L.set 6 (bx (γ1 1) (#[.slice q181 n cq181]) 24))) (fun _ => ?_)
     refine od_ ?_
     refine tk (m := 0) [4, 5] [] [2] [(3, .slice po nu co), (4, .int .i64 0)] ([]) #[true, true, true, true, true, true] al0 ?_
     exact wk (hmx5 () trivial) [2, 3, 4] [[_], [_], [_], [_], [_], [_], [_], [_], _, _] [0, 1, 2, 3, 4, 5, 6, 7, 8, 9] rfl rfl
    refine any_cutX (V := Unit) (fun _ => True) 4 #[false, true, true, false, false, false] (fun _ => [(2, .pointer (some ⟨γ1 1, 0, none⟩)), (6, .pointer (some ⟨γ391 0, 0, none⟩)), (17, .slice po nu co), (18, .int .i64 0)]) (fun _ => bx (γ391 0) (#[.slice q181 n cq181]) 24 :: bx (γ186 0) (#[.int .u64 ((topV ts).1.hi), .int .u64 ((topV ts).1.lo), .int .u64 ((topV ts).1.w)]) 33 :: bx (γ182 0) (#[.slice q181 n cq181]) 24 :: bx (γ4 1) (#[.slice q181 n cq181]) 24 :: bx (γ4 0) (#[.slice p n cap]) 24 :: bx (γ2 0) (#[.slice po nu co]) 41 :: bx (γ1 1) (#[.slice none 0 0]) 24 :: bx (γ1 0) (#[.slice p n cap]) 24 :: (Yq ++ (Yo ++ []))) ?_ (fun hmx2 => ?_)
    ·
     rintro _ _
     refine a1 0 rfl ?_
     refine qo0 1 [(0, .go (owns 0 0 1))] [2, 17, 18] [(16, .agg #[.slice q181 n cq181])] ?_
     refine od_ ?_
     exact wk (hmx3 () trivial) [2, 16, 17, 18] [[_], [_], [_], [_], [_], [_], [_], [_], _, _] [0, 1, 2, 3, 4, 5, 6, 7, 8, 9] rfl rfl
    refine any_cutX (V := Unit) (fun _ => True) 4 #[true, false, true, false, false, false] (fun _ => [(2, .pointer (some ⟨γ1 1, 0, none⟩)), (5, .pointer (some ⟨γ2 0, 0, none⟩)), (16, .agg #[.slice q181 n cq181]), (18, .int .i64 0)]) (fun _ => bx (γ391 0) (#[.slice q181 n cq181]) 24 :: bx (γ186 0) (#[.int .u64 ((topV ts).1.hi), .int .u64 ((topV ts).1.lo), .int .u64 ((topV ts).1.w)]) 33 :: bx (γ182 0) (#[.slice q181 n cq181]) 24 :: bx (γ4 1) (#[.slice q181 n cq181]) 24 :: bx (γ4 0) (#[.slice p n cap]) 24 :: bx (γ2 0) (#[.slice po nu co]) 41 :: bx (γ1 1) (#[.slice none 0 0]) 24 :: bx (γ1 0) (#[.slice p n cap]) 24 :: (Yq ++ (Yo ++ []))) ?_ (fun hmx1 => ?_)
    ·
     rintro _ _
     refine any_fork [1, 3] (by kernel_rfl) (by simp) (each_cons _ rfl ?_ (each_cons _ rfl ?_ (each_nil)))
     ·
      refine qo0 1 [(1, .go (owns 5 0 1))] [2, 16, 18] [(17, .slice po nu co)] ?_
      refine od_ ?_
      exact wk (hmx3 () trivial) [2, 16, 17, 18] [[_], [_], [_], [_], [_], [_], [_], [_], _, _] [0, 1, 2, 3, 4, 5, 6, 7, 8, 9] rfl rfl
     ·
      refine mo0 1 [(3, .go (owns 6 0 1))] [2, 5, 18] (fun _ => []) (fun _ L => (L.set 6 (bx (γ1 1) (#[.slice q181 n cq181]) 24))) (fun _ => ?_)
      refine od_ ?_
      exact wk (hmx4 () trivial) [2, 5, 18] [[_], [_], [_], [_], [_], [_], [_], [_], _, _] [0, 1, 2, 3, 4, 5, 6, 7, 8, 9] rfl rfl
    refine any_fork [0, 1] (by kernel_rfl) (by simp) (each_cons _ rfl ?_ (each_cons _ rfl ?_ (each_nil)))
    ·
     refine qo0 1 [(0, .go (owns 0 0 1))] [2, 5, 18] [(16, .agg #[.slice q181 n cq181])] ?_
     refine od_ ?_
     exact wk (hmx1 () trivial) [2, 5, 16, 18] [[_], [_], [_], [_], [_], [_], [_], [_], _, _] [0, 1, 2, 3, 4, 5, 6, 7, 8, 9] rfl rfl
    ·
     refine qo0 1 [(1, .go (owns 5 0 1))] [2, 6, 18] [(17, .slice po nu co)] ?_
     refine od_ ?_
     exact wk (hmx2 () trivial) [2, 6, 17, 18] [[_], [_], [_], [_], [_], [_], [_], [_], _, _] [0, 1, 2, 3, 4, 5, 6, 7, 8, 9] rfl rfl
   rintro _ _
   refine any_nil (by kernel_rfl) ?_
   refine ds_ (rt (owns 6 0 1) (.tuple #[.agg #[.slice q181 n cq181], .slice po nu co, .int .i64 0]) ?_)
   rw [mapTo_all (by omega)] at hOq
   rw [outTo_all (by omega)] at hOo
   exact fun w' hw => by rw [clip_ok q6 (errL_end hz (by omega))]; exact ⟨_, _, _, _, _, _, _, _, rfl, hOq, hOo, hw.below, two_tails (Hs.pick [[bx (γ391 0) (#[.slice q181 n cq181]) 24], [bx (γ186 0) (#[.int .u64 ((topV ts).1.hi), .int .u64 ((topV ts).1.lo), .int .u64 ((topV ts).1.w)]) 33], [bx (γ182 0) (#[.slice q181 n cq181]) 24], [bx (γ4 1) (#[.slice q181 n cq181]) 24], [bx (γ4 0) (#[.slice p n cap]) 24], [bx (γ2 0) (#[.slice po nu co]) 41], [bx (γ1 1) (#[.slice q181 n cq181]) 24], [bx (γ1 0) (#[.slice p n cap]) 24], Yq, Yo] [8, 9] [0, 1, 2, 3, 4, 5, 6, 7] (by kernel_rfl) hw)⟩
end Go.Proofs.Ytnhkecfapohlgaa
