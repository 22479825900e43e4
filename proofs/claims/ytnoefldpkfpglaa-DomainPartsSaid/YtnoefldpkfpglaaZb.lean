/- Texts of this proof, one behind the other. -/
import Derived.Test.YtnoefldpkfpglaaZa
import Derived.Test.YtnoefldpkfpglaaProg
import Derived.MapKept
import Derived.Laws.MakeOwn
/-! Domains: the small ones. -/
namespace Go.Proofs.Ytnoefldpkfpglaa
open Go Go.RowKit
def cmpI (a b : Int) : Int := if a < b then -1 else if a > b then 1 else 0
theorem cmpI_iff (a b : Int) : (cmpI a b < 0 ↔ a < b) ∧ (cmpI a b = 0 ↔ a = b) := by unfold cmpI; constructor <;> constructor <;> intro h <;> (repeat' split at h) <;> (repeat' split) <;> omega
theorem rd_one' {w : World} {g : Nat} {v : Value} {T : TypeId} {f : Nat × Nat} (h : w.heap[g]? = some (.cells #[v] T f)) : Rd w g (0 + 0 * 1) [v] := fun j u hj => by
  match j, hj with
  | 0, hj => rw [show (⟨g, 0 + 0 * 1 + 0, none⟩ : Addr) = ⟨g, 0, none⟩ from rfl, cell_own h]; simpa using hj

set_option maxRecDepth 100000 in
theorem whoid_d (x : Dom) (w : World)
    : Calls Try.prog 70 #[.agg #[.int .i64 x.id, .int .i64 x.weight, .int .i64 x.cap, .int .i64 x.pool]] w fun e w' => e = .returned (.int .i64 x.id) ∧ Below w.heap.size w w' := by
  refine enter (Hs.start w) Try.func70 rfl Try.ntmps70 rfl (sq_ (ma0 [] [] (fun γ1 => [(1, .pointer (some ⟨γ1 0, 0, none⟩))]) (fun γ1 L => bx (γ1 0) (#[.int .i64 x.id, .int .i64 x.weight, .int .i64 x.cap, .int .i64 x.pool]) 96 :: L) (fun γ1 => ds_ (sq_ (qa0 [(1, .go (owns 0 0 1))] [] [(2, .int .i64 x.id)] (ds_ (rt ([]) (.int .i64 x.id) ?_)))))))
  exact fun w' hw => ⟨rfl, hw.below⟩

set_option maxRecDepth 100000 in
theorem did_d (x : Dom) (w : World)
    : Calls Try.prog 42 #[.agg #[.int .i64 x.id, .int .i64 x.weight, .int .i64 x.cap, .int .i64 x.pool]] w fun e w' => e = .returned (.int .i64 x.id) ∧ Below w.heap.size w w' := by
  refine enter (Hs.start w) Try.func42 rfl Try.ntmps42 rfl (sq_ (ma0 [] [] (fun γ1 => [(1, .pointer (some ⟨γ1 0, 0, none⟩))]) (fun γ1 L => bx (γ1 0) (#[.int .i64 x.id, .int .i64 x.weight, .int .i64 x.cap, .int .i64 x.pool]) 32 :: L) (fun γ1 => ds_ (sq_ (ao_ (qo0 1 [(0, .go (owns 0 0 4))] [] [(3, .agg #[.int .i64 x.id, .int .i64 x.weight, .int .i64 x.cap, .int .i64 x.pool])] (cD (.int .i64 x.id) Try.call70 (fun w hw => whoid_d x w) (qo0 1 [] [] [(2, .int .i64 x.id)] (on_ (ds_ (rt ([]) (.int .i64 x.id) ?_)))))))))))
  exact fun w' hw => ⟨rfl, hw.below⟩

set_option maxRecDepth 100000 in
theorem whichid_d (x : Vcp) (w : World)
    : Calls Try.prog 71 #[.agg #[.int .i64 x.id, .int .i64 x.dom, .int .u32 x.hard, .int .u32 x.soft]] w fun e w' => e = .returned (.int .i64 x.id) ∧ Below w.heap.size w w' := by
  refine enter (Hs.start w) Try.func71 rfl Try.ntmps71 rfl (sq_ (ma0 [] [] (fun γ1 => [(1, .pointer (some ⟨γ1 0, 0, none⟩))]) (fun γ1 L => bx (γ1 0) (#[.int .i64 x.id, .int .i64 x.dom, .int .u32 x.hard, .int .u32 x.soft]) 98 :: L) (fun γ1 => ds_ (sq_ (qa0 [(1, .go (owns 0 0 1))] [] [(2, .int .i64 x.id)] (ds_ (rt ([]) (.int .i64 x.id) ?_)))))))
  exact fun w' hw => ⟨rfl, hw.below⟩

set_option maxRecDepth 100000 in
theorem vid_d (x : Vcp) (w : World)
    : Calls Try.prog 44 #[.agg #[.int .i64 x.id, .int .i64 x.dom, .int .u32 x.hard, .int .u32 x.soft]] w fun e w' => e = .returned (.int .i64 x.id) ∧ Below w.heap.size w w' := by
  refine enter (Hs.start w) Try.func44 rfl Try.ntmps44 rfl (sq_ (ma0 [] [] (fun γ1 => [(1, .pointer (some ⟨γ1 0, 0, none⟩))]) (fun γ1 L => bx (γ1 0) (#[.int .i64 x.id, .int .i64 x.dom, .int .u32 x.hard, .int .u32 x.soft]) 43 :: L) (fun γ1 => ds_ (sq_ (ao_ (qo0 1 [(0, .go (owns 0 0 4))] [] [(3, .agg #[.int .i64 x.id, .int .i64 x.dom, .int .u32 x.hard, .int .u32 x.soft])] (cD (.int .i64 x.id) Try.call71 (fun w hw => whichid_d x w) (qo0 1 [] [] [(2, .int .i64 x.id)] (on_ (ds_ (rt ([]) (.int .i64 x.id) ?_)))))))))))
  exact fun w' hw => ⟨rfl, hw.below⟩

set_option maxRecDepth 100000 in
theorem isnan_d (a : Int) (w : World)
    : Calls Try.prog 82 #[.int .i64 a] w fun e w' => e = .returned (.bool false) ∧ Below w.heap.size w w' := by
  refine enter (Hs.start w) Try.func82 rfl Try.ntmps82 rfl (sq_ (qa0 [] [0] [] (ds_ (sq_ (qa [(2, .no)] [] [(2, .bool false)] ([¬ ((a : Int) ≠ (a : Int))]) (al1 ((fun h => h rfl))) (ds_ (rt ([]) (.bool false) ?_)))))))
  exact fun w' hw => ⟨rfl, hw.below⟩

set_option maxRecDepth 100000 in
theorem cmp_d (a b : Int) (w : World)
    : Calls Try.prog 74 #[.int .i64 a, .int .i64 b] w fun e w' => e = .returned (.int .i64 (cmpI a b)) ∧ Below w.heap.size w w' := by
  refine enter (Hs.start w) Try.func74 rfl Try.ntmps74 rfl (sq_ (qa0 [] [0, 1] [] (ds_ (sq_ (ao_ (qo0 1 [] [0, 1] [(7, .int .i64 a)] (cD (.bool false) Try.call82 (fun w hw => isnan_d a w) (qo0 1 [] [0, 1] [(5, .bool false)] (on_ (ds_ (sq_ (ao_ (qo0 1 [] [0, 1, 5] [(9, .int .i64 b)] (cD (.bool false) Try.call82 (fun w hw => isnan_d b w) (qo0 1 [] [0, 1, 5] [(6, .bool false)] (on_ (ds_ (sq_ (sq_ (qa0 [] [0, 1, 6] [(11, .bool false)] (ds_ (f_ (at_skip (ds_ (sq_ (sq_ (qa0 [] [0, 1] [(13, .bool false)] (ds_ (f_ (at_skip (ds_ (sq_ (sq_ ?_)))))))))))))))))))))))))))))))))
  by_cases q9 : (a : Int) < (b : Int)
  ·
    refine qa [(2, .yes)] [0, 1] [(16, .bool true)] ([(a : Int) < (b : Int)]) (al1 q9) (ds_ (t_ (sq_ (qa0 [] [] [(4, .int .i64 (-1))] (ds_ (rt ([]) (.int .i64 (-1)) ?_))))))
    exact fun w' hw => ⟨by rw [show cmpI a b = -1 from by simp only [cmpI, if_pos q9]], hw.below⟩
  ·
    refine qa [(2, .no)] [0, 1] [(16, .bool false)] ([¬ ((a : Int) < (b : Int))]) (al1 q9) (ds_ (f_ (at_skip (ds_ (sq_ (sq_ ?_))))))
    by_cases q14 : (a : Int) > (b : Int)
    ·
      refine qa [(2, .yes)] [] [(19, .bool true)] ([(a : Int) > (b : Int)]) (al1 q14) (ds_ (t_ (sq_ (qa0 [] [] [(4, .int .i64 1)] (ds_ (rt ([]) (.int .i64 1) ?_))))))
      exact fun w' hw => ⟨by rw [show cmpI a b = 1 from by simp only [cmpI, if_neg q9, if_pos q14]], hw.below⟩
    ·
      refine qa [(2, .no)] [] [(19, .bool false)] ([¬ ((a : Int) > (b : Int))]) (al1 q14) (ds_ (f_ (at_skip (ds_ (sq_ (qa0 [] [] [(4, .int .i64 0)] (ds_ (rt ([]) (.int .i64 0) ?_))))))))
      exact fun w' hw => ⟨by rw [show cmpI a b = 0 from by simp only [cmpI, if_neg q9, if_neg q14]], hw.below⟩

set_option maxRecDepth 100000 in
theorem pl1d_d (x : Dom) (k : Int) (g : Nat) (w : World)
    (hk : Rd w g (0 + 0 * 1) [.func (.func 42) #[] #[]])
    : Calls Try.prog 73 #[.agg #[.int .i64 x.id, .int .i64 x.weight, .int .i64 x.cap, .int .i64 x.pool], .int .i64 k, .pointer (some ⟨g, 0 + 0 * 1, none⟩)] w fun e w' => e = .returned (.int .i64 (cmpI x.id k)) ∧ Below w.heap.size w w' := by
  refine enter (Hs.start w) Try.func73 rfl Try.ntmps73 rfl (sq_ (ma0 [] [1, 2] (fun γ1 => [(3, .pointer (some ⟨γ1 0, 0, none⟩))]) (fun γ1 L => bx (γ1 0) (#[.int .i64 x.id, .int .i64 x.weight, .int .i64 x.cap, .int .i64 x.pool]) 32 :: L) (fun γ1 => ds_ (sq_ (ao_ (qo 2 [(0, .go (outs g (0 + 0 * 1) [.func (.func 42) #[] #[]])), (1, .go (owns 0 0 4))] [1] [(6, .func (.func 42) #[] #[]), (7, .agg #[.int .i64 x.id, .int .i64 x.weight, .int .i64 x.cap, .int .i64 x.pool])] (cellsP w g (0 + 0 * 1) [.func (.func 42) #[] #[]]) (rd_pre hk _ rfl) (cD (.int .i64 x.id) Try.call42 (fun w hw => did_d x w) (qo0 1 [] [8] [(9, .int .i64 k)] (cD (.int .i64 (cmpI x.id k)) Try.call74 (fun w hw => cmp_d x.id k w) (qo0 1 [] [] [(5, .int .i64 (cmpI x.id k))] (on_ (ds_ (rt ([]) (.int .i64 (cmpI x.id k)) ?_)))))))))))))
  exact fun w' hw => ⟨rfl, hw.below⟩

set_option maxRecDepth 100000 in
theorem pl1v_d (x : Vcp) (k : Int) (g : Nat) (w : World)
    (hk : Rd w g (0 + 0 * 1) [.func (.func 44) #[] #[]])
    : Calls Try.prog 79 #[.agg #[.int .i64 x.id, .int .i64 x.dom, .int .u32 x.hard, .int .u32 x.soft], .int .i64 k, .pointer (some ⟨g, 0 + 0 * 1, none⟩)] w fun e w' => e = .returned (.int .i64 (cmpI x.id k)) ∧ Below w.heap.size w w' := by
  refine enter (Hs.start w) Try.func79 rfl Try.ntmps79 rfl (sq_ (ma0 [] [1, 2] (fun γ1 => [(3, .pointer (some ⟨γ1 0, 0, none⟩))]) (fun γ1 L => bx (γ1 0) (#[.int .i64 x.id, .int .i64 x.dom, .int .u32 x.hard, .int .u32 x.soft]) 43 :: L) (fun γ1 => ds_ (sq_ (ao_ (qo 2 [(0, .go (outs g (0 + 0 * 1) [.func (.func 44) #[] #[]])), (1, .go (owns 0 0 4))] [1] [(6, .func (.func 44) #[] #[]), (7, .agg #[.int .i64 x.id, .int .i64 x.dom, .int .u32 x.hard, .int .u32 x.soft])] (cellsP w g (0 + 0 * 1) [.func (.func 44) #[] #[]]) (rd_pre hk _ rfl) (cD (.int .i64 x.id) Try.call44 (fun w hw => vid_d x w) (qo0 1 [] [8] [(9, .int .i64 k)] (cD (.int .i64 (cmpI x.id k)) Try.call74 (fun w hw => cmp_d x.id k w) (qo0 1 [] [] [(5, .int .i64 (cmpI x.id k))] (on_ (ds_ (rt ([]) (.int .i64 (cmpI x.id k)) ?_)))))))))))))
  exact fun w' hw => ⟨rfl, hw.below⟩

set_option maxRecDepth 100000 in
theorem bsd (g : FuncId) (cb : Array Value) (p : Option Addr) (n cap : Nat) (l : List Dom) (f c : Dom → Int) (k : Int) (w : World)
    (hg : ∀ args w, (callFunc g args).run Try.prog w = .ok (.enter g args) w)
    (hsl : Sv w p l) (hn : n = l.length) (hb : n ≤ 4611686018427387903)
    (hc : ∀ x ∈ l, ∀ w', Below w.heap.size w w' → Calls Try.prog g (#[.agg #[.int .i64 x.id, .int .i64 x.weight, .int .i64 x.cap, .int .i64 x.pool], .int .i64 k] ++ cb) w' fun e w1 => e = .returned (.int .i64 (c x)) ∧ Below w'.heap.size w' w1)
    (hs : ∀ x ∈ l, (c x < 0 ↔ f x < k) ∧ (c x = 0 ↔ f x = k)) (ha : AscK f l)
    : Calls Try.prog 72 #[.slice p n cap, .int .i64 k, .func (.func g) #[] cb] w fun e w' => e = .returned (.tuple #[.int .i64 (posK f l k : Nat), .bool (hasK f l k)]) ∧ Below w.heap.size w w' := by
  refine enter (Hs.start w) Try.func72 rfl Try.ntmps72 rfl (sq_ (qa0 [] [0, 1, 2] [] (ds_ (sq_ (qa0 [] [0, 1, 2] [(8, .int .i64 ((n : Nat)))] (ds_ (sq_ (qa0 [] [0, 1, 2, 8] [(9, .int .i64 0), (10, .int .i64 ((n : Nat)))] (ds_ (sq_ (at_block (at_loop (α := Nat × Nat) [0, 1, 2, 8, 9, 10] (fun ⟨lo, hi⟩ => [(0, .slice p n cap), (1, .int .i64 k), (2, .func (.func g) #[] cb), (8, .int .i64 ((n : Nat))), (9, .int .i64 ((lo : Nat))), (10, .int .i64 ((hi : Nat)))]) (fun ⟨lo, hi⟩ => []) (fun ⟨lo, hi⟩ => lo ≤ hi ∧ hi ≤ n ∧ BsK f l k lo hi) (fun ⟨lo, hi⟩ => hi - lo) (0, n) (by kernel_rfl) rfl ⟨Nat.zero_le _, Nat.le_refl _, by subst hn; exact bsk_start⟩ ?_))))))))))))
  rintro ⟨lo, hi⟩
  rintro ⟨h1, h2, hI⟩
  refine sq_ (sq_ ?_)
  by_cases q5 : ((lo : Nat) : Int) < ((hi : Nat) : Int)
  ·
    refine qa [(2, .yes)] [0, 1, 2, 8, 9, 10] [(17, .bool true)] ([((lo : Nat) : Int) < ((hi : Nat) : Int)]) (al1 q5) (ds_ (t_ (at_skip (ds_ (at_block (sq_ (qa [(2, .fit), (3, .fit), (4, .is [] (.int .u64 ((lo + hi) / 2 : Nat))), (5, .fit)] [0, 1, 2, 8, 9, 10] [(11, .int .i64 (((lo + hi) / 2 : Nat)))] ([Fit .i64 ((lo + hi : Nat))] ++ ([Fit .u64 ((lo + hi : Nat))] ++ ([Value.int .u64 (Int.fdiv ((lo : Nat) + (hi : Nat)) (2 ^ 1)) = .int .u64 (((lo + hi) / 2 : Nat) : Int)] ++ ([Fit .i64 (((lo + hi) / 2 : Nat))])))) (alA (al1 (fit64 (by omega) (by omega))) (alA (al1 (fitU (by omega) (by omega))) (alA (al1 (half lo hi)) (al1 (fit64 (by omega) (by omega)))))) (ds_ (sq_ ?_)))))))))
    obtain ⟨b9, o9, rfl⟩ := hsl.pos (i := (lo + hi) / 2) (by omega)
    obtain ⟨x11, hx11⟩ := get_some (l := l) (m := (lo + hi) / 2) (by omega)
    refine ao_ (qo 6 [(3, .at b9 o9 ((lo + hi) / 2)), (4, .go (outs b9 (o9 + ((lo + hi) / 2) * 4) [.int .i64 x11.id, .int .i64 x11.weight, .int .i64 x11.cap, .int .i64 x11.pool]))] [0, 1, 2, 8, 9, 10, 11] [(24, .func (.func g) #[] cb), (28, .agg #[.int .i64 x11.id, .int .i64 x11.weight, .int .i64 x11.cap, .int .i64 x11.pool]), (29, .int .i64 k)] ([(some ⟨b9, o9, none⟩ : Option Addr) = some ⟨b9, o9, none⟩, (((lo + hi) / 2 : Nat)) = (((lo + hi) / 2 : Nat) : Int), (lo + hi) / 2 < n] ++ (cellsP w b9 (o9 + ((lo + hi) / 2) * 4) [.int .i64 x11.id, .int .i64 x11.weight, .int .i64 x11.cap, .int .i64 x11.pool])) (alA (al2 rfl (al2 rfl (al1 (by omega)))) (rd_pre (hsl.get hx11) _ rfl)) (cD (.int .i64 (c x11)) hg (fun w hw => hc x11 (List.mem_of_getElem? hx11) w hw.below) ?_))
    by_cases q14 : (c x11 : Int) < (0 : Int)
    ·
      refine qo 1 [(7, .yes)] [0, 1, 2, 8, 9, 10, 11] [(31, .bool true)] ([(c x11 : Int) < (0 : Int)]) (al1 q14) (on_ (ds_ (t_ (qa [(1, .fit)] [0, 1, 2, 8, 10] [(9, .int .i64 (((lo + hi) / 2 + 1 : Nat)))] ([Fit .i64 (((lo + hi) / 2 + 1 : Nat))]) (al1 (fit64 (by omega) (by omega))) (done_block ?_)))))
      exact dr [0, 1, 2, 8, 9, 10] ((lo + hi) / 2 + 1, hi) ⟨by omega, by omega, bsk_low hI ha hx11 ((hs x11 (List.mem_of_getElem? hx11)).1.1 q14)⟩
    ·
      refine qo 1 [(7, .no)] [0, 1, 2, 8, 9, 10, 11] [(31, .bool false)] ([¬ ((c x11 : Int) < (0 : Int))]) (al1 q14) (on_ (ds_ (f_ (qa0 [] [0, 1, 2, 8, 9] [(10, .int .i64 (((lo + hi) / 2 : Nat)))] (done_block ?_)))))
      exact dr [0, 1, 2, 8, 9, 10] (lo, (lo + hi) / 2) ⟨by omega, by omega, bsk_high hI ha hx11 (fun h => q14 ((hs x11 (List.mem_of_getElem? hx11)).1.2 h))⟩
  ·
    refine qa [(2, .no)] [0, 1, 2, 8, 9, 10] [(17, .bool false)] ([¬ (((lo : Nat) : Int) < ((hi : Nat) : Int))]) (al1 q5) (ds_ (f_ (at_leave _ rfl (ds_ (sq_ ?_)))))
    by_cases q21 : ((lo : Nat) : Int) < ((n : Nat) : Int)
    ·
      obtain ⟨b23, o23, rfl⟩ := hsl.pos (i := lo) (by omega)
      obtain ⟨x25, hx25⟩ := get_some (l := l) (m := lo) (by omega)
      refine ao_ (qo 11 [(3, .yes), (8, .at b23 o23 lo), (9, .go (outs b23 (o23 + lo * 4) [.int .i64 x25.id, .int .i64 x25.weight, .int .i64 x25.cap, .int .i64 x25.pool]))] [] [(35, .int .i64 ((lo : Nat))), (39, .bool true), (40, .func (.func g) #[] cb), (44, .agg #[.int .i64 x25.id, .int .i64 x25.weight, .int .i64 x25.cap, .int .i64 x25.pool]), (45, .int .i64 k)] ([((lo : Nat) : Int) < ((n : Nat) : Int)] ++ ([(some ⟨b23, o23, none⟩ : Option Addr) = some ⟨b23, o23, none⟩, ((lo : Nat)) = ((lo : Nat) : Int), lo < n] ++ (cellsP w b23 (o23 + lo * 4) [.int .i64 x25.id, .int .i64 x25.weight, .int .i64 x25.cap, .int .i64 x25.pool]))) (alA (al1 q21) (alA (al2 rfl (al2 rfl (al1 (by omega)))) (rd_pre (hsl.get hx25) _ rfl))) (cD (.int .i64 (c x25)) hg (fun w hw => hc x25 (List.mem_of_getElem? hx25) w hw.below) ?_))
      by_cases q28 : (c x25 : Int) = (0 : Int)
      ·
        refine qo 4 [(12, .yes)] [] [(6, .int .i64 ((lo : Nat))), (7, .bool true)] ([(c x25 : Int) = (0 : Int)]) (al1 q28) (on_ (ds_ (rt ([]) (.tuple #[.int .i64 ((lo : Nat)), .bool true]) ?_)))
        exact fun w' hw => ⟨by rw [bsk_end hI (by omega) h1 (by omega), hask_found hx25 ((hs x25 (List.mem_of_getElem? hx25)).2.1 q28)], hw.below⟩
      ·
        refine qo 4 [(12, .no)] [] [(6, .int .i64 ((lo : Nat))), (7, .bool false)] ([¬ ((c x25 : Int) = (0 : Int))]) (al1 q28) (on_ (ds_ (rt ([]) (.tuple #[.int .i64 ((lo : Nat)), .bool false]) ?_)))
        exact fun w' hw => ⟨by rw [bsk_end hI (by omega) h1 (by omega), hask_other hI (by omega) h1 ha hx25 (fun h => q28 ((hs x25 (List.mem_of_getElem? hx25)).2.2 h))], hw.below⟩
    ·
      refine qa [(3, .no)] [] [(6, .int .i64 ((lo : Nat))), (7, .bool false)] ([¬ (((lo : Nat) : Int) < ((n : Nat) : Int))]) (al1 q21) (ds_ (rt ([]) (.tuple #[.int .i64 ((lo : Nat)), .bool false]) ?_))
      exact fun w' hw => ⟨by rw [bsk_end hI (by omega) h1 (by omega), hask_none hI (by omega) h1 (by omega)], hw.below⟩

set_option maxRecDepth 100000 in
theorem bsv (g : FuncId) (cb : Array Value) (p : Option Addr) (n cap : Nat) (l : List Vcp) (f c : Vcp → Int) (k : Int) (w : World)
    (hg : ∀ args w, (callFunc g args).run Try.prog w = .ok (.enter g args) w)
    (hsl : Sv w p l) (hn : n = l.length) (hb : n ≤ 4611686018427387903)
    (hc : ∀ x ∈ l, ∀ w', Below w.heap.size w w' → Calls Try.prog g (#[.agg #[.int .i64 x.id, .int .i64 x.dom, .int .u32 x.hard, .int .u32 x.soft], .int .i64 k] ++ cb) w' fun e w1 => e = .returned (.int .i64 (c x)) ∧ Below w'.heap.size w' w1)
    (hs : ∀ x ∈ l, (c x < 0 ↔ f x < k) ∧ (c x = 0 ↔ f x = k)) (ha : AscK f l)
    : Calls Try.prog 78 #[.slice p n cap, .int .i64 k, .func (.func g) #[] cb] w fun e w' => e = .returned (.tuple #[.int .i64 (posK f l k : Nat), .bool (hasK f l k)]) ∧ Below w.heap.size w w' := by
  refine enter (Hs.start w) Try.func78 rfl Try.ntmps78 rfl (sq_ (qa0 [] [0, 1, 2] [] (ds_ (sq_ (qa0 [] [0, 1, 2] [(8, .int .i64 ((n : Nat)))] (ds_ (sq_ (qa0 [] [0, 1, 2, 8] [(9, .int .i64 0), (10, .int .i64 ((n : Nat)))] (ds_ (sq_ (at_block (at_loop (α := Nat × Nat) [0, 1, 2, 8, 9, 10] (fun ⟨lo, hi⟩ => [(0, .slice p n cap), (1, .int .i64 k), (2, .func (.func g) #[] cb), (8, .int .i64 ((n : Nat))), (9, .int .i64 ((lo : Nat))), (10, .int .i64 ((hi : Nat)))]) (fun ⟨lo, hi⟩ => []) (fun ⟨lo, hi⟩ => lo ≤ hi ∧ hi ≤ n ∧ BsK f l k lo hi) (fun ⟨lo, hi⟩ => hi - lo) (0, n) (by kernel_rfl) rfl ⟨Nat.zero_le _, Nat.le_refl _, by subst hn; exact bsk_start⟩ ?_))))))))))))
  rintro ⟨lo, hi⟩
  rintro ⟨h1, h2, hI⟩
  refine sq_ (sq_ ?_)
  by_cases q5 : ((lo : Nat) : Int) < ((hi : Nat) : Int)
  ·
    refine qa [(2, .yes)] [0, 1, 2, 8, 9, 10] [(17, .bool true)] ([((lo : Nat) : Int) < ((hi : Nat) : Int)]) (al1 q5) (ds_ (t_ (at_skip (ds_ (at_block (sq_ (qa [(2, .fit), (3, .fit), (4, .is [] (.int .u64 ((lo + hi) / 2 : Nat))), (5, .fit)] [0, 1, 2, 8, 9, 10] [(11, .int .i64 (((lo + hi) / 2 : Nat)))] ([Fit .i64 ((lo + hi : Nat))] ++ ([Fit .u64 ((lo + hi : Nat))] ++ ([Value.int .u64 (Int.fdiv ((lo : Nat) + (hi : Nat)) (2 ^ 1)) = .int .u64 (((lo + hi) / 2 : Nat) : Int)] ++ ([Fit .i64 (((lo + hi) / 2 : Nat))])))) (alA (al1 (fit64 (by omega) (by omega))) (alA (al1 (fitU (by omega) (by omega))) (alA (al1 (half lo hi)) (al1 (fit64 (by omega) (by omega)))))) (ds_ (sq_ ?_)))))))))
    obtain ⟨b9, o9, rfl⟩ := hsl.pos (i := (lo + hi) / 2) (by omega)
    obtain ⟨x11, hx11⟩ := get_some (l := l) (m := (lo + hi) / 2) (by omega)
    refine ao_ (qo 6 [(3, .at b9 o9 ((lo + hi) / 2)), (4, .go (outs b9 (o9 + ((lo + hi) / 2) * 4) [.int .i64 x11.id, .int .i64 x11.dom, .int .u32 x11.hard, .int .u32 x11.soft]))] [0, 1, 2, 8, 9, 10, 11] [(24, .func (.func g) #[] cb), (28, .agg #[.int .i64 x11.id, .int .i64 x11.dom, .int .u32 x11.hard, .int .u32 x11.soft]), (29, .int .i64 k)] ([(some ⟨b9, o9, none⟩ : Option Addr) = some ⟨b9, o9, none⟩, (((lo + hi) / 2 : Nat)) = (((lo + hi) / 2 : Nat) : Int), (lo + hi) / 2 < n] ++ (cellsP w b9 (o9 + ((lo + hi) / 2) * 4) [.int .i64 x11.id, .int .i64 x11.dom, .int .u32 x11.hard, .int .u32 x11.soft])) (alA (al2 rfl (al2 rfl (al1 (by omega)))) (rd_pre (hsl.get hx11) _ rfl)) (cD (.int .i64 (c x11)) hg (fun w hw => hc x11 (List.mem_of_getElem? hx11) w hw.below) ?_))
    by_cases q14 : (c x11 : Int) < (0 : Int)
    ·
      refine qo 1 [(7, .yes)] [0, 1, 2, 8, 9, 10, 11] [(31, .bool true)] ([(c x11 : Int) < (0 : Int)]) (al1 q14) (on_ (ds_ (t_ (qa [(1, .fit)] [0, 1, 2, 8, 10] [(9, .int .i64 (((lo + hi) / 2 + 1 : Nat)))] ([Fit .i64 (((lo + hi) / 2 + 1 : Nat))]) (al1 (fit64 (by omega) (by omega))) (done_block ?_)))))
      exact dr [0, 1, 2, 8, 9, 10] ((lo + hi) / 2 + 1, hi) ⟨by omega, by omega, bsk_low hI ha hx11 ((hs x11 (List.mem_of_getElem? hx11)).1.1 q14)⟩
    ·
      refine qo 1 [(7, .no)] [0, 1, 2, 8, 9, 10, 11] [(31, .bool false)] ([¬ ((c x11 : Int) < (0 : Int))]) (al1 q14) (on_ (ds_ (f_ (qa0 [] [0, 1, 2, 8, 9] [(10, .int .i64 (((lo + hi) / 2 : Nat)))] (done_block ?_)))))
      exact dr [0, 1, 2, 8, 9, 10] (lo, (lo + hi) / 2) ⟨by omega, by omega, bsk_high hI ha hx11 (fun h => q14 ((hs x11 (List.mem_of_getElem? hx11)).1.2 h))⟩
  ·
    refine qa [(2, .no)] [0, 1, 2, 8, 9, 10] [(17, .bool false)] ([¬ (((lo : Nat) : Int) < ((hi : Nat) : Int))]) (al1 q5) (ds_ (f_ (at_leave _ rfl (ds_ (sq_ ?_)))))
    by_cases q21 : ((lo : Nat) : Int) < ((n : Nat) : Int)
    ·
      obtain ⟨b23, o23, rfl⟩ := hsl.pos (i := lo) (by omega)
      obtain ⟨x25, hx25⟩ := get_some (l := l) (m := lo) (by omega)
      refine ao_ (qo 11 [(3, .yes), (8, .at b23 o23 lo), (9, .go (outs b23 (o23 + lo * 4) [.int .i64 x25.id, .int .i64 x25.dom, .int .u32 x25.hard, .int .u32 x25.soft]))] [] [(35, .int .i64 ((lo : Nat))), (39, .bool true), (40, .func (.func g) #[] cb), (44, .agg #[.int .i64 x25.id, .int .i64 x25.dom, .int .u32 x25.hard, .int .u32 x25.soft]), (45, .int .i64 k)] ([((lo : Nat) : Int) < ((n : Nat) : Int)] ++ ([(some ⟨b23, o23, none⟩ : Option Addr) = some ⟨b23, o23, none⟩, ((lo : Nat)) = ((lo : Nat) : Int), lo < n] ++ (cellsP w b23 (o23 + lo * 4) [.int .i64 x25.id, .int .i64 x25.dom, .int .u32 x25.hard, .int .u32 x25.soft]))) (alA (al1 q21) (alA (al2 rfl (al2 rfl (al1 (by omega)))) (rd_pre (hsl.get hx25) _ rfl))) (cD (.int .i64 (c x25)) hg (fun w hw => hc x25 (List.mem_of_getElem? hx25) w hw.below) ?_))
      by_cases q28 : (c x25 : Int) = (0 : Int)
      ·
        refine qo 4 [(12, .yes)] [] [(6, .int .i64 ((lo : Nat))), (7, .bool true)] ([(c x25 : Int) = (0 : Int)]) (al1 q28) (on_ (ds_ (rt ([]) (.tuple #[.int .i64 ((lo : Nat)), .bool true]) ?_)))
        exact fun w' hw => ⟨by rw [bsk_end hI (by omega) h1 (by omega), hask_found hx25 ((hs x25 (List.mem_of_getElem? hx25)).2.1 q28)], hw.below⟩
      ·
        refine qo 4 [(12, .no)] [] [(6, .int .i64 ((lo : Nat))), (7, .bool false)] ([¬ ((c x25 : Int) = (0 : Int))]) (al1 q28) (on_ (ds_ (rt ([]) (.tuple #[.int .i64 ((lo : Nat)), .bool false]) ?_)))
        exact fun w' hw => ⟨by rw [bsk_end hI (by omega) h1 (by omega), hask_other hI (by omega) h1 ha hx25 (fun h => q28 ((hs x25 (List.mem_of_getElem? hx25)).2.2 h))], hw.below⟩
    ·
      refine qa [(3, .no)] [] [(6, .int .i64 ((lo : Nat))), (7, .bool false)] ([¬ (((lo : Nat) : Int) < ((n : Nat) : Int))]) (al1 q21) (ds_ (rt ([]) (.tuple #[.int .i64 ((lo : Nat)), .bool false]) ?_))
      exact fun w' hw => ⟨by rw [bsk_end hI (by omega) h1 (by omega), hask_none hI (by omega) h1 (by omega)], hw.below⟩

set_option maxRecDepth 100000 in
theorem placed_d (p : Option Addr) (n cap : Nat) (ds : List Dom) (k : Int) (w : World)
    (hds : Sv w p ds) (hn : n = ds.length) (hb : n ≤ 1000)
    (ha : Ris Dom.id ds)
    : Calls Try.prog 47 #[.slice p n cap, .int .i64 k, .func (.func 42) #[] #[]] w fun e w' => e = .returned (.tuple #[.int .i64 (posK Dom.id ds k : Nat), .bool (hasK Dom.id ds k)]) ∧ Below w.heap.size w w' := by
  refine enter (Hs.start w) Try.func47 rfl Try.ntmps47 rfl (sq_ (ma0 [] [0, 1] (fun γ1 => [(5, .pointer (some ⟨γ1 0, 0, none⟩))]) (fun γ1 L => bx (γ1 0) (#[.func (.func 42) #[] #[]]) 72 :: L) (fun γ1 => ds_ (sq_ (ao_ (qo0 3 [] [] [(8, .slice p n cap), (9, .int .i64 k), (10, .func (.func 73) #[] #[.pointer (some ⟨γ1 0, 0, none⟩)])] (cD (.tuple #[.int .i64 ((posK Dom.id ds k : Nat)), .bool (hasK Dom.id ds k)]) Try.call72 (fun w hw => bsd 73 #[.pointer (some ⟨γ1 0, 0, none⟩)] p n cap ds Dom.id (fun x => cmpI x.id k) k w Try.call73 (hds.kept hw.below) hn (by omega) (fun x hx w' hb' => pl1d_d x k (γ1 0) w' (rd_one' ((hb'.block _ (hs_lt (hw.row 0 rfl))).trans (hw.row 0 rfl)))) (fun x hx => cmpI_iff x.id k) ha.asc) (qo0 4 [] [] [(6, .int .i64 ((posK Dom.id ds k : Nat))), (7, .bool (hasK Dom.id ds k))] (on_ (ds_ (rt ([]) (.tuple #[.int .i64 ((posK Dom.id ds k : Nat)), .bool (hasK Dom.id ds k)]) ?_)))))))))))
  exact fun w' hw => ⟨rfl, hw.below⟩

set_option maxRecDepth 100000 in
theorem placev_d (q : Option Addr) (m capv : Nat) (vs : List Vcp) (k : Int) (w : World)
    (hvs : Sv w q vs) (hm : m = vs.length) (hmb : m ≤ 1000)
    (ha : Ris Vcp.id vs)
    : Calls Try.prog 56 #[.slice q m capv, .int .i64 k, .func (.func 44) #[] #[]] w fun e w' => e = .returned (.tuple #[.int .i64 (posK Vcp.id vs k : Nat), .bool (hasK Vcp.id vs k)]) ∧ Below w.heap.size w w' := by
  refine enter (Hs.start w) Try.func56 rfl Try.ntmps56 rfl (sq_ (ma0 [] [0, 1] (fun γ1 => [(5, .pointer (some ⟨γ1 0, 0, none⟩))]) (fun γ1 L => bx (γ1 0) (#[.func (.func 44) #[] #[]]) 74 :: L) (fun γ1 => ds_ (sq_ (ao_ (qo0 3 [] [] [(8, .slice q m capv), (9, .int .i64 k), (10, .func (.func 79) #[] #[.pointer (some ⟨γ1 0, 0, none⟩)])] (cD (.tuple #[.int .i64 ((posK Vcp.id vs k : Nat)), .bool (hasK Vcp.id vs k)]) Try.call78 (fun w hw => bsv 79 #[.pointer (some ⟨γ1 0, 0, none⟩)] q m capv vs Vcp.id (fun x => cmpI x.id k) k w Try.call79 (hvs.kept hw.below) hm (by omega) (fun x hx w' hb' => pl1v_d x k (γ1 0) w' (rd_one' ((hb'.block _ (hs_lt (hw.row 0 rfl))).trans (hw.row 0 rfl)))) (fun x hx => cmpI_iff x.id k) ha.asc) (qo0 4 [] [] [(6, .int .i64 ((posK Vcp.id vs k : Nat))), (7, .bool (hasK Vcp.id vs k))] (on_ (ds_ (rt ([]) (.tuple #[.int .i64 ((posK Vcp.id vs k : Nat)), .bool (hasK Vcp.id vs k)]) ?_)))))))))))
  exact fun w' hw => ⟨rfl, hw.below⟩

set_option maxRecDepth 100000 in
theorem risingd_d (p : Option Addr) (n cap : Nat) (ds : List Dom) (w : World)
    (hds : Sv w p ds) (hn : n = ds.length) (hb : n ≤ 1000)
    : Calls Try.prog 41 #[.slice p n cap, .func (.func 42) #[] #[]] w fun e w' => e = .returned (.bool (risK Dom.id ds)) ∧ Below w.heap.size w w' := by
  refine enter (Hs.start w) Try.func41 rfl Try.ntmps41 rfl (sq_ (qa0 [] [0, 1] [] (ds_ (sq_ (sq_ (qa0 [] [0, 1] [(5, .int .i64 1)] (ds_ (at_block (at_loop (α := Nat) [0, 1, 5] (fun j => [(0, .slice p n cap), (1, .func (.func 42) #[] #[]), (5, .int .i64 ((j : Nat)))]) (fun j => []) (fun j => 1 ≤ j ∧ ∀ (t : Nat) (x y : Dom), t + 1 < j → ds[t]? = some x → ds[t + 1]? = some y → x.id < y.id) (fun j => n - j) 1 (by kernel_rfl) rfl ⟨Nat.le_refl _, fun t x y h => by omega⟩ ?_)))))))))
  rintro j
  rintro ⟨hj1, hI⟩
  refine sq_ (sq_ ?_)
  by_cases q4 : ((j : Nat) : Int) < ((n : Nat) : Int)
  ·
    refine qa [(3, .yes)] [0, 1, 5] [(9, .bool true)] ([((j : Nat) : Int) < ((n : Nat) : Int)]) (al1 q4) (ds_ (t_ (at_skip (ds_ (sq_ (at_block (sq_ ?_)))))))
    obtain ⟨b7, o7, rfl⟩ := hds.pos (i := j - 1) (by omega)
    obtain ⟨x9, hx9⟩ := get_some (l := ds) (m := j - 1) (by omega)
    refine at_calm rfl (by kernel_rfl) (by kernel_rfl) ?_
    refine cm 6 [(3, .fit), (4, .at b7 o7 (j - 1)), (5, .go (outs b7 (o7 + (j - 1) * 4) [.int .i64 x9.id, .int .i64 x9.weight, .int .i64 x9.cap, .int .i64 x9.pool]))] [0, 1, 5] [(12, .func (.func 42) #[] #[]), (17, .agg #[.int .i64 x9.id, .int .i64 x9.weight, .int .i64 x9.cap, .int .i64 x9.pool])] ([Fit .i64 (((j : Nat)) - 1)] ++ ([(some ⟨b7, o7, none⟩ : Option Addr) = some ⟨b7, o7, none⟩, (((j : Nat)) - 1) = ((j - 1 : Nat) : Int), j - 1 < n] ++ (cellsP w b7 (o7 + (j - 1) * 4) [.int .i64 x9.id, .int .i64 x9.weight, .int .i64 x9.cap, .int .i64 x9.pool]))) (by kernel_rfl) rfl (alA (al1 (fit64 (by omega) (by omega))) (alA (al2 rfl (al2 (by omega) (al1 (by omega)))) (rd_pre (hds.get hx9) _ rfl))) ?_
    refine cK (.int .i64 x9.id) Try.call42 (fun w hw => did_d x9 w) ?_
    obtain ⟨x12, hx12⟩ := get_some (l := ds) (m := j) (by omega)
    refine cm 5 [(10, .at b7 o7 j), (11, .go (outs b7 (o7 + j * 4) [.int .i64 x12.id, .int .i64 x12.weight, .int .i64 x12.cap, .int .i64 x12.pool]))] [0, 1, 5, 18] [(19, .func (.func 42) #[] #[]), (23, .agg #[.int .i64 x12.id, .int .i64 x12.weight, .int .i64 x12.cap, .int .i64 x12.pool])] ([(some ⟨b7, o7, none⟩ : Option Addr) = some ⟨b7, o7, none⟩, ((j : Nat)) = ((j : Nat) : Int), j < n] ++ (cellsP w b7 (o7 + j * 4) [.int .i64 x12.id, .int .i64 x12.weight, .int .i64 x12.cap, .int .i64 x12.pool])) (by kernel_rfl) rfl (alA (al2 rfl (al2 rfl (al1 (by omega)))) (rd_pre (hds.get hx12) _ rfl)) ?_
    refine cK (.int .i64 x12.id) Try.call42 (fun w hw => did_d x12 w) ?_
    by_cases q15 : (x9.id : Int) ≥ (x12.id : Int)
    ·
      refine cm 1 [(13, .yes)] [0, 1, 5] [(25, .bool true)] ([(x9.id : Int) ≥ (x12.id : Int)]) (by kernel_rfl) rfl (al1 q15) ?_
      refine calm_nil' ?_
      refine ds_ (t_ (sq_ (qa0 [] [] [(4, .bool false)] (ds_ (rt ([]) (.bool false) ?_)))))
      exact fun w' hw => ⟨by rw [show risK Dom.id ds = false from by
          cases hr : risK Dom.id ds with
          | false => rfl
          | true => have := ((ris_iffK ds).1 hr).at (i := j - 1) (j := j) (by omega) hx9 hx12; omega], hw.below⟩
    ·
      refine cm 1 [(13, .no)] [0, 1, 5] [(25, .bool false)] ([¬ ((x9.id : Int) ≥ (x12.id : Int))]) (by kernel_rfl) rfl (al1 q15) ?_
      refine calm_nil' ?_
      refine ds_ (f_ (at_skip (done_block (ds_ (qa [(1, .fit)] [0, 1] [(5, .int .i64 ((j + 1 : Nat)))] ([Fit .i64 ((j + 1 : Nat))]) (al1 (fit64 (by omega) (by omega))) ?_)))))
      exact done_round [0, 1, 5] (j + 1) (by kernel_rfl) rfl ⟨by omega, fun t x y ht h1 h2 => by
          by_cases htj : t + 1 = j
          · obtain rfl : t = j - 1 := by omega
            rw [hx9] at h1; rw [htj, hx12] at h2; cases h1; cases h2; omega
          · exact hI t x y (by omega) h1 h2⟩ (by first | omega | (simp only; omega))
  ·
    refine qa [(3, .no)] [0, 1, 5] [(9, .bool false)] ([¬ (((j : Nat) : Int) < ((n : Nat) : Int))]) (al1 q4) (ds_ (f_ (at_leave _ rfl (ds_ (sq_ (qa0 [] [] [(4, .bool true)] (ds_ (rt ([]) (.bool true) ?_))))))))
    exact fun w' hw => ⟨by rw [(ris_iffK ds).2 (ris_step fun t x y h1 h2 => hI t x y (by have := (List.getElem?_eq_some_iff.1 h2).1; omega) h1 h2)], hw.below⟩

set_option maxRecDepth 100000 in
theorem risingv_d (q : Option Addr) (m capv : Nat) (vs : List Vcp) (w : World)
    (hvs : Sv w q vs) (hm : m = vs.length) (hmb : m ≤ 1000)
    : Calls Try.prog 43 #[.slice q m capv, .func (.func 44) #[] #[]] w fun e w' => e = .returned (.bool (risK Vcp.id vs)) ∧ Below w.heap.size w w' := by
  refine enter (Hs.start w) Try.func43 rfl Try.ntmps43 rfl (sq_ (qa0 [] [0, 1] [] (ds_ (sq_ (sq_ (qa0 [] [0, 1] [(5, .int .i64 1)] (ds_ (at_block (at_loop (α := Nat) [0, 1, 5] (fun j => [(0, .slice q m capv), (1, .func (.func 44) #[] #[]), (5, .int .i64 ((j : Nat)))]) (fun j => []) (fun j => 1 ≤ j ∧ ∀ (t : Nat) (x y : Vcp), t + 1 < j → vs[t]? = some x → vs[t + 1]? = some y → x.id < y.id) (fun j => m - j) 1 (by kernel_rfl) rfl ⟨Nat.le_refl _, fun t x y h => by omega⟩ ?_)))))))))
  rintro j
  rintro ⟨hj1, hI⟩
  refine sq_ (sq_ ?_)
  by_cases q4 : ((j : Nat) : Int) < ((m : Nat) : Int)
  ·
    refine qa [(3, .yes)] [0, 1, 5] [(9, .bool true)] ([((j : Nat) : Int) < ((m : Nat) : Int)]) (al1 q4) (ds_ (t_ (at_skip (ds_ (sq_ (at_block (sq_ ?_)))))))
    obtain ⟨b7, o7, rfl⟩ := hvs.pos (i := j - 1) (by omega)
    obtain ⟨x9, hx9⟩ := get_some (l := vs) (m := j - 1) (by omega)
    refine at_calm rfl (by kernel_rfl) (by kernel_rfl) ?_
    refine cm 6 [(3, .fit), (4, .at b7 o7 (j - 1)), (5, .go (outs b7 (o7 + (j - 1) * 4) [.int .i64 x9.id, .int .i64 x9.dom, .int .u32 x9.hard, .int .u32 x9.soft]))] [0, 1, 5] [(12, .func (.func 44) #[] #[]), (17, .agg #[.int .i64 x9.id, .int .i64 x9.dom, .int .u32 x9.hard, .int .u32 x9.soft])] ([Fit .i64 (((j : Nat)) - 1)] ++ ([(some ⟨b7, o7, none⟩ : Option Addr) = some ⟨b7, o7, none⟩, (((j : Nat)) - 1) = ((j - 1 : Nat) : Int), j - 1 < m] ++ (cellsP w b7 (o7 + (j - 1) * 4) [.int .i64 x9.id, .int .i64 x9.dom, .int .u32 x9.hard, .int .u32 x9.soft]))) (by kernel_rfl) rfl (alA (al1 (fit64 (by omega) (by omega))) (alA (al2 rfl (al2 (by omega) (al1 (by omega)))) (rd_pre (hvs.get hx9) _ rfl))) ?_
    refine cK (.int .i64 x9.id) Try.call44 (fun w hw => vid_d x9 w) ?_
    obtain ⟨x12, hx12⟩ := get_some (l := vs) (m := j) (by omega)
    refine cm 5 [(10, .at b7 o7 j), (11, .go (outs b7 (o7 + j * 4) [.int .i64 x12.id, .int .i64 x12.dom, .int .u32 x12.hard, .int .u32 x12.soft]))] [0, 1, 5, 18] [(19, .func (.func 44) #[] #[]), (23, .agg #[.int .i64 x12.id, .int .i64 x12.dom, .int .u32 x12.hard, .int .u32 x12.soft])] ([(some ⟨b7, o7, none⟩ : Option Addr) = some ⟨b7, o7, none⟩, ((j : Nat)) = ((j : Nat) : Int), j < m] ++ (cellsP w b7 (o7 + j * 4) [.int .i64 x12.id, .int .i64 x12.dom, .int .u32 x12.hard, .int .u32 x12.soft])) (by kernel_rfl) rfl (alA (al2 rfl (al2 rfl (al1 (by omega)))) (rd_pre (hvs.get hx12) _ rfl)) ?_
    refine cK (.int .i64 x12.id) Try.call44 (fun w hw => vid_d x12 w) ?_
    by_cases q15 : (x9.id : Int) ≥ (x12.id : Int)
    ·
      refine cm 1 [(13, .yes)] [0, 1, 5] [(25, .bool true)] ([(x9.id : Int) ≥ (x12.id : Int)]) (by kernel_rfl) rfl (al1 q15) ?_
      refine calm_nil' ?_
      refine ds_ (t_ (sq_ (qa0 [] [] [(4, .bool false)] (ds_ (rt ([]) (.bool false) ?_)))))
      exact fun w' hw => ⟨by rw [show risK Vcp.id vs = false from by
          cases hr : risK Vcp.id vs with
          | false => rfl
          | true => have := ((ris_iffK vs).1 hr).at (i := j - 1) (j := j) (by omega) hx9 hx12; omega], hw.below⟩
    ·
      refine cm 1 [(13, .no)] [0, 1, 5] [(25, .bool false)] ([¬ ((x9.id : Int) ≥ (x12.id : Int))]) (by kernel_rfl) rfl (al1 q15) ?_
      refine calm_nil' ?_
      refine ds_ (f_ (at_skip (done_block (ds_ (qa [(1, .fit)] [0, 1] [(5, .int .i64 ((j + 1 : Nat)))] ([Fit .i64 ((j + 1 : Nat))]) (al1 (fit64 (by omega) (by omega))) ?_)))))
      exact done_round [0, 1, 5] (j + 1) (by kernel_rfl) rfl ⟨by omega, fun t x y ht h1 h2 => by
          by_cases htj : t + 1 = j
          · obtain rfl : t = j - 1 := by omega
            rw [hx9] at h1; rw [htj, hx12] at h2; cases h1; cases h2; omega
          · exact hI t x y (by omega) h1 h2⟩ (by first | omega | (simp only; omega))
  ·
    refine qa [(3, .no)] [0, 1, 5] [(9, .bool false)] ([¬ (((j : Nat) : Int) < ((m : Nat) : Int))]) (al1 q4) (ds_ (f_ (at_leave _ rfl (ds_ (sq_ (qa0 [] [] [(4, .bool true)] (ds_ (rt ([]) (.bool true) ?_))))))))
    exact fun w' hw => ⟨by rw [(ris_iffK vs).2 (ris_step fun t x y h1 h2 => hI t x y (by have := (List.getElem?_eq_some_iff.1 h2).1; omega) h1 h2)], hw.below⟩

set_option maxRecDepth 100000 in
theorem may_d (d : Dom) (w : World)
    : Calls Try.prog 45 #[.agg #[.int .i64 d.id, .int .i64 d.weight, .int .i64 d.cap, .int .i64 d.pool]] w fun e w' => e = .returned (.bool (mayB d)) ∧ Below w.heap.size w w' := by
  refine enter (Hs.start w) Try.func45 rfl Try.ntmps45 rfl (sq_ (ma0 [] [] (fun γ1 => [(1, .pointer (some ⟨γ1 0, 0, none⟩))]) (fun γ1 L => bx (γ1 0) (#[.int .i64 d.id, .int .i64 d.weight, .int .i64 d.cap, .int .i64 d.pool]) 32 :: L) (fun γ1 => ds_ (sq_ ?_))))
  by_cases q3 : (d.id : Int) ≥ (1 : Int)
  ·
    by_cases q5 : (d.id : Int) ≤ (8 : Int)
    ·
      by_cases q7 : (d.weight : Int) ≥ (1 : Int)
      ·
        by_cases q9 : (d.weight : Int) ≤ (65535 : Int)
        ·
          by_cases q11 : (d.cap : Int) ≥ (0 : Int)
          ·
            by_cases q13 : (d.cap : Int) ≤ (800 : Int)
            ·
              by_cases q15 : (d.pool : Int) ≥ (0 : Int)
              ·
                by_cases q17 : (d.pool : Int) < (4 : Int)
                ·
                  refine qa [(1, .go (owns 0 0 1)), (2, .yes), (5, .go (owns 0 0 1)), (6, .yes), (10, .go (owns 0 1 1)), (11, .yes), (15, .go (owns 0 1 1)), (16, .yes), (20, .go (owns 0 2 1)), (21, .yes), (25, .go (owns 0 2 1)), (26, .yes), (30, .go (owns 0 3 1)), (31, .yes), (35, .go (owns 0 3 1)), (36, .yes)] [] [(2, .bool true)] ([(d.id : Int) ≥ (1 : Int)] ++ ([(d.id : Int) ≤ (8 : Int)] ++ ([(d.weight : Int) ≥ (1 : Int)] ++ ([(d.weight : Int) ≤ (65535 : Int)] ++ ([(d.cap : Int) ≥ (0 : Int)] ++ ([(d.cap : Int) ≤ (800 : Int)] ++ ([(d.pool : Int) ≥ (0 : Int)] ++ ([(d.pool : Int) < (4 : Int)])))))))) (alA (al1 q3) (alA (al1 q5) (alA (al1 q7) (alA (al1 q9) (alA (al1 q11) (alA (al1 q13) (alA (al1 q15) (al1 q17)))))))) (ds_ (rt ([]) (.bool true) ?_))
                  exact fun w' hw => ⟨by rw [show mayB d = true from by simp only [mayB, decide_eq_true_eq]; omega], hw.below⟩
                ·
                  refine qa [(1, .go (owns 0 0 1)), (2, .yes), (5, .go (owns 0 0 1)), (6, .yes), (10, .go (owns 0 1 1)), (11, .yes), (15, .go (owns 0 1 1)), (16, .yes), (20, .go (owns 0 2 1)), (21, .yes), (25, .go (owns 0 2 1)), (26, .yes), (30, .go (owns 0 3 1)), (31, .yes), (35, .go (owns 0 3 1)), (36, .no)] [] [(2, .bool false)] ([(d.id : Int) ≥ (1 : Int)] ++ ([(d.id : Int) ≤ (8 : Int)] ++ ([(d.weight : Int) ≥ (1 : Int)] ++ ([(d.weight : Int) ≤ (65535 : Int)] ++ ([(d.cap : Int) ≥ (0 : Int)] ++ ([(d.cap : Int) ≤ (800 : Int)] ++ ([(d.pool : Int) ≥ (0 : Int)] ++ ([¬ ((d.pool : Int) < (4 : Int))])))))))) (alA (al1 q3) (alA (al1 q5) (alA (al1 q7) (alA (al1 q9) (alA (al1 q11) (alA (al1 q13) (alA (al1 q15) (al1 q17)))))))) (ds_ (rt ([]) (.bool false) ?_))
                  exact fun w' hw => ⟨by rw [show mayB d = false from by simp only [mayB, decide_eq_false_iff_not]; omega], hw.below⟩
              ·
                refine qa [(1, .go (owns 0 0 1)), (2, .yes), (5, .go (owns 0 0 1)), (6, .yes), (10, .go (owns 0 1 1)), (11, .yes), (15, .go (owns 0 1 1)), (16, .yes), (20, .go (owns 0 2 1)), (21, .yes), (25, .go (owns 0 2 1)), (26, .yes), (30, .go (owns 0 3 1)), (31, .no)] [] [(2, .bool false)] ([(d.id : Int) ≥ (1 : Int)] ++ ([(d.id : Int) ≤ (8 : Int)] ++ ([(d.weight : Int) ≥ (1 : Int)] ++ ([(d.weight : Int) ≤ (65535 : Int)] ++ ([(d.cap : Int) ≥ (0 : Int)] ++ ([(d.cap : Int) ≤ (800 : Int)] ++ ([¬ ((d.pool : Int) ≥ (0 : Int))]))))))) (alA (al1 q3) (alA (al1 q5) (alA (al1 q7) (alA (al1 q9) (alA (al1 q11) (alA (al1 q13) (al1 q15))))))) (ds_ (rt ([]) (.bool false) ?_))
                exact fun w' hw => ⟨by rw [show mayB d = false from by simp only [mayB, decide_eq_false_iff_not]; omega], hw.below⟩
            ·
              refine qa [(1, .go (owns 0 0 1)), (2, .yes), (5, .go (owns 0 0 1)), (6, .yes), (10, .go (owns 0 1 1)), (11, .yes), (15, .go (owns 0 1 1)), (16, .yes), (20, .go (owns 0 2 1)), (21, .yes), (25, .go (owns 0 2 1)), (26, .no)] [] [(2, .bool false)] ([(d.id : Int) ≥ (1 : Int)] ++ ([(d.id : Int) ≤ (8 : Int)] ++ ([(d.weight : Int) ≥ (1 : Int)] ++ ([(d.weight : Int) ≤ (65535 : Int)] ++ ([(d.cap : Int) ≥ (0 : Int)] ++ ([¬ ((d.cap : Int) ≤ (800 : Int))])))))) (alA (al1 q3) (alA (al1 q5) (alA (al1 q7) (alA (al1 q9) (alA (al1 q11) (al1 q13)))))) (ds_ (rt ([]) (.bool false) ?_))
              exact fun w' hw => ⟨by rw [show mayB d = false from by simp only [mayB, decide_eq_false_iff_not]; omega], hw.below⟩
          ·
            refine qa [(1, .go (owns 0 0 1)), (2, .yes), (5, .go (owns 0 0 1)), (6, .yes), (10, .go (owns 0 1 1)), (11, .yes), (15, .go (owns 0 1 1)), (16, .yes), (20, .go (owns 0 2 1)), (21, .no)] [] [(2, .bool false)] ([(d.id : Int) ≥ (1 : Int)] ++ ([(d.id : Int) ≤ (8 : Int)] ++ ([(d.weight : Int) ≥ (1 : Int)] ++ ([(d.weight : Int) ≤ (65535 : Int)] ++ ([¬ ((d.cap : Int) ≥ (0 : Int))]))))) (alA (al1 q3) (alA (al1 q5) (alA (al1 q7) (alA (al1 q9) (al1 q11))))) (ds_ (rt ([]) (.bool false) ?_))
            exact fun w' hw => ⟨by rw [show mayB d = false from by simp only [mayB, decide_eq_false_iff_not]; omega], hw.below⟩
        ·
          refine qa [(1, .go (owns 0 0 1)), (2, .yes), (5, .go (owns 0 0 1)), (6, .yes), (10, .go (owns 0 1 1)), (11, .yes), (15, .go (owns 0 1 1)), (16, .no)] [] [(2, .bool false)] ([(d.id : Int) ≥ (1 : Int)] ++ ([(d.id : Int) ≤ (8 : Int)] ++ ([(d.weight : Int) ≥ (1 : Int)] ++ ([¬ ((d.weight : Int) ≤ (65535 : Int))])))) (alA (al1 q3) (alA (al1 q5) (alA (al1 q7) (al1 q9)))) (ds_ (rt ([]) (.bool false) ?_))
          exact fun w' hw => ⟨by rw [show mayB d = false from by simp only [mayB, decide_eq_false_iff_not]; omega], hw.below⟩
      ·
        refine qa [(1, .go (owns 0 0 1)), (2, .yes), (5, .go (owns 0 0 1)), (6, .yes), (10, .go (owns 0 1 1)), (11, .no)] [] [(2, .bool false)] ([(d.id : Int) ≥ (1 : Int)] ++ ([(d.id : Int) ≤ (8 : Int)] ++ ([¬ ((d.weight : Int) ≥ (1 : Int))]))) (alA (al1 q3) (alA (al1 q5) (al1 q7))) (ds_ (rt ([]) (.bool false) ?_))
        exact fun w' hw => ⟨by rw [show mayB d = false from by simp only [mayB, decide_eq_false_iff_not]; omega], hw.below⟩
    ·
      refine qa [(1, .go (owns 0 0 1)), (2, .yes), (5, .go (owns 0 0 1)), (6, .no)] [] [(2, .bool false)] ([(d.id : Int) ≥ (1 : Int)] ++ ([¬ ((d.id : Int) ≤ (8 : Int))])) (alA (al1 q3) (al1 q5)) (ds_ (rt ([]) (.bool false) ?_))
      exact fun w' hw => ⟨by rw [show mayB d = false from by simp only [mayB, decide_eq_false_iff_not]; omega], hw.below⟩
  ·
    refine qa [(1, .go (owns 0 0 1)), (2, .no)] [] [(2, .bool false)] ([¬ ((d.id : Int) ≥ (1 : Int))]) (al1 q3) (ds_ (rt ([]) (.bool false) ?_))
    exact fun w' hw => ⟨by rw [show mayB d = false from by simp only [mayB, decide_eq_false_iff_not]; omega], hw.below⟩

set_option maxRecDepth 100000 in
theorem count_d (p : Option Addr) (n cap : Nat) (ds : List Dom) (q : Option Addr) (m capv : Nat) (vs : List Vcp) (k : Int) (w : World)
    (hvs : Sv w q vs) (hm : m = vs.length) (hmb : m ≤ 1000)
    : Calls Try.prog 46 #[.agg #[.slice p n cap, .slice q m capv], .int .i64 k] w fun e w' => e = .returned (.int .i64 (cntV vs k : Nat)) ∧ Below w.heap.size w w' := by
  refine enter (Hs.start w) Try.func46 rfl Try.ntmps46 rfl (sq_ (ma0 [] [1] (fun γ1 => [(2, .pointer (some ⟨γ1 0, 0, none⟩))]) (fun γ1 L => bx (γ1 0) (#[.slice p n cap, .slice q m capv]) 25 :: L) (fun γ1 => ds_ (sq_ (qa0 [] [1, 2] [(5, .int .i64 0)] (ds_ (sq_ (sq_ (qa0 [(1, .go (owns 0 1 1))] [1, 5] [(9, .slice q m capv), (10, .int .i64 ((m : Nat))), (11, .int .i64 0)] (ds_ (at_block (at_loop (α := Nat × Nat) [1, 5, 9, 10, 11] (fun ⟨j, c⟩ => [(1, .int .i64 k), (5, .int .i64 ((c : Nat))), (9, .slice q m capv), (10, .int .i64 ((m : Nat))), (11, .int .i64 ((j : Nat)))]) (fun ⟨j, c⟩ => [bx (γ1 0) (#[.slice p n cap, .slice q m capv]) 25]) (fun ⟨j, c⟩ => j ≤ m ∧ c = cntV (vs.take j) k ∧ c ≤ j) (fun ⟨j, c⟩ => m - j) (0, 0) (by kernel_rfl) rfl ⟨Nat.zero_le _, rfl, Nat.le_refl _⟩ ?_))))))))))))
  rintro ⟨j, c⟩
  rintro ⟨hj, hc, hcj⟩
  refine sq_ ?_
  by_cases q5 : ((j : Nat) : Int) < ((m : Nat) : Int)
  ·
    refine qa [(0, .yes)] [1, 5, 9, 10, 11] [(12, .bool true)] ([((j : Nat) : Int) < ((m : Nat) : Int)]) (al1 q5) (ds_ (sq_ (t_ (at_skip (ds_ (sq_ (at_block (sq_ ?_))))))))
    obtain ⟨b8, o8, rfl⟩ := hvs.pos (i := j) (by omega)
    obtain ⟨x10, hx10⟩ := get_some (l := vs) (m := j) (by omega)
    refine ma [(0, .at b8 o8 j), (1, .go (outs b8 (o8 + j * 4) [.int .i64 x10.id, .int .i64 x10.dom, .int .u32 x10.hard, .int .u32 x10.soft])), (3, .go (owns 0 0 4))] [1, 5, 9, 10, 11] (fun γ11 => [(7, .pointer (some ⟨γ11 0, 0, none⟩))]) (fun γ11 L => bx (γ11 0) (#[.int .i64 x10.id, .int .i64 x10.dom, .int .u32 x10.hard, .int .u32 x10.soft]) 43 :: L) (fun γ11 => [(some ⟨b8, o8, none⟩ : Option Addr) = some ⟨b8, o8, none⟩, ((j : Nat)) = ((j : Nat) : Int), j < m] ++ (cellsP w b8 (o8 + j * 4) [.int .i64 x10.id, .int .i64 x10.dom, .int .u32 x10.hard, .int .u32 x10.soft])) (fun γ11 => (alA (al2 rfl (al2 rfl (al1 (by omega)))) (rd_pre (hvs.get hx10) _ rfl))) (fun γ11 => ds_ (sq_ ?_))
    by_cases q13 : (x10.dom : Int) = (k : Int)
    ·
      refine qa [(1, .go (owns 0 1 1)), (3, .yes)] [1, 5, 9, 10, 11] [(18, .bool true)] ([(x10.dom : Int) = (k : Int)]) (al1 q13) (ds_ (t_ (qa [(1, .fit)] [1, 9, 10, 11] [(5, .int .i64 ((c + 1 : Nat)))] ([Fit .i64 ((c + 1 : Nat))]) (al1 (fit64 (by omega) (by omega))) (done_block (ds_ (qa [(0, .fit)] [1, 5, 9, 10] [(11, .int .i64 ((j + 1 : Nat)))] ([Fit .i64 ((j + 1 : Nat))]) (al1 (fit64 (by omega) (by omega))) (Done.drop (L' := [bx (γ1 0) (#[.slice p n cap, .slice (some ⟨b8, o8, none⟩) m capv]) 25]) ?_ (List.Sublist.cons _ (List.Sublist.cons_cons _ (List.Sublist.refl _))))))))))
      exact dr [1, 5, 9, 10, 11] (j + 1, c + 1) ⟨by omega, by rw [cnt_on hx10, if_pos q13, ← hc], by omega⟩
    ·
      refine qa [(1, .go (owns 0 1 1)), (3, .no)] [1, 5, 9, 10, 11] [(18, .bool false)] ([¬ ((x10.dom : Int) = (k : Int))]) (al1 q13) (ds_ (f_ (at_skip (done_block (ds_ (qa [(0, .fit)] [1, 5, 9, 10] [(11, .int .i64 ((j + 1 : Nat)))] ([Fit .i64 ((j + 1 : Nat))]) (al1 (fit64 (by omega) (by omega))) (Done.drop (L' := [bx (γ1 0) (#[.slice p n cap, .slice (some ⟨b8, o8, none⟩) m capv]) 25]) ?_ (List.Sublist.cons _ (List.Sublist.cons_cons _ (List.Sublist.refl _))))))))))
      exact dr [1, 5, 9, 10, 11] (j + 1, c) ⟨by omega, by rw [cnt_on hx10, if_neg q13, ← hc]; rfl, by omega⟩
  ·
    refine qa [(0, .no)] [1, 5, 9, 10, 11] [(12, .bool false)] ([¬ (((j : Nat) : Int) < ((m : Nat) : Int))]) (al1 q5) (ds_ (sq_ (f_ (at_leave _ rfl (ds_ (sq_ (qa0 [] [] [(4, .int .i64 ((c : Nat)))] (ds_ (rt ([]) (.int .i64 ((c : Nat))) ?_)))))))))
    exact fun w' hw => ⟨by rw [hc, List.take_of_length_le (by omega)], hw.below⟩

set_option maxRecDepth 100000 in
theorem cpus_d (s : Int) (w : World)
    : Calls Try.prog 83 #[.int .u32 s] w fun e w' => e = .returned (.int .i64 (if clrI s = 0 then 0 else 140)) ∧ Below w.heap.size w w' := by
  refine enter (Hs.start w) Try.func83 rfl Try.ntmps83 rfl (sq_ (qa0 [] [0] [] (ds_ (sq_ (sq_ ?_)))))
  by_cases q3 : (clrI s : Int) ≠ (0 : Int)
  ·
    refine qa [(2, .yes)] [] [(5, .bool true)] ([(clrI s : Int) ≠ (0 : Int)]) (al1 q3) (ds_ (t_ (sq_ (qa0 [] [] [(2, .int .i64 140)] (ds_ (rt ([]) (.int .i64 140) ?_))))))
    exact fun w' hw => ⟨by rw [if_neg q3], hw.below⟩
  ·
    refine qa [(2, .no)] [] [(5, .bool false)] ([¬ ((clrI s : Int) ≠ (0 : Int))]) (al1 q3) (ds_ (f_ (at_skip (ds_ (sq_ (qa0 [] [] [(2, .int .i64 0)] (ds_ (rt ([]) (.int .i64 0) ?_))))))))
    exact fun w' hw => ⟨by rw [if_pos (Classical.not_not.1 q3)], hw.below⟩
end Go.Proofs.Ytnoefldpkfpglaa

/-! Domains: Check. -/
namespace Go.Proofs.Ytnoefldpkfpglaa
open Go Go.RowKit
structure MaskA where
 h : Int
 s : Int
instance : Enc MaskA := ⟨fun x => [.int .u32 x.h, .int .u32 x.s], 2, fun _ => rfl, fun x v h => by simp at h; rcases h with rfl | rfl <;> rfl, by decide⟩

set_option maxRecDepth 100000 in
theorem masks_d (p : Option Addr) (n cap : Nat) (ms : List MaskA) (w : World)
 (hms : Sv w p ms) (hn : n = ms.length) (hb : n ≤ 1000)
 : Calls Try.prog 75 #[.slice p n cap] w fun e w' => e = .returned (.bool (ms.all fun x => maskB x.h x.s)) ∧ Below w.heap.size w w' := by
 refine enter (Hs.start w) Try.func75 rfl Try.ntmps75 rfl (sq_ (qa0 [] [0] [] (ds_ (sq_ (sq_ (qa0 [] [] [(5, .slice p n cap), (6, .int .i64 ((n : Nat))), (7, .int .i64 0)] (ds_ (at_block (at_loop (α := Nat) [5, 6, 7] (fun j => [(5, .slice p n cap), (6, .int .i64 ((n : Nat))), (7, .int .i64 ((j : Nat)))]) (fun j => []) (fun j => j ≤ n ∧ (ms.take j).all (fun x => maskB x.h x.s) = true) (fun j => n - j) 0 (by kernel_rfl) rfl ⟨Nat.zero_le _, rfl⟩ ?_)))))))))
 rintro j
 rintro ⟨hj, hI⟩
 refine sq_ ?_
 by_cases q4 : ((j : Nat) : Int) < ((n : Nat) : Int)
 ·
  refine qa [(0, .yes)] [5, 6, 7] [(8, .bool true)] ([((j : Nat) : Int) < ((n : Nat) : Int)]) (al1 q4) (ds_ (sq_ (t_ (at_skip (ds_ (sq_ (at_block (sq_ ?_))))))))
  obtain ⟨b7, o7, rfl⟩ := hms.pos (i := j) (by omega)
  obtain ⟨x9, hx9⟩ := get_some (l := ms) (m := j) (by omega)
  refine ma [(0, .at b7 o7 j), (1, .go (outs b7 (o7 + j * 2) [.int .u32 x9.h, .int .u32 x9.s])), (3, .go (owns 0 0 2))] [5, 6, 7] (fun γ10 => [(4, .pointer (some ⟨γ10 0, 0, none⟩))]) (fun γ10 L => bx (γ10 0) (#[.int .u32 x9.h, .int .u32 x9.s]) 41 :: L) (fun γ10 => [(some ⟨b7, o7, none⟩ : Option Addr) = some ⟨b7, o7, none⟩, ((j : Nat)) = ((j : Nat) : Int), j < n] ++ (cellsP w b7 (o7 + j * 2) [.int .u32 x9.h, .int .u32 x9.s])) (fun γ10 => (alA (al2 rfl (al2 rfl (al1 (by omega)))) (rd_pre (hms.get hx9) _ rfl))) (fun γ10 => ds_ (sq_ (ao_ (qo0 2 [(1, .go (owns 0 0 1))] [4, 5, 6, 7] [(12, .int .u32 x9.h)] ?_))))
  rcases q12 : decide (clrI x9.h = 0) with _ | _
  ·
   refine cD (.int .i64 140) Try.call83 (fun w hw => by have := cpus_d x9.h w; rw [if_neg (of_decide_eq_false q12)] at this; exact this) (qo0 12 [] [5, 6, 7] [(25, .bool true)] (on_ (ds_ (t_ (sq_ (qa0 [] [] [(2, .bool false)] (ds_ (rt ([]) (.bool false) ?_))))))))
   exact fun w' hw => ⟨by rw [show ms.all (fun x => maskB x.h x.s) = false from List.all_eq_false.2 ⟨x9, List.mem_of_getElem? hx9, by simp [maskB, q12]⟩], hw.below⟩
  ·
   refine cD (.int .i64 0) Try.call83 (fun w hw => by have := cpus_d x9.h w; rw [if_pos (of_decide_eq_true q12)] at this; exact this) (qo0 4 [(6, .go (owns 0 1 1))] [4, 5, 6, 7] [(15, .bool false), (17, .int .u32 x9.s)] ?_)
   rcases q16 : decide (clrI x9.s = 0) with _ | _
   ·
    refine cD (.int .i64 140) Try.call83 (fun w hw => by have := cpus_d x9.s w; rw [if_neg (of_decide_eq_false q16)] at this; exact this) (qo0 7 [] [5, 6, 7] [(25, .bool true)] (on_ (ds_ (t_ (sq_ (qa0 [] [] [(2, .bool false)] (ds_ (rt ([]) (.bool false) ?_))))))))
    exact fun w' hw => ⟨by rw [show ms.all (fun x => maskB x.h x.s) = false from List.all_eq_false.2 ⟨x9, List.mem_of_getElem? hx9, by simp [maskB, q12, q16]⟩], hw.below⟩
   ·
    refine cD (.int .i64 0) Try.call83 (fun w hw => by have := cpus_d x9.s w; rw [if_pos (of_decide_eq_true q16)] at this; exact this) ?_
    by_cases q20 : (x9.h : Int) = (0 : Int)
    ·
     refine qo 7 [(12, .go (owns 0 0 1)), (13, .yes)] [5, 6, 7] [(25, .bool true)] ([(x9.h : Int) = (0 : Int)]) (al1 q20) (on_ (ds_ (t_ (sq_ (qa0 [] [] [(2, .bool false)] (ds_ (rt ([]) (.bool false) ?_)))))))
     exact fun w' hw => ⟨by rw [show ms.all (fun x => maskB x.h x.s) = false from List.all_eq_false.2 ⟨x9, List.mem_of_getElem? hx9, by simp [maskB, q12, q16, q20]⟩], hw.below⟩
    ·
     refine qo 7 [(12, .go (owns 0 0 1)), (13, .no)] [5, 6, 7] [(25, .bool false)] ([¬ ((x9.h : Int) = (0 : Int))]) (al1 q20) (on_ (ds_ (f_ (at_skip (done_block (ds_ (qa [(0, .fit)] [5, 6] [(7, .int .i64 ((j + 1 : Nat)))] ([Fit .i64 ((j + 1 : Nat))]) (al1 (fit64 (by omega) (by omega))) (Done.drop (L' := []) ?_ (List.Sublist.cons _ (List.Sublist.refl _))))))))))
     exact dr [5, 6, 7] (j + 1) ⟨by omega, by rw [List.take_add_one, hx9, List.all_append, hI]; simp [maskB, q12, q16, q20]⟩
 ·
  refine qa [(0, .no)] [5, 6, 7] [(8, .bool false)] ([¬ (((j : Nat) : Int) < ((n : Nat) : Int))]) (al1 q4) (ds_ (sq_ (f_ (at_leave _ rfl (ds_ (sq_ (qa0 [] [] [(2, .bool true)] (ds_ (rt ([]) (.bool true) ?_)))))))))
  exact fun w' hw => ⟨by rw [List.take_of_length_le (by omega)] at hI; rw [hI], hw.below⟩

set_option maxRecDepth 100000 in
theorem mask_d (h s : Int) (w : World)
 : Calls Try.prog 48 #[.agg #[.int .u32 h, .int .u32 s]] w fun e w' => e = .returned (.int .i64 (if maskB h s = true then 0 else 170)) ∧ Below w.heap.size w w' := by
 refine enter (Hs.start w) Try.func48 rfl Try.ntmps48 rfl (sq_ (ma0 [] [] (fun γ1 => [(1, .pointer (some ⟨γ1 0, 0, none⟩))]) (fun γ1 L => bx (γ1 0) (#[.int .u32 h, .int .u32 s]) 41 :: L) (fun γ1 => ds_ (sq_ (sq_ (ao_ (mo0 2 [(0, .go (owns 0 0 2))] [] (fun γ2 => [(4, .slice (some ⟨γ2 0, 0, none⟩) 1 1)]) (fun γ2 L => bx (γ2 0) (#[.int .u32 h, .int .u32 s]) 41 :: L) (fun γ2 => ?_))))))))
 rcases q3 : maskB h s with _ | _
 ·
  refine cD (.bool false) Try.call75 (fun w hw => by have := masks_d (some ⟨γ2 0, 0, none⟩) 1 1 [⟨h, s⟩] w (sv_row (hw.row 0 rfl) rfl) rfl (by omega); simp only [List.all_cons, List.all_nil, Bool.and_true, q3] at this; exact this) (qo0 1 [] [] [(6, .bool true)] (on_ (ds_ (t_ (sq_ (qa0 [] [] [(2, .int .i64 170)] (ds_ (rt ([]) (.int .i64 170) ?_))))))))
  exact fun w' hw => ⟨rfl, hw.below⟩
 ·
  refine cD (.bool true) Try.call75 (fun w hw => by have := masks_d (some ⟨γ2 0, 0, none⟩) 1 1 [⟨h, s⟩] w (sv_row (hw.row 0 rfl) rfl) rfl (by omega); simp only [List.all_cons, List.all_nil, Bool.and_true, q3] at this; exact this) (qo0 1 [] [] [(6, .bool false)] (on_ (ds_ (f_ (at_skip (ds_ (sq_ (qa0 [] [] [(2, .int .i64 0)] (ds_ (rt ([]) (.int .i64 0) ?_))))))))))
  exact fun w' hw => ⟨rfl, hw.below⟩

set_option maxRecDepth 100000 in
theorem gcheck_d (p : Option Addr) (n cap : Nat) (ds : List Dom) (q : Option Addr) (m capv : Nat) (vs : List Vcp) (w : World)
 (hds : Sv w p ds) (hn : n = ds.length) (hb : n ≤ 1000)
 (hvs : Sv w q vs) (hm : m = vs.length) (hmb : m ≤ 1000)
 : Calls Try.prog 10 #[.agg #[.slice p n cap, .slice q m capv]] w fun e w' => e = .returned (.int .i64 (if guestsB ds vs = true then 0 else 190)) ∧ Below w.heap.size w w' := by
 refine enter (Hs.start w) Try.func10 rfl Try.ntmps10 rfl (sq_ (ma0 [] [] (fun γ1 => [(1, .pointer (some ⟨γ1 0, 0, none⟩))]) (fun γ1 L => bx (γ1 0) (#[.slice p n cap, .slice q m capv]) 25 :: L) (fun γ1 => ds_ (sq_ (sq_ (ao_ (qo0 2 [(1, .go (owns 0 0 1))] [1] [(10, .slice p n cap)] ?_)))))))
 rcases q3 : risK Dom.id ds with _ | _
 ·
  refine cD (.bool false) Try.call41 (fun w hw => by have := risingd_d p n cap ds w (hds.kept hw.below) hn (by omega); rw [q3] at this; exact this) (qo0 7 [] [1] [(18, .bool true)] (on_ (ds_ (t_ (sq_ (qa0 [] [] [(2, .int .i64 190)] (ds_ (rt ([]) (.int .i64 190) ?_))))))))
  exact fun w' hw => ⟨by simp only [guestsB, q3, Bool.false_and, Bool.and_false, Bool.false_eq_true, if_false], hw.below⟩
 ·
  refine cD (.bool true) Try.call41 (fun w hw => by have := risingd_d p n cap ds w (hds.kept hw.below) hn (by omega); rw [q3] at this; exact this) (qo0 4 [(6, .go (owns 0 1 1))] [1] [(13, .bool false), (15, .slice q m capv)] ?_)
  rcases q7 : risK Vcp.id vs with _ | _
  ·
   refine cD (.bool false) Try.call43 (fun w hw => by have := risingv_d q m capv vs w (hvs.kept hw.below) hm (by omega); rw [q7] at this; exact this) (qo0 2 [] [1] [(18, .bool true)] (on_ (ds_ (t_ (sq_ (qa0 [] [] [(2, .int .i64 190)] (ds_ (rt ([]) (.int .i64 190) ?_))))))))
   exact fun w' hw => ⟨by simp only [guestsB, q3, q7, Bool.false_and, Bool.and_false, Bool.false_eq_true, if_false], hw.below⟩
  ·
   refine cD (.bool true) Try.call43 (fun w hw => by have := risingv_d q m capv vs w (hvs.kept hw.below) hm (by omega); rw [q7] at this; exact this) (qo0 2 [] [1] [(18, .bool false)] (on_ (ds_ (f_ (at_skip (ds_ (sq_ (sq_ ?_))))))))
   have hrd := q3
   have hrv := q7
   refine qa0 [(1, .go (owns 0 0 1))] [1] [(20, .slice p n cap), (21, .int .i64 ((n : Nat))), (22, .int .i64 0)] (ds_ (at_block (at_loop (α := Nat) [1, 20, 21, 22] (fun j0 => [(1, .pointer (some ⟨γ1 0, 0, none⟩)), (20, .slice p n cap), (21, .int .i64 ((n : Nat))), (22, .int .i64 ((j0 : Nat)))]) (fun j0 => [bx (γ1 0) (#[.slice p n cap, .slice q m capv]) 25]) (fun j0 => j0 ≤ n ∧ (ds.take j0).all (dmayB vs) = true) (fun j0 => n - j0) 0 (by kernel_rfl) rfl ⟨Nat.zero_le _, rfl⟩ ?_)))
   rintro j0
   rintro ⟨hj0, hI0⟩
   refine sq_ ?_
   by_cases q13 : ((j0 : Nat) : Int) < ((n : Nat) : Int)
   ·
    refine qa [(0, .yes)] [1, 20, 21, 22] [(23, .bool true)] ([((j0 : Nat) : Int) < ((n : Nat) : Int)]) (al1 q13) (ds_ (sq_ (t_ (at_skip (ds_ (sq_ (at_block (sq_ ?_))))))))
    obtain ⟨b16, o16, rfl⟩ := hds.pos (i := j0) (by omega)
    obtain ⟨x18, hx18⟩ := get_some (l := ds) (m := j0) (by omega)
    refine ma [(0, .at b16 o16 j0), (1, .go (outs b16 (o16 + j0 * 4) [.int .i64 x18.id, .int .i64 x18.weight, .int .i64 x18.cap, .int .i64 x18.pool])), (3, .go (owns 0 0 4))] [1, 20, 21, 22] (fun γ19 => [(4, .pointer (some ⟨γ19 0, 0, none⟩))]) (fun γ19 L => bx (γ19 0) (#[.int .i64 x18.id, .int .i64 x18.weight, .int .i64 x18.cap, .int .i64 x18.pool]) 32 :: L) (fun γ19 => [(some ⟨b16, o16, none⟩ : Option Addr) = some ⟨b16, o16, none⟩, ((j0 : Nat)) = ((j0 : Nat) : Int), j0 < n] ++ (cellsP w b16 (o16 + j0 * 4) [.int .i64 x18.id, .int .i64 x18.weight, .int .i64 x18.cap, .int .i64 x18.pool])) (fun γ19 => (alA (al2 rfl (al2 rfl (al1 (by omega)))) (rd_pre (hds.get hx18) _ rfl))) (fun γ19 => ds_ (sq_ (ao_ (qo0 1 [(0, .go (owns 0 0 4))] [1, 4, 20, 21, 22] [(26, .agg #[.int .i64 x18.id, .int .i64 x18.weight, .int .i64 x18.cap, .int .i64 x18.pool])] ?_))))
    rcases q21 : mayB x18 with _ | _
    ·
     refine cD (.bool false) Try.call45 (fun w hw => by have := may_d x18 w; rw [q21] at this; exact this) (qo0 8 [] [1, 20, 21, 22] [(35, .bool true)] (on_ (ds_ (t_ (sq_ (qa0 [] [] [(2, .int .i64 190)] (ds_ (rt ([]) (.int .i64 190) ?_))))))))
     exact fun w' hw => ⟨by rw [show guestsB ds vs = false from by unfold guestsB; rw [show ds.all (dmayB vs) = false from List.all_eq_false.2 ⟨x18, List.mem_of_getElem? hx18, by simp [dmayB, q21]⟩]; simp]; rfl, hw.below⟩
    ·
     refine cD (.bool true) Try.call45 (fun w hw => by have := may_d x18 w; rw [q21] at this; exact this) (qo0 5 [(4, .go (owns 1 0 2)), (6, .go (owns 0 0 1))] [1, 20, 21, 22] [(29, .bool false), (30, .agg #[.slice (some ⟨b16, o16, none⟩) n cap, .slice q m capv]), (32, .int .i64 x18.id)] (cD (.int .i64 ((cntV vs x18.id : Nat))) Try.call46 (fun w hw => count_d (some ⟨b16, o16, none⟩) n cap ds q m capv vs x18.id w (hvs.kept hw.below) hm (by omega)) ?_))
     by_cases q26 : ((cntV vs x18.id : Nat) : Int) > (8 : Int)
     ·
      refine qo 2 [(8, .yes)] [1, 20, 21, 22] [(35, .bool true)] ([((cntV vs x18.id : Nat) : Int) > (8 : Int)]) (al1 q26) (on_ (ds_ (t_ (sq_ (qa0 [] [] [(2, .int .i64 190)] (ds_ (rt ([]) (.int .i64 190) ?_)))))))
      exact fun w' hw => ⟨by rw [show guestsB ds vs = false from by unfold guestsB; rw [show ds.all (dmayB vs) = false from List.all_eq_false.2 ⟨x18, List.mem_of_getElem? hx18, by simp only [dmayB, q21, Bool.true_and, decide_eq_true_eq]; omega⟩]; simp]; rfl, hw.below⟩
     ·
      refine qo 2 [(8, .no)] [1, 20, 21, 22] [(35, .bool false)] ([¬ (((cntV vs x18.id : Nat) : Int) > (8 : Int))]) (al1 q26) (on_ (ds_ (f_ (at_skip (done_block (ds_ (qa [(0, .fit)] [1, 20, 21] [(22, .int .i64 ((j0 + 1 : Nat)))] ([Fit .i64 ((j0 + 1 : Nat))]) (al1 (fit64 (by omega) (by omega))) (Done.drop (L' := [bx (γ1 0) (#[.slice (some ⟨b16, o16, none⟩) n cap, .slice q m capv]) 25]) ?_ (List.Sublist.cons _ (List.Sublist.cons_cons _ (List.Sublist.refl _)))))))))))
      exact dr [1, 20, 21, 22] (j0 + 1) ⟨by omega, by rw [List.take_add_one, hx18]; simp only [List.all_append, hI0, Option.toList_some, List.all_cons, List.all_nil, Bool.true_and, Bool.and_true]; simp only [dmayB, q21, Bool.true_and, decide_eq_true_eq]; omega⟩
   ·
    refine qa [(0, .no)] [1, 20, 21, 22] [(23, .bool false)] ([¬ (((j0 : Nat) : Int) < ((n : Nat) : Int))]) (al1 q13) (ds_ (sq_ (f_ (at_leave _ rfl (ds_ (sq_ (sq_ (qa0 [(1, .go (owns 0 1 1))] [1] [(38, .slice q m capv), (39, .int .i64 ((m : Nat))), (40, .int .i64 0)] (ds_ (at_block (at_loop (α := Nat) [1, 38, 39, 40] (fun j1 => [(1, .pointer (some ⟨γ1 0, 0, none⟩)), (38, .slice q m capv), (39, .int .i64 ((m : Nat))), (40, .int .i64 ((j1 : Nat)))]) (fun j1 => [bx (γ1 0) (#[.slice p n cap, .slice q m capv]) 25]) (fun j1 => j1 ≤ m ∧ (vs.take j1).all (vmayB ds) = true) (fun j1 => m - j1) 0 (by kernel_rfl) rfl ⟨Nat.zero_le _, rfl⟩ ?_)))))))))))
    rintro j1
    rintro ⟨hj1, hI1⟩
    refine sq_ ?_
    by_cases q34 : ((j1 : Nat) : Int) < ((m : Nat) : Int)
    ·
     refine qa [(0, .yes)] [1, 38, 39, 40] [(41, .bool true)] ([((j1 : Nat) : Int) < ((m : Nat) : Int)]) (al1 q34) (ds_ (sq_ (t_ (at_skip (ds_ (sq_ (at_block (sq_ ?_))))))))
     obtain ⟨b37, o37, rfl⟩ := hvs.pos (i := j1) (by omega)
     obtain ⟨x39, hx39⟩ := get_some (l := vs) (m := j1) (by omega)
     refine ma [(0, .at b37 o37 j1), (1, .go (outs b37 (o37 + j1 * 4) [.int .i64 x39.id, .int .i64 x39.dom, .int .u32 x39.hard, .int .u32 x39.soft])), (3, .go (owns 0 0 4))] [1, 38, 39, 40] (fun γ40 => [(6, .pointer (some ⟨γ40 0, 0, none⟩))]) (fun γ40 L => bx (γ40 0) (#[.int .i64 x39.id, .int .i64 x39.dom, .int .u32 x39.hard, .int .u32 x39.soft]) 43 :: L) (fun γ40 => [(some ⟨b37, o37, none⟩ : Option Addr) = some ⟨b37, o37, none⟩, ((j1 : Nat)) = ((j1 : Nat) : Int), j1 < m] ++ (cellsP w b37 (o37 + j1 * 4) [.int .i64 x39.id, .int .i64 x39.dom, .int .u32 x39.hard, .int .u32 x39.soft])) (fun γ40 => (alA (al2 rfl (al2 rfl (al1 (by omega)))) (rd_pre (hvs.get hx39) _ rfl))) (fun γ40 => ds_ (sq_ (ao_ (qo0 4 [(1, .go (owns 1 0 1)), (3, .go (owns 0 1 1))] [1, 6, 38, 39, 40] [(46, .slice p n cap), (48, .int .i64 x39.dom)] (cD (.tuple #[.int .i64 ((posK Dom.id ds x39.dom : Nat)), .bool (hasK Dom.id ds x39.dom)]) Try.call47 (fun w hw => placed_d p n cap ds x39.dom w (hds.kept hw.below) hn (by omega) ((ris_iffK ds).1 hrd)) (qo0 5 [] [1, 6, 38, 39, 40] [(8, .bool (hasK Dom.id ds x39.dom))] (on_ (ds_ (sq_ ?_)))))))))
     by_cases q44 : (x39.id : Int) < (1 : Int)
     ·
      refine qa [(1, .go (owns 0 0 1)), (2, .yes)] [1, 38, 39, 40] [(69, .bool true)] ([(x39.id : Int) < (1 : Int)]) (al1 q44) (ds_ (t_ (sq_ (qa0 [] [] [(2, .int .i64 190)] (ds_ (rt ([]) (.int .i64 190) ?_))))))
      exact fun w' hw => ⟨by rw [show guestsB ds vs = false from by unfold guestsB; rw [show vs.all (vmayB ds) = false from List.all_eq_false.2 ⟨x39, List.mem_of_getElem? hx39, by simp only [vmayB, Bool.and_eq_true, decide_eq_true_eq]; omega⟩]; simp]; rfl, hw.below⟩
     ·
      by_cases q48 : (x39.id : Int) > (16 : Int)
      ·
       refine qa [(1, .go (owns 0 0 1)), (2, .no), (5, .go (owns 0 0 1)), (6, .yes)] [1, 38, 39, 40] [(69, .bool true)] ([¬ ((x39.id : Int) < (1 : Int))] ++ ([(x39.id : Int) > (16 : Int)])) (alA (al1 q44) (al1 q48)) (ds_ (t_ (sq_ (qa0 [] [] [(2, .int .i64 190)] (ds_ (rt ([]) (.int .i64 190) ?_))))))
       exact fun w' hw => ⟨by rw [show guestsB ds vs = false from by unfold guestsB; rw [show vs.all (vmayB ds) = false from List.all_eq_false.2 ⟨x39, List.mem_of_getElem? hx39, by simp only [vmayB, Bool.and_eq_true, decide_eq_true_eq]; omega⟩]; simp]; rfl, hw.below⟩
      ·
       refine ao_ (qo 11 [(1, .go (owns 0 0 1)), (2, .no), (5, .go (owns 0 0 1)), (6, .no), (10, .go (owns 0 2 2))] [1, 8, 38, 39, 40] [(60, .bool false), (62, .agg #[.int .u32 x39.hard, .int .u32 x39.soft])] ([¬ ((x39.id : Int) < (1 : Int))] ++ ([¬ ((x39.id : Int) > (16 : Int))])) (alA (al1 q44) (al1 q48)) ?_)
       rcases q52 : maskB x39.hard x39.soft with _ | _
       ·
        refine cD (.int .i64 170) Try.call48 (fun w hw => by have := mask_d x39.hard x39.soft w; rw [q52] at this; exact this) (qo0 6 [] [1, 38, 39, 40] [(69, .bool true)] (on_ (ds_ (t_ (sq_ (qa0 [] [] [(2, .int .i64 190)] (ds_ (rt ([]) (.int .i64 190) ?_))))))))
        exact fun w' hw => ⟨by rw [show guestsB ds vs = false from by unfold guestsB; rw [show vs.all (vmayB ds) = false from List.all_eq_false.2 ⟨x39, List.mem_of_getElem? hx39, by simp [vmayB, q52]⟩]; simp]; rfl, hw.below⟩
       ·
        refine cD (.int .i64 0) Try.call48 (fun w hw => by have := mask_d x39.hard x39.soft w; rw [q52] at this; exact this) ?_
        rcases q56 : hasK Dom.id ds x39.dom with _ | _
        ·
         refine qo0 6 [] [1, 38, 39, 40] [(69, .bool true)] (on_ (ds_ (t_ (sq_ (qa0 [] [] [(2, .int .i64 190)] (ds_ (rt ([]) (.int .i64 190) ?_)))))))
         exact fun w' hw => ⟨by rw [show guestsB ds vs = false from by unfold guestsB; rw [show vs.all (vmayB ds) = false from List.all_eq_false.2 ⟨x39, List.mem_of_getElem? hx39, by simp [vmayB, q56]⟩]; simp]; rfl, hw.below⟩
        ·
         refine qo0 6 [] [1, 38, 39, 40] [(69, .bool false)] (on_ (ds_ (f_ (at_skip (done_block (ds_ (qa [(0, .fit)] [1, 38, 39] [(40, .int .i64 ((j1 + 1 : Nat)))] ([Fit .i64 ((j1 + 1 : Nat))]) (al1 (fit64 (by omega) (by omega))) (Done.drop (L' := [bx (γ1 0) (#[.slice p n cap, .slice (some ⟨b37, o37, none⟩) m capv]) 25]) ?_ (List.Sublist.cons _ (List.Sublist.cons_cons _ (List.Sublist.refl _)))))))))))
         exact dr [1, 38, 39, 40] (j1 + 1) ⟨by omega, by rw [List.take_add_one, hx39]; simp only [List.all_append, hI1, Option.toList_some, List.all_cons, List.all_nil, Bool.true_and, Bool.and_true]; simp only [vmayB, q52, q56, Bool.and_true, decide_eq_true_eq]; omega⟩
    ·
     refine qa [(0, .no)] [1, 38, 39, 40] [(41, .bool false)] ([¬ (((j1 : Nat) : Int) < ((m : Nat) : Int))]) (al1 q34) (ds_ (sq_ (f_ (at_leave _ rfl (ds_ (sq_ (qa0 [] [] [(2, .int .i64 0)] (ds_ (rt ([]) (.int .i64 0) ?_)))))))))
     exact fun w' hw => ⟨by rw [List.take_of_length_le (by omega)] at hI0 hI1; simp only [guestsB, hrd, hrv, hI0, hI1]; rfl, hw.below⟩
end Go.Proofs.Ytnoefldpkfpglaa

/-! Domains: a place among any rows. -/
namespace Go.Proofs.Ytnoefldpkfpglaa
open Go Go.RowKit

set_option maxRecDepth 100000 in
theorem bswd (g : FuncId) (cb : Array Value) (p : Option Addr) (n cap : Nat) (l : List Dom) (c : Dom → Int) (k : Int) (w : World)
 (hg : ∀ args w, (callFunc g args).run Try.prog w = .ok (.enter g args) w)
 (hsl : Sv w p l) (hn : n = l.length) (hb : n ≤ 4611686018427387903)
 (hc : ∀ x ∈ l, ∀ w', Below w.heap.size w w' → Calls Try.prog g (#[.agg #[.int .i64 x.id, .int .i64 x.weight, .int .i64 x.cap, .int .i64 x.pool], .int .i64 k] ++ cb) w' fun e w1 => e = .returned (.int .i64 (c x)) ∧ Below w'.heap.size w' w1)
 : Calls Try.prog 72 #[.slice p n cap, .int .i64 k, .func (.func g) #[] cb] w fun e w' => ∃ (i : Nat) (b : Bool), e = .returned (.tuple #[.int .i64 (i : Nat), .bool b]) ∧ i ≤ n ∧ (b = true → ∃ x, l[i]? = some x ∧ c x = 0) ∧ Below w.heap.size w w' := by
 refine enter (Hs.start w) Try.func72 rfl Try.ntmps72 rfl (sq_ (qa0 [] [0, 1, 2] [] (ds_ (sq_ (qa0 [] [0, 1, 2] [(8, .int .i64 ((n : Nat)))] (ds_ (sq_ (qa0 [] [0, 1, 2, 8] [(9, .int .i64 0), (10, .int .i64 ((n : Nat)))] (ds_ (sq_ (at_block (at_loop (α := Nat × Nat) [0, 1, 2, 8, 9, 10] (fun ⟨lo, hi⟩ => [(0, .slice p n cap), (1, .int .i64 k), (2, .func (.func g) #[] cb), (8, .int .i64 ((n : Nat))), (9, .int .i64 ((lo : Nat))), (10, .int .i64 ((hi : Nat)))]) (fun ⟨lo, hi⟩ => []) (fun ⟨lo, hi⟩ => lo ≤ hi ∧ hi ≤ n) (fun ⟨lo, hi⟩ => hi - lo) (0, n) (by kernel_rfl) rfl ⟨Nat.zero_le _, Nat.le_refl _⟩ ?_))))))))))))
 rintro ⟨lo, hi⟩
 rintro ⟨h1, h2⟩
 refine sq_ (sq_ ?_)
 by_cases q5 : ((lo : Nat) : Int) < ((hi : Nat) : Int)
 ·
  refine qa [(2, .yes)] [0, 1, 2, 8, 9, 10] [(17, .bool true)] ([((lo : Nat) : Int) < ((hi : Nat) : Int)]) (al1 q5) (ds_ (t_ (at_skip (ds_ (at_block (sq_ (qa [(2, .fit), (3, .fit), (4, .is [] (.int .u64 ((lo + hi) / 2 : Nat))), (5, .fit)] [0, 1, 2, 8, 9, 10] [(11, .int .i64 (((lo + hi) / 2 : Nat)))] ([Fit .i64 ((lo + hi : Nat))] ++ ([Fit .u64 ((lo + hi : Nat))] ++ ([Value.int .u64 (Int.fdiv ((lo : Nat) + (hi : Nat)) (2 ^ 1)) = .int .u64 (((lo + hi) / 2 : Nat) : Int)] ++ ([Fit .i64 (((lo + hi) / 2 : Nat))])))) (alA (al1 (fit64 (by omega) (by omega))) (alA (al1 (fitU (by omega) (by omega))) (alA (al1 (half lo hi)) (al1 (fit64 (by omega) (by omega)))))) (ds_ (sq_ ?_)))))))))
  obtain ⟨b9, o9, rfl⟩ := hsl.pos (i := (lo + hi) / 2) (by omega)
  obtain ⟨x11, hx11⟩ := get_some (l := l) (m := (lo + hi) / 2) (by omega)
  refine ao_ (qo 6 [(3, .at b9 o9 ((lo + hi) / 2)), (4, .go (outs b9 (o9 + ((lo + hi) / 2) * 4) [.int .i64 x11.id, .int .i64 x11.weight, .int .i64 x11.cap, .int .i64 x11.pool]))] [0, 1, 2, 8, 9, 10, 11] [(24, .func (.func g) #[] cb), (28, .agg #[.int .i64 x11.id, .int .i64 x11.weight, .int .i64 x11.cap, .int .i64 x11.pool]), (29, .int .i64 k)] ([(some ⟨b9, o9, none⟩ : Option Addr) = some ⟨b9, o9, none⟩, (((lo + hi) / 2 : Nat)) = (((lo + hi) / 2 : Nat) : Int), (lo + hi) / 2 < n] ++ (cellsP w b9 (o9 + ((lo + hi) / 2) * 4) [.int .i64 x11.id, .int .i64 x11.weight, .int .i64 x11.cap, .int .i64 x11.pool])) (alA (al2 rfl (al2 rfl (al1 (by omega)))) (rd_pre (hsl.get hx11) _ rfl)) (cD (.int .i64 (c x11)) hg (fun w hw => hc x11 (List.mem_of_getElem? hx11) w hw.below) ?_))
  by_cases q14 : (c x11 : Int) < (0 : Int)
  ·
   refine qo 1 [(7, .yes)] [0, 1, 2, 8, 9, 10, 11] [(31, .bool true)] ([(c x11 : Int) < (0 : Int)]) (al1 q14) (on_ (ds_ (t_ (qa [(1, .fit)] [0, 1, 2, 8, 10] [(9, .int .i64 (((lo + hi) / 2 + 1 : Nat)))] ([Fit .i64 (((lo + hi) / 2 + 1 : Nat))]) (al1 (fit64 (by omega) (by omega))) (done_block ?_)))))
   exact dr [0, 1, 2, 8, 9, 10] ((lo + hi) / 2 + 1, hi) ⟨by omega, by omega⟩
  ·
   refine qo 1 [(7, .no)] [0, 1, 2, 8, 9, 10, 11] [(31, .bool false)] ([¬ ((c x11 : Int) < (0 : Int))]) (al1 q14) (on_ (ds_ (f_ (qa0 [] [0, 1, 2, 8, 9] [(10, .int .i64 (((lo + hi) / 2 : Nat)))] (done_block ?_)))))
   exact dr [0, 1, 2, 8, 9, 10] (lo, (lo + hi) / 2) ⟨by omega, by omega⟩
 ·
  refine qa [(2, .no)] [0, 1, 2, 8, 9, 10] [(17, .bool false)] ([¬ (((lo : Nat) : Int) < ((hi : Nat) : Int))]) (al1 q5) (ds_ (f_ (at_leave _ rfl (ds_ (sq_ ?_)))))
  by_cases q21 : ((lo : Nat) : Int) < ((n : Nat) : Int)
  ·
   obtain ⟨b23, o23, rfl⟩ := hsl.pos (i := lo) (by omega)
   obtain ⟨x25, hx25⟩ := get_some (l := l) (m := lo) (by omega)
   refine ao_ (qo 11 [(3, .yes), (8, .at b23 o23 lo), (9, .go (outs b23 (o23 + lo * 4) [.int .i64 x25.id, .int .i64 x25.weight, .int .i64 x25.cap, .int .i64 x25.pool]))] [] [(35, .int .i64 ((lo : Nat))), (39, .bool true), (40, .func (.func g) #[] cb), (44, .agg #[.int .i64 x25.id, .int .i64 x25.weight, .int .i64 x25.cap, .int .i64 x25.pool]), (45, .int .i64 k)] ([((lo : Nat) : Int) < ((n : Nat) : Int)] ++ ([(some ⟨b23, o23, none⟩ : Option Addr) = some ⟨b23, o23, none⟩, ((lo : Nat)) = ((lo : Nat) : Int), lo < n] ++ (cellsP w b23 (o23 + lo * 4) [.int .i64 x25.id, .int .i64 x25.weight, .int .i64 x25.cap, .int .i64 x25.pool]))) (alA (al1 q21) (alA (al2 rfl (al2 rfl (al1 (by omega)))) (rd_pre (hsl.get hx25) _ rfl))) (cD (.int .i64 (c x25)) hg (fun w hw => hc x25 (List.mem_of_getElem? hx25) w hw.below) ?_))
   by_cases q28 : (c x25 : Int) = (0 : Int)
   ·
    refine qo 4 [(12, .yes)] [] [(6, .int .i64 ((lo : Nat))), (7, .bool true)] ([(c x25 : Int) = (0 : Int)]) (al1 q28) (on_ (ds_ (rt ([]) (.tuple #[.int .i64 ((lo : Nat)), .bool true]) ?_)))
    exact fun w' hw => ⟨lo, true, rfl, by omega, fun _ => ⟨x25, hx25, q28⟩, hw.below⟩
   ·
    refine qo 4 [(12, .no)] [] [(6, .int .i64 ((lo : Nat))), (7, .bool false)] ([¬ ((c x25 : Int) = (0 : Int))]) (al1 q28) (on_ (ds_ (rt ([]) (.tuple #[.int .i64 ((lo : Nat)), .bool false]) ?_)))
    exact fun w' hw => ⟨lo, false, rfl, by omega, fun h => (by cases h), hw.below⟩
  ·
   refine qa [(3, .no)] [] [(6, .int .i64 ((lo : Nat))), (7, .bool false)] ([¬ (((lo : Nat) : Int) < ((n : Nat) : Int))]) (al1 q21) (ds_ (rt ([]) (.tuple #[.int .i64 ((lo : Nat)), .bool false]) ?_))
   exact fun w' hw => ⟨lo, false, rfl, by omega, fun h => (by cases h), hw.below⟩

set_option maxRecDepth 100000 in
theorem bswv (g : FuncId) (cb : Array Value) (p : Option Addr) (n cap : Nat) (l : List Vcp) (c : Vcp → Int) (k : Int) (w : World)
 (hg : ∀ args w, (callFunc g args).run Try.prog w = .ok (.enter g args) w)
 (hsl : Sv w p l) (hn : n = l.length) (hb : n ≤ 4611686018427387903)
 (hc : ∀ x ∈ l, ∀ w', Below w.heap.size w w' → Calls Try.prog g (#[.agg #[.int .i64 x.id, .int .i64 x.dom, .int .u32 x.hard, .int .u32 x.soft], .int .i64 k] ++ cb) w' fun e w1 => e = .returned (.int .i64 (c x)) ∧ Below w'.heap.size w' w1)
 : Calls Try.prog 78 #[.slice p n cap, .int .i64 k, .func (.func g) #[] cb] w fun e w' => ∃ (i : Nat) (b : Bool), e = .returned (.tuple #[.int .i64 (i : Nat), .bool b]) ∧ i ≤ n ∧ (b = true → ∃ x, l[i]? = some x ∧ c x = 0) ∧ Below w.heap.size w w' := by
 refine enter (Hs.start w) Try.func78 rfl Try.ntmps78 rfl (sq_ (qa0 [] [0, 1, 2] [] (ds_ (sq_ (qa0 [] [0, 1, 2] [(8, .int .i64 ((n : Nat)))] (ds_ (sq_ (qa0 [] [0, 1, 2, 8] [(9, .int .i64 0), (10, .int .i64 ((n : Nat)))] (ds_ (sq_ (at_block (at_loop (α := Nat × Nat) [0, 1, 2, 8, 9, 10] (fun ⟨lo, hi⟩ => [(0, .slice p n cap), (1, .int .i64 k), (2, .func (.func g) #[] cb), (8, .int .i64 ((n : Nat))), (9, .int .i64 ((lo : Nat))), (10, .int .i64 ((hi : Nat)))]) (fun ⟨lo, hi⟩ => []) (fun ⟨lo, hi⟩ => lo ≤ hi ∧ hi ≤ n) (fun ⟨lo, hi⟩ => hi - lo) (0, n) (by kernel_rfl) rfl ⟨Nat.zero_le _, Nat.le_refl _⟩ ?_))))))))))))
 rintro ⟨lo, hi⟩
 rintro ⟨h1, h2⟩
 refine sq_ (sq_ ?_)
 by_cases q5 : ((lo : Nat) : Int) < ((hi : Nat) : Int)
 ·
  refine qa [(2, .yes)] [0, 1, 2, 8, 9, 10] [(17, .bool true)] ([((lo : Nat) : Int) < ((hi : Nat) : Int)]) (al1 q5) (ds_ (t_ (at_skip (ds_ (at_block (sq_ (qa [(2, .fit), (3, .fit), (4, .is [] (.int .u64 ((lo + hi) / 2 : Nat))), (5, .fit)] [0, 1, 2, 8, 9, 10] [(11, .int .i64 (((lo + hi) / 2 : Nat)))] ([Fit .i64 ((lo + hi : Nat))] ++ ([Fit .u64 ((lo + hi : Nat))] ++ ([Value.int .u64 (Int.fdiv ((lo : Nat) + (hi : Nat)) (2 ^ 1)) = .int .u64 (((lo + hi) / 2 : Nat) : Int)] ++ ([Fit .i64 (((lo + hi) / 2 : Nat))])))) (alA (al1 (fit64 (by omega) (by omega))) (alA (al1 (fitU (by omega) (by omega))) (alA (al1 (half lo hi)) (al1 (fit64 (by omega) (by omega)))))) (ds_ (sq_ ?_)))))))))
  obtain ⟨b9, o9, rfl⟩ := hsl.pos (i := (lo + hi) / 2) (by omega)
  obtain ⟨x11, hx11⟩ := get_some (l := l) (m := (lo + hi) / 2) (by omega)
  refine ao_ (qo 6 [(3, .at b9 o9 ((lo + hi) / 2)), (4, .go (outs b9 (o9 + ((lo + hi) / 2) * 4) [.int .i64 x11.id, .int .i64 x11.dom, .int .u32 x11.hard, .int .u32 x11.soft]))] [0, 1, 2, 8, 9, 10, 11] [(24, .func (.func g) #[] cb), (28, .agg #[.int .i64 x11.id, .int .i64 x11.dom, .int .u32 x11.hard, .int .u32 x11.soft]), (29, .int .i64 k)] ([(some ⟨b9, o9, none⟩ : Option Addr) = some ⟨b9, o9, none⟩, (((lo + hi) / 2 : Nat)) = (((lo + hi) / 2 : Nat) : Int), (lo + hi) / 2 < n] ++ (cellsP w b9 (o9 + ((lo + hi) / 2) * 4) [.int .i64 x11.id, .int .i64 x11.dom, .int .u32 x11.hard, .int .u32 x11.soft])) (alA (al2 rfl (al2 rfl (al1 (by omega)))) (rd_pre (hsl.get hx11) _ rfl)) (cD (.int .i64 (c x11)) hg (fun w hw => hc x11 (List.mem_of_getElem? hx11) w hw.below) ?_))
  by_cases q14 : (c x11 : Int) < (0 : Int)
  ·
   refine qo 1 [(7, .yes)] [0, 1, 2, 8, 9, 10, 11] [(31, .bool true)] ([(c x11 : Int) < (0 : Int)]) (al1 q14) (on_ (ds_ (t_ (qa [(1, .fit)] [0, 1, 2, 8, 10] [(9, .int .i64 (((lo + hi) / 2 + 1 : Nat)))] ([Fit .i64 (((lo + hi) / 2 + 1 : Nat))]) (al1 (fit64 (by omega) (by omega))) (done_block ?_)))))
   exact dr [0, 1, 2, 8, 9, 10] ((lo + hi) / 2 + 1, hi) ⟨by omega, by omega⟩
  ·
   refine qo 1 [(7, .no)] [0, 1, 2, 8, 9, 10, 11] [(31, .bool false)] ([¬ ((c x11 : Int) < (0 : Int))]) (al1 q14) (on_ (ds_ (f_ (qa0 [] [0, 1, 2, 8, 9] [(10, .int .i64 (((lo + hi) / 2 : Nat)))] (done_block ?_)))))
   exact dr [0, 1, 2, 8, 9, 10] (lo, (lo + hi) / 2) ⟨by omega, by omega⟩
 ·
  refine qa [(2, .no)] [0, 1, 2, 8, 9, 10] [(17, .bool false)] ([¬ (((lo : Nat) : Int) < ((hi : Nat) : Int))]) (al1 q5) (ds_ (f_ (at_leave _ rfl (ds_ (sq_ ?_)))))
  by_cases q21 : ((lo : Nat) : Int) < ((n : Nat) : Int)
  ·
   obtain ⟨b23, o23, rfl⟩ := hsl.pos (i := lo) (by omega)
   obtain ⟨x25, hx25⟩ := get_some (l := l) (m := lo) (by omega)
   refine ao_ (qo 11 [(3, .yes), (8, .at b23 o23 lo), (9, .go (outs b23 (o23 + lo * 4) [.int .i64 x25.id, .int .i64 x25.dom, .int .u32 x25.hard, .int .u32 x25.soft]))] [] [(35, .int .i64 ((lo : Nat))), (39, .bool true), (40, .func (.func g) #[] cb), (44, .agg #[.int .i64 x25.id, .int .i64 x25.dom, .int .u32 x25.hard, .int .u32 x25.soft]), (45, .int .i64 k)] ([((lo : Nat) : Int) < ((n : Nat) : Int)] ++ ([(some ⟨b23, o23, none⟩ : Option Addr) = some ⟨b23, o23, none⟩, ((lo : Nat)) = ((lo : Nat) : Int), lo < n] ++ (cellsP w b23 (o23 + lo * 4) [.int .i64 x25.id, .int .i64 x25.dom, .int .u32 x25.hard, .int .u32 x25.soft]))) (alA (al1 q21) (alA (al2 rfl (al2 rfl (al1 (by omega)))) (rd_pre (hsl.get hx25) _ rfl))) (cD (.int .i64 (c x25)) hg (fun w hw => hc x25 (List.mem_of_getElem? hx25) w hw.below) ?_))
   by_cases q28 : (c x25 : Int) = (0 : Int)
   ·
    refine qo 4 [(12, .yes)] [] [(6, .int .i64 ((lo : Nat))), (7, .bool true)] ([(c x25 : Int) = (0 : Int)]) (al1 q28) (on_ (ds_ (rt ([]) (.tuple #[.int .i64 ((lo : Nat)), .bool true]) ?_)))
    exact fun w' hw => ⟨lo, true, rfl, by omega, fun _ => ⟨x25, hx25, q28⟩, hw.below⟩
   ·
    refine qo 4 [(12, .no)] [] [(6, .int .i64 ((lo : Nat))), (7, .bool false)] ([¬ ((c x25 : Int) = (0 : Int))]) (al1 q28) (on_ (ds_ (rt ([]) (.tuple #[.int .i64 ((lo : Nat)), .bool false]) ?_)))
    exact fun w' hw => ⟨lo, false, rfl, by omega, fun h => (by cases h), hw.below⟩
  ·
   refine qa [(3, .no)] [] [(6, .int .i64 ((lo : Nat))), (7, .bool false)] ([¬ (((lo : Nat) : Int) < ((n : Nat) : Int))]) (al1 q21) (ds_ (rt ([]) (.tuple #[.int .i64 ((lo : Nat)), .bool false]) ?_))
   exact fun w' hw => ⟨lo, false, rfl, by omega, fun h => (by cases h), hw.below⟩

set_option maxRecDepth 100000 in
theorem placewd_d (p : Option Addr) (n cap : Nat) (ds : List Dom) (k : Int) (w : World)
 (hds : Sv w p ds) (hn : n = ds.length) (hb : n ≤ 1000)
 : Calls Try.prog 47 #[.slice p n cap, .int .i64 k, .func (.func 42) #[] #[]] w fun e w' => ∃ (i : Nat) (b : Bool), e = .returned (.tuple #[.int .i64 (i : Nat), .bool b]) ∧ i ≤ n ∧ (b = true → ∃ x, ds[i]? = some x ∧ x.id = k) ∧ Below w.heap.size w w' := by
 refine enter (Hs.start w) Try.func47 rfl Try.ntmps47 rfl (sq_ (ma0 [] [0, 1] (fun γ1 => [(5, .pointer (some ⟨γ1 0, 0, none⟩))]) (fun γ1 L => bx (γ1 0) (#[.func (.func 42) #[] #[]]) 72 :: L) (fun γ1 => ds_ (sq_ (ao_ (qo0 3 [] [] [(8, .slice p n cap), (9, .int .i64 k), (10, .func (.func 73) #[] #[.pointer (some ⟨γ1 0, 0, none⟩)])] (cP (fun v L' => ∃ (i : Nat) (b : Bool), v = .tuple #[.int .i64 (i : Nat), .bool b] ∧ L' = [bx (γ1 0) (#[.func (.func 42) #[] #[]]) 72] ∧ i ≤ n ∧ (b = true → ∃ x, ds[i]? = some x ∧ cmpI x.id k = 0)) Try.call72 (fun w hw => (bswd 73 #[.pointer (some ⟨γ1 0, 0, none⟩)] p n cap ds (fun x => cmpI x.id k) k w Try.call73 (hds.kept hw.below) hn (by omega) (fun x hx w' hb' => pl1d_d x k (γ1 0) w' (rd_one' ((hb'.block _ (hs_lt (hw.row 0 rfl))).trans (hw.row 0 rfl))))).mono (fun e w' ⟨i, b, he, h1, h2, h3⟩ => ⟨_, _, he, ⟨i, b, rfl, rfl, h1, h2⟩, hw.kept h3⟩)) ?_)))))))
 rintro v3 L3 ⟨i3, b3, rfl, rfl, hi3, hb3⟩
 refine qo0 4 [] [] [(6, .int .i64 ((i3 : Nat))), (7, .bool b3)] (on_ (ds_ (rt ([]) (.tuple #[.int .i64 ((i3 : Nat)), .bool b3]) ?_)))
 exact fun w' hw => ⟨i3, b3, rfl, hi3, fun h => by obtain ⟨x, hx, hc⟩ := hb3 h; exact ⟨x, hx, (cmpI_iff x.id k).2.1 hc⟩, hw.below⟩

set_option maxRecDepth 100000 in
theorem placewv_d (q : Option Addr) (m capv : Nat) (vs : List Vcp) (k : Int) (w : World)
 (hvs : Sv w q vs) (hm : m = vs.length) (hmb : m ≤ 1000)
 : Calls Try.prog 56 #[.slice q m capv, .int .i64 k, .func (.func 44) #[] #[]] w fun e w' => ∃ (i : Nat) (b : Bool), e = .returned (.tuple #[.int .i64 (i : Nat), .bool b]) ∧ i ≤ m ∧ (b = true → ∃ x, vs[i]? = some x ∧ x.id = k) ∧ Below w.heap.size w w' := by
 refine enter (Hs.start w) Try.func56 rfl Try.ntmps56 rfl (sq_ (ma0 [] [0, 1] (fun γ1 => [(5, .pointer (some ⟨γ1 0, 0, none⟩))]) (fun γ1 L => bx (γ1 0) (#[.func (.func 44) #[] #[]]) 74 :: L) (fun γ1 => ds_ (sq_ (ao_ (qo0 3 [] [] [(8, .slice q m capv), (9, .int .i64 k), (10, .func (.func 79) #[] #[.pointer (some ⟨γ1 0, 0, none⟩)])] (cP (fun v L' => ∃ (i : Nat) (b : Bool), v = .tuple #[.int .i64 (i : Nat), .bool b] ∧ L' = [bx (γ1 0) (#[.func (.func 44) #[] #[]]) 74] ∧ i ≤ m ∧ (b = true → ∃ x, vs[i]? = some x ∧ cmpI x.id k = 0)) Try.call78 (fun w hw => (bswv 79 #[.pointer (some ⟨γ1 0, 0, none⟩)] q m capv vs (fun x => cmpI x.id k) k w Try.call79 (hvs.kept hw.below) hm (by omega) (fun x hx w' hb' => pl1v_d x k (γ1 0) w' (rd_one' ((hb'.block _ (hs_lt (hw.row 0 rfl))).trans (hw.row 0 rfl))))).mono (fun e w' ⟨i, b, he, h1, h2, h3⟩ => ⟨_, _, he, ⟨i, b, rfl, rfl, h1, h2⟩, hw.kept h3⟩)) ?_)))))))
 rintro v3 L3 ⟨i3, b3, rfl, rfl, hi3, hb3⟩
 refine qo0 4 [] [] [(6, .int .i64 ((i3 : Nat))), (7, .bool b3)] (on_ (ds_ (rt ([]) (.tuple #[.int .i64 ((i3 : Nat)), .bool b3]) ?_)))
 exact fun w' hw => ⟨i3, b3, rfl, hi3, fun h => by obtain ⟨x, hx, hc⟩ := hb3 h; exact ⟨x, hx, (cmpI_iff x.id k).2.1 hc⟩, hw.below⟩
end Go.Proofs.Ytnoefldpkfpglaa

/-! Domains: what they tell; plain. -/
namespace Go.Proofs.Ytnoefldpkfpglaa
open Go Go.RowKit

section
variable {α β : Type} {l l2 : List α} {x y : α} {j : Nat}
end
/-- What a look for a row answers. -/
def optD : Option Dom → Value
  | some x => .tuple #[.agg #[.int .i64 x.id, .int .i64 x.weight, .int .i64 x.cap, .int .i64 x.pool], .bool true]
  | none => .tuple #[.agg #[.int .i64 0, .int .i64 0, .int .i64 0, .int .i64 0], .bool false]
def optC : Option Vcp → Value
  | some x => .tuple #[.agg #[.int .i64 x.id, .int .i64 x.dom, .int .u32 x.hard, .int .u32 x.soft], .bool true]
  | none => .tuple #[.agg #[.int .i64 0, .int .i64 0, .int .u32 0, .int .u32 0], .bool false]
/-- A look, of guests that may be. -/
def fG {α : Type} (g : Bool) (o : Option α) : Option α := if g = true then o else none
theorem fG_bad {α : Type} {g : Bool} {o : Option α} (h : g = false) : fG g o = none := by simp [fG, h]
theorem fG_ok {α : Type} {g : Bool} {o : Option α} (h : g = true) : fG g o = o := by simp [fG, h]
/-- The same for a row. -/
def lG {α : Type} (g : Bool) (o : List α) : List α := if g = true then o else []
theorem lG_ok {α : Type} {g : Bool} {o : List α} (h : g = true) : lG g o = o := by simp [lG, h]
/-- A domain's vCPUs; a pool's. -/
def ofF (k : Int) (v : Vcp) : List Int := if v.dom = k then [v.id] else []
def ofV (vs : List Vcp) (k : Int) : List Int := vs.flatMap (ofF k)
def poolK (ds : List Dom) (k : Int) : Int := match getK Dom.id ds k with
  | some d => d.pool
  | none => 0
def inF (ds : List Dom) (k : Int) (v : Vcp) : List Int := if poolK ds v.dom = k then [v.id] else []
def inV (ds : List Dom) (vs : List Vcp) (k : Int) : List Int := vs.flatMap (inF ds k)
section
variable {ds : List Dom} {vs : List Vcp} {k : Int} {d : Dom} {v : Vcp} {j : Nat}
theorem ofF_yes (h : v.dom = k) : ofF k v = [v.id] := if_pos h
theorem ofF_no (h : ¬ v.dom = k) : ofF k v = [] := if_neg h
theorem inF_some (hg : getK Dom.id ds v.dom = some d) (h : d.pool = k) : inF ds k v = [v.id] := by simp [inF, poolK, hg, h]
theorem inF_other (hg : getK Dom.id ds v.dom = some d) (h : ¬ d.pool = k) : inF ds k v = [] := by simp [inF, poolK, hg, h]
theorem inF_none (hg : getK Dom.id ds v.dom = none) (h : (0 : Int) = k) : inF ds k v = [v.id] := by simp [inF, poolK, hg, h]
theorem inF_nil (hg : getK Dom.id ds v.dom = none) (h : ¬ (0 : Int) = k) : inF ds k v = [] := by simp [inF, poolK, hg, h]
theorem ofV_len : (ofV vs k).length = cntV vs k := by
  unfold ofV cntV
  induction vs with
  | nil => rfl
  | cons a t ih => by_cases h : a.dom = k <;> simp [ofF, h, ih]
theorem inV_le : (inV ds vs k).length ≤ vs.length := by
  unfold inV
  induction vs with
  | nil => simp
  | cons a t ih =>
    rw [List.flatMap_cons, List.length_append, List.length_cons]
    have : (inF ds k a).length ≤ 1 := by unfold inF; split <;> simp
    omega
/-- One step of a gathering. -/
theorem gath_on {α β : Type} {l : List α} {g : α → List β} {x : α} {ys : List β} {j : Nat} (hx : l[j]? = some x) (e : g x = ys) : (l.take (j + 1)).flatMap g = (l.take j).flatMap g ++ ys := by
  rw [List.take_add_one, hx, List.flatMap_append]; simp [e]
/-- A vCPU's rate. -/
def rateV (ds : List Dom) (vs : List Vcp) (k : Int) : Value := match fG (guestsB ds vs) (getK Vcp.id vs k) with
  | none => .tuple #[.int .i64 0, .int .i64 0, .bool false]
  | some v => match getK Dom.id ds v.dom with
    | some d => .tuple #[.int .i64 d.weight, .int .i64 (cntV vs d.id : Nat), .bool true]
    | none => .tuple #[.int .i64 0, .int .i64 (cntV vs 0 : Nat), .bool true]
/-- The weights of a pool's domains that have vCPUs. -/
def wF (vs : List Vcp) (k : Int) (d : Dom) : Int := if d.pool = k ∧ 0 < cntV vs d.id then d.weight else 0
def wgtV (ds : List Dom) (vs : List Vcp) (k : Int) : Int := (ds.map (wF vs k)).sum
theorem wgt_on (hx : ds[j]? = some d) : wgtV (ds.take (j + 1)) vs k = wgtV (ds.take j) vs k + wF vs k d := by
  unfold wgtV
  rw [List.take_add_one, hx]; simp [List.sum_append]
theorem wgt_zero : wgtV (ds.take 0) vs k = 0 := by simp [wgtV]
theorem wF_yes (h : d.pool = k) (hc : (cntV vs d.id : Int) > 0) : wF vs k d = d.weight := if_pos ⟨h, by omega⟩
theorem wF_pool (h : ¬ d.pool = k) : wF vs k d = 0 := if_neg fun e => h e.1
theorem wF_none (hc : ¬ (cntV vs d.id : Int) > 0) : wF vs k d = 0 := if_neg fun e => hc (by have := e.2; omega)
theorem wF_bnd (hm : mayB d = true) : 0 ≤ wF vs k d ∧ wF vs k d ≤ 65535 := by
  unfold mayB at hm
  simp only [decide_eq_true_eq] at hm
  unfold wF
  split <;> omega
end
end Go.Proofs.Ytnoefldpkfpglaa

/-! Domains: what they tell. -/
namespace Go.Proofs.Ytnoefldpkfpglaa
open Go Go.RowKit

set_option maxRecDepth 100000 in
theorem finddOk (p : Option Addr) (n cap : Nat) (ds : List Dom) (q : Option Addr) (m capv : Nat) (vs : List Vcp) (k : Int) (w : World)
 (hds : Sv w p ds) (hn : n = ds.length) (hb : n ≤ 1000)
 (hvs : Sv w q vs) (hm : m = vs.length) (hmb : m ≤ 1000)
 (hris : Ris Dom.id ds) (hgd : guestsB ds vs = true)
 : Calls Try.prog 68 #[.agg #[.slice p n cap, .slice q m capv], .slice p n cap, .int .i64 k, .func (.func 42) #[] #[]] w fun e w' => e = .returned (optD (fG (guestsB ds vs) (getK Dom.id ds k))) ∧ Below w.heap.size w w' := by
 refine enter (Hs.start w) Try.func68 rfl Try.ntmps68 rfl (sq_ (ma0 [] [1, 2, 3] (fun γ1 => [(4, .pointer (some ⟨γ1 0, 0, none⟩)), (8, .pointer (some ⟨γ1 1, 0, none⟩))]) (fun γ1 L => bx (γ1 1) (#[.int .i64 0, .int .i64 0, .int .i64 0, .int .i64 0]) 32 :: bx (γ1 0) (#[.slice p n cap, .slice q m capv]) 25 :: L) (fun γ1 => ds_ (sq_ (ma0 [] [1, 2, 3, 4, 8] (fun γ2 => [(10, .pointer (some ⟨γ2 0, 0, none⟩))]) (fun γ2 L => bx (γ2 0) (#[.int .i64 0, .int .i64 0, .int .i64 0, .int .i64 0]) 32 :: L) (fun γ2 => ds_ (sq_ (ao_ (qo0 3 [] [1, 4, 8, 10] [(14, .slice p n cap), (15, .int .i64 k), (16, .func (.func 42) #[] #[])] ?_)))))))))
 rcases hg4 : getK Dom.id ds k with _ | y4
 ·
  refine cD (.tuple #[.int .i64 ((posK Dom.id ds k : Nat)), .bool false]) Try.call47 (fun w hw => by have := placed_d p n cap ds k w (hds.kept hw.below) hn (by omega) hris; rw [hasK_none hg4] at this; exact this) (qo0 5 [] [1, 4, 8, 10] [(11, .int .i64 ((posK Dom.id ds k : Nat))), (12, .bool false)] (on_ (ds_ (sq_ (sq_ (qa0 [] [1, 8, 10, 11] [(26, .bool true)] (ds_ (t_ (sq_ (qa0 [(0, .go (owns 0 0 4)), (1, .go (owns 1 0 4))] [8] [(9, .bool false)] (ds_ (rt (owns 1 0 4) (.tuple #[.agg #[.int .i64 0, .int .i64 0, .int .i64 0, .int .i64 0], .bool false]) ?_))))))))))))
  exact fun w' hw => ⟨by rw [fG_ok hgd]; rfl, hw.below⟩
 ·
  have hp_y4 := pos_getK hris hg4
  have hl_y4 := (List.getElem?_eq_some_iff.1 hp_y4).1
  refine cD (.tuple #[.int .i64 ((posK Dom.id ds k : Nat)), .bool true]) Try.call47 (fun w hw => by have := placed_d p n cap ds k w (hds.kept hw.below) hn (by omega) hris; rw [hasK_some hg4] at this; exact this) (qo0 5 [] [1, 4, 8, 10] [(11, .int .i64 ((posK Dom.id ds k : Nat))), (12, .bool true)] (on_ (ds_ (sq_ (sq_ (ao_ (qo0 4 [(3, .go (owns 2 0 2))] [1, 8, 10, 11] [(22, .bool false), (23, .agg #[.slice p n cap, .slice q m capv])] (cD (.int .i64 0) Try.call10 (fun w hw => by have := gcheck_d p n cap ds q m capv vs w (hds.kept hw.below) hn (by omega) (hvs.kept hw.below) hm (by omega); rw [hgd] at this; exact this) (qo0 2 [] [1, 8, 10, 11] [(26, .bool false)] (on_ (ds_ (f_ (at_skip (ds_ (sq_ ?_)))))))))))))))
  obtain ⟨b12, o12, rfl⟩ := hds.pos (i := posK Dom.id ds k) (by omega)
  refine ma [(2, .at b12 o12 (posK Dom.id ds k)), (3, .go (outs b12 (o12 + (posK Dom.id ds k) * 4) [.int .i64 y4.id, .int .i64 y4.weight, .int .i64 y4.cap, .int .i64 y4.pool])), (4, .go (owns 1 0 4))] [8] (fun _ => [(9, .bool true)]) (fun _ L => (L.set 1 (bx (γ1 1) (#[.int .i64 y4.id, .int .i64 y4.weight, .int .i64 y4.cap, .int .i64 y4.pool]) 32))) (fun _ => [(some ⟨b12, o12, none⟩ : Option Addr) = some ⟨b12, o12, none⟩, ((posK Dom.id ds k : Nat)) = ((posK Dom.id ds k : Nat) : Int), posK Dom.id ds k < n] ++ (cellsP w b12 (o12 + (posK Dom.id ds k) * 4) [.int .i64 y4.id, .int .i64 y4.weight, .int .i64 y4.cap, .int .i64 y4.pool])) (fun _ => (alA (al2 rfl (al2 rfl (al1 (by omega)))) (rd_pre (hds.get hp_y4) _ rfl))) (fun _ => ds_ (rt (owns 1 0 4) (.tuple #[.agg #[.int .i64 y4.id, .int .i64 y4.weight, .int .i64 y4.cap, .int .i64 y4.pool], .bool true]) ?_))
  exact fun w' hw => ⟨by rw [fG_ok hgd]; rfl, hw.below⟩

set_option maxRecDepth 100000 in
theorem finddBad (p : Option Addr) (n cap : Nat) (ds : List Dom) (q : Option Addr) (m capv : Nat) (vs : List Vcp) (k : Int) (w : World)
 (hds : Sv w p ds) (hn : n = ds.length) (hb : n ≤ 1000)
 (hvs : Sv w q vs) (hm : m = vs.length) (hmb : m ≤ 1000)
 (hgd : guestsB ds vs = false)
 : Calls Try.prog 68 #[.agg #[.slice p n cap, .slice q m capv], .slice p n cap, .int .i64 k, .func (.func 42) #[] #[]] w fun e w' => e = .returned (optD (fG (guestsB ds vs) (getK Dom.id ds k))) ∧ Below w.heap.size w w' := by
 refine enter (Hs.start w) Try.func68 rfl Try.ntmps68 rfl (sq_ (ma0 [] [1, 2, 3] (fun γ1 => [(4, .pointer (some ⟨γ1 0, 0, none⟩)), (8, .pointer (some ⟨γ1 1, 0, none⟩))]) (fun γ1 L => bx (γ1 1) (#[.int .i64 0, .int .i64 0, .int .i64 0, .int .i64 0]) 32 :: bx (γ1 0) (#[.slice p n cap, .slice q m capv]) 25 :: L) (fun γ1 => ds_ (sq_ (ma0 [] [1, 2, 3, 4, 8] (fun γ2 => [(10, .pointer (some ⟨γ2 0, 0, none⟩))]) (fun γ2 L => bx (γ2 0) (#[.int .i64 0, .int .i64 0, .int .i64 0, .int .i64 0]) 32 :: L) (fun γ2 => ds_ (sq_ (ao_ (qo0 3 [] [1, 4, 8, 10] [(14, .slice p n cap), (15, .int .i64 k), (16, .func (.func 42) #[] #[])] (cP (fun v L' => ∃ (i : Nat) (b : Bool), v = .tuple #[.int .i64 (i : Nat), .bool b] ∧ L' = [bx (γ2 0) (#[.int .i64 0, .int .i64 0, .int .i64 0, .int .i64 0]) 32, bx (γ1 1) (#[.int .i64 0, .int .i64 0, .int .i64 0, .int .i64 0]) 32, bx (γ1 0) (#[.slice p n cap, .slice q m capv]) 25] ∧ i ≤ n ∧ (b = true → ∃ x, ds[i]? = some x ∧ x.id = k)) Try.call47 (fun w hw => (placewd_d p n cap ds k w (hds.kept hw.below) hn (by omega)).mono (fun e w' ⟨i, b, he, h1, h2, h3⟩ => ⟨_, _, he, ⟨i, b, rfl, rfl, h1, h2⟩, hw.kept h3⟩)) ?_))))))))))
 rintro v4 L4 ⟨i4, b4, rfl, rfl, hi4, hb4⟩
 refine qo0 5 [] [1, 4, 8, 10] [(11, .int .i64 ((i4 : Nat))), (12, .bool b4)] (on_ (ds_ (sq_ (sq_ ?_))))
 rcases q7 : b4 with _ | _
 ·
  refine qa0 [] [1, 8, 10, 11] [(26, .bool true)] (ds_ (t_ (sq_ (qa0 [(0, .go (owns 0 0 4)), (1, .go (owns 1 0 4))] [8] [(9, .bool false)] (ds_ (rt (owns 1 0 4) (.tuple #[.agg #[.int .i64 0, .int .i64 0, .int .i64 0, .int .i64 0], .bool false]) ?_))))))
  exact fun w' hw => ⟨by rw [fG_bad hgd]; rfl, hw.below⟩
 ·
  refine ao_ (qo0 4 [(3, .go (owns 2 0 2))] [1, 8, 10, 11] [(22, .bool false), (23, .agg #[.slice p n cap, .slice q m capv])] (cD (.int .i64 190) Try.call10 (fun w hw => by have := gcheck_d p n cap ds q m capv vs w (hds.kept hw.below) hn (by omega) (hvs.kept hw.below) hm (by omega); rw [hgd] at this; exact this) (qo0 2 [] [1, 8, 10, 11] [(26, .bool true)] (on_ (ds_ (t_ (sq_ (qa0 [(0, .go (owns 0 0 4)), (1, .go (owns 1 0 4))] [8] [(9, .bool false)] (ds_ (rt (owns 1 0 4) (.tuple #[.agg #[.int .i64 0, .int .i64 0, .int .i64 0, .int .i64 0], .bool false]) ?_))))))))))
  exact fun w' hw => ⟨by rw [fG_bad hgd]; rfl, hw.below⟩
theorem findd_d (p : Option Addr) (n cap : Nat) (ds : List Dom) (q : Option Addr) (m capv : Nat) (vs : List Vcp) (k : Int) (w : World) (hds : Sv w p ds) (hn : n = ds.length) (hb : n ≤ 1000) (hvs : Sv w q vs) (hm : m = vs.length) (hmb : m ≤ 1000)
 : Calls Try.prog 68 #[.agg #[.slice p n cap, .slice q m capv], .slice p n cap, .int .i64 k, .func (.func 42) #[] #[]] w fun e w' => e = .returned (optD (fG (guestsB ds vs) (getK Dom.id ds k))) ∧ Below w.heap.size w w' := by
 cases hgd : guestsB ds vs with
 | true => have := finddOk p n cap ds q m capv vs k w hds hn hb hvs hm hmb (GoodG.dr (guests_iff.1 hgd)) hgd; rw [hgd] at this; exact this
 | false => have := finddBad p n cap ds q m capv vs k w hds hn hb hvs hm hmb hgd; rw [hgd] at this; exact this

set_option maxRecDepth 100000 in
theorem findvOk (p : Option Addr) (n cap : Nat) (ds : List Dom) (q : Option Addr) (m capv : Nat) (vs : List Vcp) (k : Int) (w : World)
 (hds : Sv w p ds) (hn : n = ds.length) (hb : n ≤ 1000)
 (hvs : Sv w q vs) (hm : m = vs.length) (hmb : m ≤ 1000)
 (hris : Ris Vcp.id vs) (hgd : guestsB ds vs = true)
 : Calls Try.prog 69 #[.agg #[.slice p n cap, .slice q m capv], .slice q m capv, .int .i64 k, .func (.func 44) #[] #[]] w fun e w' => e = .returned (optC (fG (guestsB ds vs) (getK Vcp.id vs k))) ∧ Below w.heap.size w w' := by
 refine enter (Hs.start w) Try.func69 rfl Try.ntmps69 rfl (sq_ (ma0 [] [1, 2, 3] (fun γ1 => [(4, .pointer (some ⟨γ1 0, 0, none⟩)), (8, .pointer (some ⟨γ1 1, 0, none⟩))]) (fun γ1 L => bx (γ1 1) (#[.int .i64 0, .int .i64 0, .int .u32 0, .int .u32 0]) 43 :: bx (γ1 0) (#[.slice p n cap, .slice q m capv]) 25 :: L) (fun γ1 => ds_ (sq_ (ma0 [] [1, 2, 3, 4, 8] (fun γ2 => [(10, .pointer (some ⟨γ2 0, 0, none⟩))]) (fun γ2 L => bx (γ2 0) (#[.int .i64 0, .int .i64 0, .int .u32 0, .int .u32 0]) 43 :: L) (fun γ2 => ds_ (sq_ (ao_ (qo0 3 [] [1, 4, 8, 10] [(14, .slice q m capv), (15, .int .i64 k), (16, .func (.func 44) #[] #[])] ?_)))))))))
 rcases hg4 : getK Vcp.id vs k with _ | y4
 ·
  refine cD (.tuple #[.int .i64 ((posK Vcp.id vs k : Nat)), .bool false]) Try.call56 (fun w hw => by have := placev_d q m capv vs k w (hvs.kept hw.below) hm (by omega) hris; rw [hasK_none hg4] at this; exact this) (qo0 5 [] [1, 4, 8, 10] [(11, .int .i64 ((posK Vcp.id vs k : Nat))), (12, .bool false)] (on_ (ds_ (sq_ (sq_ (qa0 [] [1, 8, 10, 11] [(26, .bool true)] (ds_ (t_ (sq_ (qa0 [(0, .go (owns 0 0 4)), (1, .go (owns 1 0 4))] [8] [(9, .bool false)] (ds_ (rt (owns 1 0 4) (.tuple #[.agg #[.int .i64 0, .int .i64 0, .int .u32 0, .int .u32 0], .bool false]) ?_))))))))))))
  exact fun w' hw => ⟨by rw [fG_ok hgd]; rfl, hw.below⟩
 ·
  have hp_y4 := pos_getK hris hg4
  have hl_y4 := (List.getElem?_eq_some_iff.1 hp_y4).1
  refine cD (.tuple #[.int .i64 ((posK Vcp.id vs k : Nat)), .bool true]) Try.call56 (fun w hw => by have := placev_d q m capv vs k w (hvs.kept hw.below) hm (by omega) hris; rw [hasK_some hg4] at this; exact this) (qo0 5 [] [1, 4, 8, 10] [(11, .int .i64 ((posK Vcp.id vs k : Nat))), (12, .bool true)] (on_ (ds_ (sq_ (sq_ (ao_ (qo0 4 [(3, .go (owns 2 0 2))] [1, 8, 10, 11] [(22, .bool false), (23, .agg #[.slice p n cap, .slice q m capv])] (cD (.int .i64 0) Try.call10 (fun w hw => by have := gcheck_d p n cap ds q m capv vs w (hds.kept hw.below) hn (by omega) (hvs.kept hw.below) hm (by omega); rw [hgd] at this; exact this) (qo0 2 [] [1, 8, 10, 11] [(26, .bool false)] (on_ (ds_ (f_ (at_skip (ds_ (sq_ ?_)))))))))))))))
  obtain ⟨b12, o12, rfl⟩ := hvs.pos (i := posK Vcp.id vs k) (by omega)
  refine ma [(2, .at b12 o12 (posK Vcp.id vs k)), (3, .go (outs b12 (o12 + (posK Vcp.id vs k) * 4) [.int .i64 y4.id, .int .i64 y4.dom, .int .u32 y4.hard, .int .u32 y4.soft])), (4, .go (owns 1 0 4))] [8] (fun _ => [(9, .bool true)]) (fun _ L => (L.set 1 (bx (γ1 1) (#[.int .i64 y4.id, .int .i64 y4.dom, .int .u32 y4.hard, .int .u32 y4.soft]) 43))) (fun _ => [(some ⟨b12, o12, none⟩ : Option Addr) = some ⟨b12, o12, none⟩, ((posK Vcp.id vs k : Nat)) = ((posK Vcp.id vs k : Nat) : Int), posK Vcp.id vs k < m] ++ (cellsP w b12 (o12 + (posK Vcp.id vs k) * 4) [.int .i64 y4.id, .int .i64 y4.dom, .int .u32 y4.hard, .int .u32 y4.soft])) (fun _ => (alA (al2 rfl (al2 rfl (al1 (by omega)))) (rd_pre (hvs.get hp_y4) _ rfl))) (fun _ => ds_ (rt (owns 1 0 4) (.tuple #[.agg #[.int .i64 y4.id, .int .i64 y4.dom, .int .u32 y4.hard, .int .u32 y4.soft], .bool true]) ?_))
  exact fun w' hw => ⟨by rw [fG_ok hgd]; rfl, hw.below⟩

set_option maxRecDepth 100000 in
theorem findvBad (p : Option Addr) (n cap : Nat) (ds : List Dom) (q : Option Addr) (m capv : Nat) (vs : List Vcp) (k : Int) (w : World)
 (hds : Sv w p ds) (hn : n = ds.length) (hb : n ≤ 1000)
 (hvs : Sv w q vs) (hm : m = vs.length) (hmb : m ≤ 1000)
 (hgd : guestsB ds vs = false)
 : Calls Try.prog 69 #[.agg #[.slice p n cap, .slice q m capv], .slice q m capv, .int .i64 k, .func (.func 44) #[] #[]] w fun e w' => e = .returned (optC (fG (guestsB ds vs) (getK Vcp.id vs k))) ∧ Below w.heap.size w w' := by
 refine enter (Hs.start w) Try.func69 rfl Try.ntmps69 rfl (sq_ (ma0 [] [1, 2, 3] (fun γ1 => [(4, .pointer (some ⟨γ1 0, 0, none⟩)), (8, .pointer (some ⟨γ1 1, 0, none⟩))]) (fun γ1 L => bx (γ1 1) (#[.int .i64 0, .int .i64 0, .int .u32 0, .int .u32 0]) 43 :: bx (γ1 0) (#[.slice p n cap, .slice q m capv]) 25 :: L) (fun γ1 => ds_ (sq_ (ma0 [] [1, 2, 3, 4, 8] (fun γ2 => [(10, .pointer (some ⟨γ2 0, 0, none⟩))]) (fun γ2 L => bx (γ2 0) (#[.int .i64 0, .int .i64 0, .int .u32 0, .int .u32 0]) 43 :: L) (fun γ2 => ds_ (sq_ (ao_ (qo0 3 [] [1, 4, 8, 10] [(14, .slice q m capv), (15, .int .i64 k), (16, .func (.func 44) #[] #[])] (cP (fun v L' => ∃ (i : Nat) (b : Bool), v = .tuple #[.int .i64 (i : Nat), .bool b] ∧ L' = [bx (γ2 0) (#[.int .i64 0, .int .i64 0, .int .u32 0, .int .u32 0]) 43, bx (γ1 1) (#[.int .i64 0, .int .i64 0, .int .u32 0, .int .u32 0]) 43, bx (γ1 0) (#[.slice p n cap, .slice q m capv]) 25] ∧ i ≤ m ∧ (b = true → ∃ x, vs[i]? = some x ∧ x.id = k)) Try.call56 (fun w hw => (placewv_d q m capv vs k w (hvs.kept hw.below) hm (by omega)).mono (fun e w' ⟨i, b, he, h1, h2, h3⟩ => ⟨_, _, he, ⟨i, b, rfl, rfl, h1, h2⟩, hw.kept h3⟩)) ?_))))))))))
 rintro v4 L4 ⟨i4, b4, rfl, rfl, hi4, hb4⟩
 refine qo0 5 [] [1, 4, 8, 10] [(11, .int .i64 ((i4 : Nat))), (12, .bool b4)] (on_ (ds_ (sq_ (sq_ ?_))))
 rcases q7 : b4 with _ | _
 ·
  refine qa0 [] [1, 8, 10, 11] [(26, .bool true)] (ds_ (t_ (sq_ (qa0 [(0, .go (owns 0 0 4)), (1, .go (owns 1 0 4))] [8] [(9, .bool false)] (ds_ (rt (owns 1 0 4) (.tuple #[.agg #[.int .i64 0, .int .i64 0, .int .u32 0, .int .u32 0], .bool false]) ?_))))))
  exact fun w' hw => ⟨by rw [fG_bad hgd]; rfl, hw.below⟩
 ·
  refine ao_ (qo0 4 [(3, .go (owns 2 0 2))] [1, 8, 10, 11] [(22, .bool false), (23, .agg #[.slice p n cap, .slice q m capv])] (cD (.int .i64 190) Try.call10 (fun w hw => by have := gcheck_d p n cap ds q m capv vs w (hds.kept hw.below) hn (by omega) (hvs.kept hw.below) hm (by omega); rw [hgd] at this; exact this) (qo0 2 [] [1, 8, 10, 11] [(26, .bool true)] (on_ (ds_ (t_ (sq_ (qa0 [(0, .go (owns 0 0 4)), (1, .go (owns 1 0 4))] [8] [(9, .bool false)] (ds_ (rt (owns 1 0 4) (.tuple #[.agg #[.int .i64 0, .int .i64 0, .int .u32 0, .int .u32 0], .bool false]) ?_))))))))))
  exact fun w' hw => ⟨by rw [fG_bad hgd]; rfl, hw.below⟩
theorem findv_d (p : Option Addr) (n cap : Nat) (ds : List Dom) (q : Option Addr) (m capv : Nat) (vs : List Vcp) (k : Int) (w : World) (hds : Sv w p ds) (hn : n = ds.length) (hb : n ≤ 1000) (hvs : Sv w q vs) (hm : m = vs.length) (hmb : m ≤ 1000)
 : Calls Try.prog 69 #[.agg #[.slice p n cap, .slice q m capv], .slice q m capv, .int .i64 k, .func (.func 44) #[] #[]] w fun e w' => e = .returned (optC (fG (guestsB ds vs) (getK Vcp.id vs k))) ∧ Below w.heap.size w w' := by
 cases hgd : guestsB ds vs with
 | true => have := findvOk p n cap ds q m capv vs k w hds hn hb hvs hm hmb (GoodG.vr (guests_iff.1 hgd)) hgd; rw [hgd] at this; exact this
 | false => have := findvBad p n cap ds q m capv vs k w hds hn hb hvs hm hmb hgd; rw [hgd] at this; exact this

set_option maxRecDepth 100000 in
theorem gdomain_d (p : Option Addr) (n cap : Nat) (ds : List Dom) (q : Option Addr) (m capv : Nat) (vs : List Vcp) (k : Int) (w : World)
 (hds : Sv w p ds) (hn : n = ds.length) (hb : n ≤ 1000)
 (hvs : Sv w q vs) (hm : m = vs.length) (hmb : m ≤ 1000)
 : Calls Try.prog 36 #[.agg #[.slice p n cap, .slice q m capv], .int .i64 k] w fun e w' => e = .returned (optD (fG (guestsB ds vs) (getK Dom.id ds k))) ∧ Below w.heap.size w w' := by
 refine enter (Hs.start w) Try.func36 rfl Try.ntmps36 rfl (sq_ (ma0 [] [1] (fun γ1 => [(2, .pointer (some ⟨γ1 0, 0, none⟩)), (4, .pointer (some ⟨γ1 1, 0, none⟩))]) (fun γ1 L => bx (γ1 1) (#[.int .i64 0, .int .i64 0, .int .i64 0, .int .i64 0]) 32 :: bx (γ1 0) (#[.slice p n cap, .slice q m capv]) 25 :: L) (fun γ1 => ds_ (sq_ (ao_ (qo0 4 [(0, .go (owns 1 0 2)), (2, .go (owns 1 0 1))] [4] [(6, .agg #[.slice p n cap, .slice q m capv]), (8, .slice p n cap), (9, .int .i64 k)] ?_))))))
 rcases q3 : guestsB ds vs with _ | _
 ·
  refine cD (.tuple #[.agg #[.int .i64 0, .int .i64 0, .int .i64 0, .int .i64 0], .bool false]) Try.call68 (fun w hw => by have := findd_d p n cap ds q m capv vs k w (hds.kept hw.below) hn (by omega) (hvs.kept hw.below) hm (by omega); rw [fG_bad q3] at this; exact this) (qo0 4 [(7, .go (owns 0 0 4))] [4] [(5, .bool false)] (on_ (ds_ (rt (owns 0 0 4) (.tuple #[.agg #[.int .i64 0, .int .i64 0, .int .i64 0, .int .i64 0], .bool false]) ?_))))
  exact fun w' hw => ⟨rfl, hw.below⟩
 ·
  rcases hg5 : getK Dom.id ds k with _ | y5
  ·
   refine cD (.tuple #[.agg #[.int .i64 0, .int .i64 0, .int .i64 0, .int .i64 0], .bool false]) Try.call68 (fun w hw => by have := findd_d p n cap ds q m capv vs k w (hds.kept hw.below) hn (by omega) (hvs.kept hw.below) hm (by omega); rw [fG_ok q3, hg5] at this; exact this) (qo0 4 [(7, .go (owns 0 0 4))] [4] [(5, .bool false)] (on_ (ds_ (rt (owns 0 0 4) (.tuple #[.agg #[.int .i64 0, .int .i64 0, .int .i64 0, .int .i64 0], .bool false]) ?_))))
   exact fun w' hw => ⟨rfl, hw.below⟩
  ·
   refine cD (.tuple #[.agg #[.int .i64 y5.id, .int .i64 y5.weight, .int .i64 y5.cap, .int .i64 y5.pool], .bool true]) Try.call68 (fun w hw => by have := findd_d p n cap ds q m capv vs k w (hds.kept hw.below) hn (by omega) (hvs.kept hw.below) hm (by omega); rw [fG_ok q3, hg5] at this; exact this) (mo0 4 [(7, .go (owns 0 0 4))] [4] (fun _ => [(5, .bool true)]) (fun _ L => (L.set 0 (bx (γ1 1) (#[.int .i64 y5.id, .int .i64 y5.weight, .int .i64 y5.cap, .int .i64 y5.pool]) 32))) (fun _ => on_ (ds_ (rt (owns 0 0 4) (.tuple #[.agg #[.int .i64 y5.id, .int .i64 y5.weight, .int .i64 y5.cap, .int .i64 y5.pool], .bool true]) ?_))))
   exact fun w' hw => ⟨rfl, hw.below⟩

set_option maxRecDepth 100000 in
theorem gvcpu_d (p : Option Addr) (n cap : Nat) (ds : List Dom) (q : Option Addr) (m capv : Nat) (vs : List Vcp) (k : Int) (w : World)
 (hds : Sv w p ds) (hn : n = ds.length) (hb : n ≤ 1000)
 (hvs : Sv w q vs) (hm : m = vs.length) (hmb : m ≤ 1000)
 : Calls Try.prog 37 #[.agg #[.slice p n cap, .slice q m capv], .int .i64 k] w fun e w' => e = .returned (optC (fG (guestsB ds vs) (getK Vcp.id vs k))) ∧ Below w.heap.size w w' := by
 refine enter (Hs.start w) Try.func37 rfl Try.ntmps37 rfl (sq_ (ma0 [] [1] (fun γ1 => [(2, .pointer (some ⟨γ1 0, 0, none⟩)), (4, .pointer (some ⟨γ1 1, 0, none⟩))]) (fun γ1 L => bx (γ1 1) (#[.int .i64 0, .int .i64 0, .int .u32 0, .int .u32 0]) 43 :: bx (γ1 0) (#[.slice p n cap, .slice q m capv]) 25 :: L) (fun γ1 => ds_ (sq_ (ao_ (qo0 4 [(0, .go (owns 1 0 2)), (2, .go (owns 1 1 1))] [4] [(6, .agg #[.slice p n cap, .slice q m capv]), (8, .slice q m capv), (9, .int .i64 k)] ?_))))))
 rcases q3 : guestsB ds vs with _ | _
 ·
  refine cD (.tuple #[.agg #[.int .i64 0, .int .i64 0, .int .u32 0, .int .u32 0], .bool false]) Try.call69 (fun w hw => by have := findv_d p n cap ds q m capv vs k w (hds.kept hw.below) hn (by omega) (hvs.kept hw.below) hm (by omega); rw [fG_bad q3] at this; exact this) (qo0 4 [(7, .go (owns 0 0 4))] [4] [(5, .bool false)] (on_ (ds_ (rt (owns 0 0 4) (.tuple #[.agg #[.int .i64 0, .int .i64 0, .int .u32 0, .int .u32 0], .bool false]) ?_))))
  exact fun w' hw => ⟨rfl, hw.below⟩
 ·
  rcases hg5 : getK Vcp.id vs k with _ | y5
  ·
   refine cD (.tuple #[.agg #[.int .i64 0, .int .i64 0, .int .u32 0, .int .u32 0], .bool false]) Try.call69 (fun w hw => by have := findv_d p n cap ds q m capv vs k w (hds.kept hw.below) hn (by omega) (hvs.kept hw.below) hm (by omega); rw [fG_ok q3, hg5] at this; exact this) (qo0 4 [(7, .go (owns 0 0 4))] [4] [(5, .bool false)] (on_ (ds_ (rt (owns 0 0 4) (.tuple #[.agg #[.int .i64 0, .int .i64 0, .int .u32 0, .int .u32 0], .bool false]) ?_))))
   exact fun w' hw => ⟨rfl, hw.below⟩
  ·
   refine cD (.tuple #[.agg #[.int .i64 y5.id, .int .i64 y5.dom, .int .u32 y5.hard, .int .u32 y5.soft], .bool true]) Try.call69 (fun w hw => by have := findv_d p n cap ds q m capv vs k w (hds.kept hw.below) hn (by omega) (hvs.kept hw.below) hm (by omega); rw [fG_ok q3, hg5] at this; exact this) (mo0 4 [(7, .go (owns 0 0 4))] [4] (fun _ => [(5, .bool true)]) (fun _ L => (L.set 0 (bx (γ1 1) (#[.int .i64 y5.id, .int .i64 y5.dom, .int .u32 y5.hard, .int .u32 y5.soft]) 43))) (fun _ => on_ (ds_ (rt (owns 0 0 4) (.tuple #[.agg #[.int .i64 y5.id, .int .i64 y5.dom, .int .u32 y5.hard, .int .u32 y5.soft], .bool true]) ?_))))
   exact fun w' hw => ⟨rfl, hw.below⟩
end Go.Proofs.Ytnoefldpkfpglaa

/-! Domains: what they tell. -/
namespace Go.Proofs.Ytnoefldpkfpglaa
open Go Go.RowKit

set_option maxRecDepth 100000 in
theorem of_d (p : Option Addr) (n cap : Nat) (ds : List Dom) (q : Option Addr) (m capv : Nat) (vs : List Vcp) (k : Int) (w : World)
 (hds : Sv w p ds) (hn : n = ds.length) (hb : n ≤ 1000)
 (hvs : Sv w q vs) (hm : m = vs.length) (hmb : m ≤ 1000)
 : Calls Try.prog 11 #[.agg #[.slice p n cap, .slice q m capv], .int .i64 k] w fun e w' => ∃ q m capq Y, e = .returned (.slice q m capq) ∧ SlO 3 Y q m capq (lG (guestsB ds vs) (ofV vs k)) ∧ m ≤ 1000 ∧ Below w.heap.size w w' ∧ Hs w Y w' := by
 refine enter (Hs.start w) Try.func11 rfl Try.ntmps11 rfl (sq_ (ma0 [] [] (fun γ1 => [(2, .pointer (some ⟨γ1 0, 0, none⟩)), (3, .pointer (some ⟨γ1 1, 0, none⟩))]) (fun γ1 L => bx (γ1 1) (#[.int .i64 k]) 3 :: bx (γ1 0) (#[.slice p n cap, .slice q m capv]) 25 :: L) (fun γ1 => ds_ (sq_ (ao_ (qo0 2 [(0, .go (owns 1 0 2))] [] [(5, .agg #[.slice p n cap, .slice q m capv]), (6, .func (.func 50) #[] #[.pointer (some ⟨γ1 1, 0, none⟩)])] (ops_inline (g := 49) (args := #[.agg #[.slice p n cap, .slice q m capv], .func (.func 50) #[] #[.pointer (some ⟨γ1 1, 0, none⟩)]]) (by kernel_rfl) (by kernel_rfl) (by kernel_rfl) (fun args w => Try.call49 args w) Try.func49 rfl Try.ntmps49 rfl (sq_ (ma0 [] [1] (fun γ3 => [(2, .pointer (some ⟨γ3 0, 0, none⟩))]) (fun γ3 L => bx (γ3 0) (#[.slice p n cap, .slice q m capv]) 25 :: L) (fun γ3 => ds_ (sq_ (sq_ (ao_ (qo0 1 [(0, .go (owns 0 0 2))] [1, 2] [(8, .agg #[.slice p n cap, .slice q m capv])] ?_))))))))))))))
 rcases q5 : guestsB ds vs with _ | _
 ·
  refine cD (.int .i64 190) Try.call10 (fun w hw => by have := gcheck_d p n cap ds q m capv vs w (hds.kept hw.below) hn (by omega) (hvs.kept hw.below) hm (by omega); rw [q5] at this; exact this) (qo0 1 [] [1, 2] [(10, .bool true)] (on_ (ds_ (t_ (sq_ (qa0 [] [] [(4, .slice none 0 0)] (ds_ (bk ([]) (.slice none 0 0) (qo0 1 [] [] [(4, .slice none 0 0)] (on_ (ds_ (rt ([]) (.slice none 0 0) ?_))))))))))))
  exact fun w' hw => ⟨none, 0, 0, [], rfl, SlO.nil, by omega, hw.below, hw.sub (List.nil_sublist _)⟩
 ·
  refine cD (.int .i64 0) Try.call10 (fun w hw => by have := gcheck_d p n cap ds q m capv vs w (hds.kept hw.below) hn (by omega) (hvs.kept hw.below) hm (by omega); rw [q5] at this; exact this) (qo0 1 [] [1, 2] [(10, .bool false)] (on_ (ds_ (f_ (at_skip (ds_ (sq_ (qa0 [] [1, 2] [(5, .slice none 0 0)] (ds_ (sq_ (sq_ (qa0 [(1, .go (owns 0 1 1))] [1, 5] [(12, .slice q m capv), (13, .int .i64 ((m : Nat))), (14, .int .i64 0)] (ds_ (at_block (at_loop (α := Nat × List Ob × Option Addr × Nat × Nat) [1, 5, 12, 13, 14] (fun ⟨j, Yo, po, nu, co⟩ => [(1, .func (.func 50) #[] #[.pointer (some ⟨γ1 1, 0, none⟩)]), (5, .slice po nu co), (12, .slice q m capv), (13, .int .i64 ((m : Nat))), (14, .int .i64 ((j : Nat)))]) (fun ⟨j, Yo, po, nu, co⟩ => bx (γ3 0) (#[.slice p n cap, .slice q m capv]) 25 :: bx (γ1 1) (#[.int .i64 k]) 3 :: bx (γ1 0) (#[.slice p n cap, .slice q m capv]) 25 :: (Yo ++ [])) (fun ⟨j, Yo, po, nu, co⟩ => j ≤ m ∧ nu ≤ j ∧ SlO 3 Yo po nu co ((vs.take j).flatMap (ofF k))) (fun ⟨j, Yo, po, nu, co⟩ => m - j) (0, [], none, 0, 0) (by kernel_rfl) rfl ⟨Nat.zero_le _, Nat.le_refl _, by rw [List.take_zero]; exact SlO.nil⟩ ?_)))))))))))))))
  rintro ⟨j, Yo, po, nu, co⟩
  rintro ⟨hj, hnu, hO⟩
  refine sq_ ?_
  by_cases q13 : ((j : Nat) : Int) < ((m : Nat) : Int)
  ·
   refine qa [(0, .yes)] [1, 5, 12, 13, 14] [(15, .bool true)] ([((j : Nat) : Int) < ((m : Nat) : Int)]) (al1 q13) (ds_ (sq_ (t_ (at_skip (ds_ (sq_ (at_block (sq_ ?_))))))))
   obtain ⟨b16, o16, rfl⟩ := hvs.pos (i := j) (by omega)
   obtain ⟨x18, hx18⟩ := get_some (l := vs) (m := j) (by omega)
   refine ma [(0, .at b16 o16 j), (1, .go (outs b16 (o16 + j * 4) [.int .i64 x18.id, .int .i64 x18.dom, .int .u32 x18.hard, .int .u32 x18.soft])), (3, .go (owns 0 0 4))] [1, 5, 12, 13, 14] (fun γ19 => [(7, .pointer (some ⟨γ19 0, 0, none⟩))]) (fun γ19 L => bx (γ19 0) (#[.int .i64 x18.id, .int .i64 x18.dom, .int .u32 x18.hard, .int .u32 x18.soft]) 43 :: L) (fun γ19 => [(some ⟨b16, o16, none⟩ : Option Addr) = some ⟨b16, o16, none⟩, ((j : Nat)) = ((j : Nat) : Int), j < m] ++ (cellsP w b16 (o16 + j * 4) [.int .i64 x18.id, .int .i64 x18.dom, .int .u32 x18.hard, .int .u32 x18.soft])) (fun γ19 => (alA (al2 rfl (al2 rfl (al1 (by omega)))) (rd_pre (hvs.get hx18) _ rfl))) (fun γ19 => ds_ (sq_ (ao_ (qo0 2 [(1, .go (owns 0 0 4))] [1, 5, 7, 12, 13, 14] [(18, .func (.func 50) #[] #[.pointer (some ⟨γ1 1, 0, none⟩)]), (19, .agg #[.int .i64 x18.id, .int .i64 x18.dom, .int .u32 x18.hard, .int .u32 x18.soft])] (ops_inline (g := 50) (args := #[.agg #[.int .i64 x18.id, .int .i64 x18.dom, .int .u32 x18.hard, .int .u32 x18.soft], .pointer (some ⟨γ1 1, 0, none⟩)]) (by kernel_rfl) (by kernel_rfl) (by kernel_rfl) (fun args w => Try.call50 args w) Try.func50 rfl Try.ntmps50 rfl (sq_ (ma0 [] [1] (fun γ21 => [(2, .pointer (some ⟨γ21 0, 0, none⟩))]) (fun γ21 L => bx (γ21 0) (#[.int .i64 x18.id, .int .i64 x18.dom, .int .u32 x18.hard, .int .u32 x18.soft]) 43 :: L) (fun γ21 => ds_ (sq_ ?_)))))))))
   by_cases q23 : (x18.dom : Int) = (k : Int)
   ·
    refine qa [(1, .go (owns 0 1 1)), (2, .go (owns 3 0 1)), (3, .yes)] [] [(3, .bool true)] ([(x18.dom : Int) = (k : Int)]) (al1 q23) (ds_ (bk ([]) (.bool true) (on_ (ds_ (t_ (ao_ (mo0 4 [(2, .go (owns 1 0 1))] [1, 12, 13, 14] (fun γ26 => [(21, .slice po nu co), (24, .slice (some ⟨γ26 0, 0, none⟩) 1 1)]) (fun γ26 L => bx (γ26 0) (#[.int .i64 x18.id]) 3 :: L) (fun γ26 => ops_append (α := Int) [bx (γ26 0) (#[.int .i64 x18.id]) 3, bx (γ21 0) (#[.int .i64 x18.id, .int .i64 x18.dom, .int .u32 x18.hard, .int .u32 x18.soft]) 43, bx (γ19 0) (#[.int .i64 x18.id, .int .i64 x18.dom, .int .u32 x18.hard, .int .u32 x18.soft]) 43, bx (γ3 0) (#[.slice p n cap, .slice (some ⟨b16, o16, none⟩) m capv]) 25, bx (γ1 1) (#[.int .i64 k]) 3, bx (γ1 0) (#[.slice p n cap, .slice (some ⟨b16, o16, none⟩) m capv]) 25] Yo ([]) (.refl _) rfl (by kernel_rfl) (by kernel_rfl) (p := po) (n := nu) (cap := co) (m := 1) (yv := .slice (some ⟨γ26 0, 0, none⟩) 1 1) (by kernel_rfl) (by kernel_rfl) (T := 3) (by_ := 8) (by kernel_rfl) (((vs.take j).flatMap (ofF k))) ([x18.id]) hO (fun w hw => src_svn Try.underlying33 (sv_row (hw.row 0 rfl) (by rfl)) (by rfl)) (by rfl) (by have hmx : maxLen = 9223372036854775807 := rfl; omega) (by have hmx : maxLen = 9223372036854775807 := rfl; omega) (fun Y27 p27 cap27 hO27 => qo0 1 [] [1, 12, 13, 14] [(5, .slice p27 (nu + 1) cap27)] (on_ (done_block (ds_ (qa [(0, .fit)] [1, 5, 12, 13] [(14, .int .i64 ((j + 1 : Nat)))] ([Fit .i64 ((j + 1 : Nat))]) (al1 (fit64 (by omega) (by omega))) (Done.drop (L' := bx (γ3 0) (#[.slice p n cap, .slice (some ⟨b16, o16, none⟩) m capv]) 25 :: bx (γ1 1) (#[.int .i64 k]) 3 :: bx (γ1 0) (#[.slice p n cap, .slice (some ⟨b16, o16, none⟩) m capv]) 25 :: (Y27 ++ [])) ?_ (List.Sublist.cons _ (List.Sublist.cons _ (List.Sublist.cons _ (List.Sublist.cons_cons _ (List.Sublist.cons_cons _ (List.Sublist.cons_cons _ (List.Sublist.refl _)))))))))))))))))))))
    exact dr [1, 5, 12, 13, 14] (j + 1, Y27, p27, (nu + 1), cap27) ⟨by omega, by omega, by rw [gath_on hx18 (ofF_yes q23)]; exact hO27⟩
   ·
    refine qa [(1, .go (owns 0 1 1)), (2, .go (owns 3 0 1)), (3, .no)] [] [(3, .bool false)] ([¬ ((x18.dom : Int) = (k : Int))]) (al1 q23) (ds_ (bk ([]) (.bool false) (on_ (ds_ (f_ (at_skip (done_block (ds_ (qa [(0, .fit)] [1, 5, 12, 13] [(14, .int .i64 ((j + 1 : Nat)))] ([Fit .i64 ((j + 1 : Nat))]) (al1 (fit64 (by omega) (by omega))) (Done.drop (L' := bx (γ3 0) (#[.slice p n cap, .slice (some ⟨b16, o16, none⟩) m capv]) 25 :: bx (γ1 1) (#[.int .i64 k]) 3 :: bx (γ1 0) (#[.slice p n cap, .slice (some ⟨b16, o16, none⟩) m capv]) 25 :: (Yo ++ [])) ?_ (List.Sublist.cons _ (List.Sublist.cons _ (List.Sublist.cons_cons _ (List.Sublist.cons_cons _ (List.Sublist.cons_cons _ (List.Sublist.refl _))))))))))))))))
    exact dr [1, 5, 12, 13, 14] (j + 1, Yo, po, nu, co) ⟨by omega, by omega, by rw [gath_on hx18 (ofF_no q23), List.append_nil]; exact hO⟩
  ·
   refine qa [(0, .no)] [1, 5, 12, 13, 14] [(15, .bool false)] ([¬ (((j : Nat) : Int) < ((m : Nat) : Int))]) (al1 q13) (ds_ (sq_ (f_ (at_leave _ rfl (ds_ (sq_ (qa0 [] [] [(4, .slice po nu co)] (ds_ (bk ([]) (.slice po nu co) (qo0 1 [] [] [(4, .slice po nu co)] (on_ (ds_ (rt ([]) (.slice po nu co) ?_)))))))))))))
   exact fun w' hw => by rw [List.take_of_length_le (by omega)] at hO; exact ⟨_, _, _, _, rfl, hO, by omega, hw.below, ((hw.tailN 3).sub (List.sublist_append_left Yo ([])))⟩

set_option maxRecDepth 100000 in
theorem in_d (p : Option Addr) (n cap : Nat) (ds : List Dom) (q : Option Addr) (m capv : Nat) (vs : List Vcp) (k : Int) (w : World)
 (hds : Sv w p ds) (hn : n = ds.length) (hb : n ≤ 1000)
 (hvs : Sv w q vs) (hm : m = vs.length) (hmb : m ≤ 1000)
 : Calls Try.prog 13 #[.agg #[.slice p n cap, .slice q m capv], .int .i64 k] w fun e w' => ∃ q m capq Y, e = .returned (.slice q m capq) ∧ SlO 3 Y q m capq (lG (guestsB ds vs) (inV ds vs k)) ∧ m ≤ 1000 ∧ Below w.heap.size w w' ∧ Hs w Y w' := by
 refine enter (Hs.start w) Try.func13 rfl Try.ntmps13 rfl (sq_ (ma0 [] [] (fun γ1 => [(2, .pointer (some ⟨γ1 0, 0, none⟩)), (3, .pointer (some ⟨γ1 1, 0, none⟩))]) (fun γ1 L => bx (γ1 1) (#[.int .i64 k]) 3 :: bx (γ1 0) (#[.slice p n cap, .slice q m capv]) 25 :: L) (fun γ1 => ds_ (sq_ (ao_ (qo0 2 [(0, .go (owns 1 0 2))] [] [(5, .agg #[.slice p n cap, .slice q m capv]), (6, .func (.func 51) #[] #[.pointer (some ⟨γ1 0, 0, none⟩), .pointer (some ⟨γ1 1, 0, none⟩)])] (ops_inline (g := 49) (args := #[.agg #[.slice p n cap, .slice q m capv], .func (.func 51) #[] #[.pointer (some ⟨γ1 0, 0, none⟩), .pointer (some ⟨γ1 1, 0, none⟩)]]) (by kernel_rfl) (by kernel_rfl) (by kernel_rfl) (fun args w => Try.call49 args w) Try.func49 rfl Try.ntmps49 rfl (sq_ (ma0 [] [1] (fun γ3 => [(2, .pointer (some ⟨γ3 0, 0, none⟩))]) (fun γ3 L => bx (γ3 0) (#[.slice p n cap, .slice q m capv]) 25 :: L) (fun γ3 => ds_ (sq_ (sq_ (ao_ (qo0 1 [(0, .go (owns 0 0 2))] [1, 2] [(8, .agg #[.slice p n cap, .slice q m capv])] ?_))))))))))))))
 rcases q5 : guestsB ds vs with _ | _
 ·
  refine cD (.int .i64 190) Try.call10 (fun w hw => by have := gcheck_d p n cap ds q m capv vs w (hds.kept hw.below) hn (by omega) (hvs.kept hw.below) hm (by omega); rw [q5] at this; exact this) (qo0 1 [] [1, 2] [(10, .bool true)] (on_ (ds_ (t_ (sq_ (qa0 [] [] [(4, .slice none 0 0)] (ds_ (bk ([]) (.slice none 0 0) (qo0 1 [] [] [(4, .slice none 0 0)] (on_ (ds_ (rt ([]) (.slice none 0 0) ?_))))))))))))
  exact fun w' hw => ⟨none, 0, 0, [], rfl, SlO.nil, by omega, hw.below, hw.sub (List.nil_sublist _)⟩
 ·
  refine cD (.int .i64 0) Try.call10 (fun w hw => by have := gcheck_d p n cap ds q m capv vs w (hds.kept hw.below) hn (by omega) (hvs.kept hw.below) hm (by omega); rw [q5] at this; exact this) (qo0 1 [] [1, 2] [(10, .bool false)] (on_ (ds_ (f_ (at_skip (ds_ (sq_ (qa0 [] [1, 2] [(5, .slice none 0 0)] (ds_ (sq_ (sq_ (qa0 [(1, .go (owns 0 1 1))] [1, 5] [(12, .slice q m capv), (13, .int .i64 ((m : Nat))), (14, .int .i64 0)] (ds_ (at_block (at_loop (α := Nat × List Ob × Option Addr × Nat × Nat) [1, 5, 12, 13, 14] (fun ⟨j, Yo, po, nu, co⟩ => [(1, .func (.func 51) #[] #[.pointer (some ⟨γ1 0, 0, none⟩), .pointer (some ⟨γ1 1, 0, none⟩)]), (5, .slice po nu co), (12, .slice q m capv), (13, .int .i64 ((m : Nat))), (14, .int .i64 ((j : Nat)))]) (fun ⟨j, Yo, po, nu, co⟩ => bx (γ3 0) (#[.slice p n cap, .slice q m capv]) 25 :: bx (γ1 1) (#[.int .i64 k]) 3 :: bx (γ1 0) (#[.slice p n cap, .slice q m capv]) 25 :: (Yo ++ [])) (fun ⟨j, Yo, po, nu, co⟩ => j ≤ m ∧ nu ≤ j ∧ SlO 3 Yo po nu co ((vs.take j).flatMap (inF ds k))) (fun ⟨j, Yo, po, nu, co⟩ => m - j) (0, [], none, 0, 0) (by kernel_rfl) rfl ⟨Nat.zero_le _, Nat.le_refl _, by rw [List.take_zero]; exact SlO.nil⟩ ?_)))))))))))))))
  rintro ⟨j, Yo, po, nu, co⟩
  rintro ⟨hj, hnu, hO⟩
  refine sq_ ?_
  by_cases q13 : ((j : Nat) : Int) < ((m : Nat) : Int)
  ·
   refine qa [(0, .yes)] [1, 5, 12, 13, 14] [(15, .bool true)] ([((j : Nat) : Int) < ((m : Nat) : Int)]) (al1 q13) (ds_ (sq_ (t_ (at_skip (ds_ (sq_ (at_block (sq_ ?_))))))))
   obtain ⟨b16, o16, rfl⟩ := hvs.pos (i := j) (by omega)
   obtain ⟨x18, hx18⟩ := get_some (l := vs) (m := j) (by omega)
   refine ma [(0, .at b16 o16 j), (1, .go (outs b16 (o16 + j * 4) [.int .i64 x18.id, .int .i64 x18.dom, .int .u32 x18.hard, .int .u32 x18.soft])), (3, .go (owns 0 0 4))] [1, 5, 12, 13, 14] (fun γ19 => [(7, .pointer (some ⟨γ19 0, 0, none⟩))]) (fun γ19 L => bx (γ19 0) (#[.int .i64 x18.id, .int .i64 x18.dom, .int .u32 x18.hard, .int .u32 x18.soft]) 43 :: L) (fun γ19 => [(some ⟨b16, o16, none⟩ : Option Addr) = some ⟨b16, o16, none⟩, ((j : Nat)) = ((j : Nat) : Int), j < m] ++ (cellsP w b16 (o16 + j * 4) [.int .i64 x18.id, .int .i64 x18.dom, .int .u32 x18.hard, .int .u32 x18.soft])) (fun γ19 => (alA (al2 rfl (al2 rfl (al1 (by omega)))) (rd_pre (hvs.get hx18) _ rfl))) (fun γ19 => ds_ (sq_ (ao_ (qo0 2 [(1, .go (owns 0 0 4))] [1, 5, 7, 12, 13, 14] [(18, .func (.func 51) #[] #[.pointer (some ⟨γ1 0, 0, none⟩), .pointer (some ⟨γ1 1, 0, none⟩)]), (19, .agg #[.int .i64 x18.id, .int .i64 x18.dom, .int .u32 x18.hard, .int .u32 x18.soft])] (ops_inline (g := 51) (args := #[.agg #[.int .i64 x18.id, .int .i64 x18.dom, .int .u32 x18.hard, .int .u32 x18.soft], .pointer (some ⟨γ1 0, 0, none⟩), .pointer (some ⟨γ1 1, 0, none⟩)]) (by kernel_rfl) (by kernel_rfl) (by kernel_rfl) (fun args w => Try.call51 args w) Try.func51 rfl Try.ntmps51 rfl (sq_ (ma0 [] [1, 2] (fun γ21 => [(3, .pointer (some ⟨γ21 0, 0, none⟩))]) (fun γ21 L => bx (γ21 0) (#[.int .i64 x18.id, .int .i64 x18.dom, .int .u32 x18.hard, .int .u32 x18.soft]) 43 :: L) (fun γ21 => ds_ (sq_ (ao_ (qo0 3 [(0, .go (owns 4 0 2)), (2, .go (owns 0 1 1))] [2] [(8, .agg #[.slice p n cap, .slice (some ⟨b16, o16, none⟩) m capv]), (10, .int .i64 x18.dom)] ?_)))))))))))
   rcases hg23 : getK Dom.id ds x18.dom with _ | y23
   ·
    refine cD (.tuple #[.agg #[.int .i64 0, .int .i64 0, .int .i64 0, .int .i64 0], .bool false]) Try.call36 (fun w hw => by have := gdomain_d p n cap ds (some ⟨b16, o16, none⟩) m capv vs x18.dom w (hds.kept hw.below) hn (by omega) (hvs.kept hw.below) hm (by omega); rw [fG_ok q5, hg23] at this; exact this) (mo0 6 [(8, .go (owns 0 0 4))] [2] (fun γ24 => [(5, .pointer (some ⟨γ24 0, 0, none⟩))]) (fun γ24 L => bx (γ24 0) (#[.int .i64 0, .int .i64 0, .int .i64 0, .int .i64 0]) 32 :: L) (fun γ24 => on_ (ds_ (sq_ ?_))))
    by_cases q26 : (0 : Int) = (k : Int)
    ·
     refine qa [(1, .go (owns 0 3 1)), (2, .go (owns 4 0 1)), (3, .yes)] [] [(4, .bool true)] ([(0 : Int) = (k : Int)]) (al1 q26) (ds_ (bk ([]) (.bool true) (on_ (ds_ (t_ (ao_ (mo0 4 [(2, .go (owns 2 0 1))] [1, 12, 13, 14] (fun γ29 => [(21, .slice po nu co), (24, .slice (some ⟨γ29 0, 0, none⟩) 1 1)]) (fun γ29 L => bx (γ29 0) (#[.int .i64 x18.id]) 3 :: L) (fun γ29 => ops_append (α := Int) [bx (γ29 0) (#[.int .i64 x18.id]) 3, bx (γ24 0) (#[.int .i64 0, .int .i64 0, .int .i64 0, .int .i64 0]) 32, bx (γ21 0) (#[.int .i64 x18.id, .int .i64 x18.dom, .int .u32 x18.hard, .int .u32 x18.soft]) 43, bx (γ19 0) (#[.int .i64 x18.id, .int .i64 x18.dom, .int .u32 x18.hard, .int .u32 x18.soft]) 43, bx (γ3 0) (#[.slice p n cap, .slice (some ⟨b16, o16, none⟩) m capv]) 25, bx (γ1 1) (#[.int .i64 k]) 3, bx (γ1 0) (#[.slice p n cap, .slice (some ⟨b16, o16, none⟩) m capv]) 25] Yo ([]) (.refl _) rfl (by kernel_rfl) (by kernel_rfl) (p := po) (n := nu) (cap := co) (m := 1) (yv := .slice (some ⟨γ29 0, 0, none⟩) 1 1) (by kernel_rfl) (by kernel_rfl) (T := 3) (by_ := 8) (by kernel_rfl) (((vs.take j).flatMap (inF ds k))) ([x18.id]) hO (fun w hw => src_svn Try.underlying33 (sv_row (hw.row 0 rfl) (by rfl)) (by rfl)) (by rfl) (by have hmx : maxLen = 9223372036854775807 := rfl; omega) (by have hmx : maxLen = 9223372036854775807 := rfl; omega) (fun Y30 p30 cap30 hO30 => qo0 1 [] [1, 12, 13, 14] [(5, .slice p30 (nu + 1) cap30)] (on_ (done_block (ds_ (qa [(0, .fit)] [1, 5, 12, 13] [(14, .int .i64 ((j + 1 : Nat)))] ([Fit .i64 ((j + 1 : Nat))]) (al1 (fit64 (by omega) (by omega))) (Done.drop (L' := bx (γ3 0) (#[.slice p n cap, .slice (some ⟨b16, o16, none⟩) m capv]) 25 :: bx (γ1 1) (#[.int .i64 k]) 3 :: bx (γ1 0) (#[.slice p n cap, .slice (some ⟨b16, o16, none⟩) m capv]) 25 :: (Y30 ++ [])) ?_ (List.Sublist.cons _ (List.Sublist.cons _ (List.Sublist.cons _ (List.Sublist.cons _ (List.Sublist.cons_cons _ (List.Sublist.cons_cons _ (List.Sublist.cons_cons _ (List.Sublist.refl _))))))))))))))))))))))
     exact dr [1, 5, 12, 13, 14] (j + 1, Y30, p30, (nu + 1), cap30) ⟨by omega, by omega, by rw [gath_on hx18 (inF_none hg23 q26)]; exact hO30⟩
    ·
     refine qa [(1, .go (owns 0 3 1)), (2, .go (owns 4 0 1)), (3, .no)] [] [(4, .bool false)] ([¬ ((0 : Int) = (k : Int))]) (al1 q26) (ds_ (bk ([]) (.bool false) (on_ (ds_ (f_ (at_skip (done_block (ds_ (qa [(0, .fit)] [1, 5, 12, 13] [(14, .int .i64 ((j + 1 : Nat)))] ([Fit .i64 ((j + 1 : Nat))]) (al1 (fit64 (by omega) (by omega))) (Done.drop (L' := bx (γ3 0) (#[.slice p n cap, .slice (some ⟨b16, o16, none⟩) m capv]) 25 :: bx (γ1 1) (#[.int .i64 k]) 3 :: bx (γ1 0) (#[.slice p n cap, .slice (some ⟨b16, o16, none⟩) m capv]) 25 :: (Yo ++ [])) ?_ (List.Sublist.cons _ (List.Sublist.cons _ (List.Sublist.cons _ (List.Sublist.cons_cons _ (List.Sublist.cons_cons _ (List.Sublist.cons_cons _ (List.Sublist.refl _)))))))))))))))))
     exact dr [1, 5, 12, 13, 14] (j + 1, Yo, po, nu, co) ⟨by omega, by omega, by rw [gath_on hx18 (inF_nil hg23 q26), List.append_nil]; exact hO⟩
   ·
    refine cD (.tuple #[.agg #[.int .i64 y23.id, .int .i64 y23.weight, .int .i64 y23.cap, .int .i64 y23.pool], .bool true]) Try.call36 (fun w hw => by have := gdomain_d p n cap ds (some ⟨b16, o16, none⟩) m capv vs x18.dom w (hds.kept hw.below) hn (by omega) (hvs.kept hw.below) hm (by omega); rw [fG_ok q5, hg23] at this; exact this) (mo0 6 [(8, .go (owns 0 0 4))] [2] (fun γ36 => [(5, .pointer (some ⟨γ36 0, 0, none⟩))]) (fun γ36 L => bx (γ36 0) (#[.int .i64 y23.id, .int .i64 y23.weight, .int .i64 y23.cap, .int .i64 y23.pool]) 32 :: L) (fun γ36 => on_ (ds_ (sq_ ?_))))
    by_cases q38 : (y23.pool : Int) = (k : Int)
    ·
     refine qa [(1, .go (owns 0 3 1)), (2, .go (owns 4 0 1)), (3, .yes)] [] [(4, .bool true)] ([(y23.pool : Int) = (k : Int)]) (al1 q38) (ds_ (bk ([]) (.bool true) (on_ (ds_ (t_ (ao_ (mo0 4 [(2, .go (owns 2 0 1))] [1, 12, 13, 14] (fun γ41 => [(21, .slice po nu co), (24, .slice (some ⟨γ41 0, 0, none⟩) 1 1)]) (fun γ41 L => bx (γ41 0) (#[.int .i64 x18.id]) 3 :: L) (fun γ41 => ops_append (α := Int) [bx (γ41 0) (#[.int .i64 x18.id]) 3, bx (γ36 0) (#[.int .i64 y23.id, .int .i64 y23.weight, .int .i64 y23.cap, .int .i64 y23.pool]) 32, bx (γ21 0) (#[.int .i64 x18.id, .int .i64 x18.dom, .int .u32 x18.hard, .int .u32 x18.soft]) 43, bx (γ19 0) (#[.int .i64 x18.id, .int .i64 x18.dom, .int .u32 x18.hard, .int .u32 x18.soft]) 43, bx (γ3 0) (#[.slice p n cap, .slice (some ⟨b16, o16, none⟩) m capv]) 25, bx (γ1 1) (#[.int .i64 k]) 3, bx (γ1 0) (#[.slice p n cap, .slice (some ⟨b16, o16, none⟩) m capv]) 25] Yo ([]) (.refl _) rfl (by kernel_rfl) (by kernel_rfl) (p := po) (n := nu) (cap := co) (m := 1) (yv := .slice (some ⟨γ41 0, 0, none⟩) 1 1) (by kernel_rfl) (by kernel_rfl) (T := 3) (by_ := 8) (by kernel_rfl) (((vs.take j).flatMap (inF ds k))) ([x18.id]) hO (fun w hw => src_svn Try.underlying33 (sv_row (hw.row 0 rfl) (by rfl)) (by rfl)) (by rfl) (by have hmx : maxLen = 9223372036854775807 := rfl; omega) (by have hmx : maxLen = 9223372036854775807 := rfl; omega) (fun Y42 p42 cap42 hO42 => qo0 1 [] [1, 12, 13, 14] [(5, .slice p42 (nu + 1) cap42)] (on_ (done_block (ds_ (qa [(0, .fit)] [1, 5, 12, 13] [(14, .int .i64 ((j + 1 : Nat)))] ([Fit .i64 ((j + 1 : Nat))]) (al1 (fit64 (by omega) (by omega))) (Done.drop (L' := bx (γ3 0) (#[.slice p n cap, .slice (some ⟨b16, o16, none⟩) m capv]) 25 :: bx (γ1 1) (#[.int .i64 k]) 3 :: bx (γ1 0) (#[.slice p n cap, .slice (some ⟨b16, o16, none⟩) m capv]) 25 :: (Y42 ++ [])) ?_ (List.Sublist.cons _ (List.Sublist.cons _ (List.Sublist.cons _ (List.Sublist.cons _ (List.Sublist.cons_cons _ (List.Sublist.cons_cons _ (List.Sublist.cons_cons _ (List.Sublist.refl _))))))))))))))))))))))
     exact dr [1, 5, 12, 13, 14] (j + 1, Y42, p42, (nu + 1), cap42) ⟨by omega, by omega, by rw [gath_on hx18 (inF_some hg23 q38)]; exact hO42⟩
    ·
     refine qa [(1, .go (owns 0 3 1)), (2, .go (owns 4 0 1)), (3, .no)] [] [(4, .bool false)] ([¬ ((y23.pool : Int) = (k : Int))]) (al1 q38) (ds_ (bk ([]) (.bool false) (on_ (ds_ (f_ (at_skip (done_block (ds_ (qa [(0, .fit)] [1, 5, 12, 13] [(14, .int .i64 ((j + 1 : Nat)))] ([Fit .i64 ((j + 1 : Nat))]) (al1 (fit64 (by omega) (by omega))) (Done.drop (L' := bx (γ3 0) (#[.slice p n cap, .slice (some ⟨b16, o16, none⟩) m capv]) 25 :: bx (γ1 1) (#[.int .i64 k]) 3 :: bx (γ1 0) (#[.slice p n cap, .slice (some ⟨b16, o16, none⟩) m capv]) 25 :: (Yo ++ [])) ?_ (List.Sublist.cons _ (List.Sublist.cons _ (List.Sublist.cons _ (List.Sublist.cons_cons _ (List.Sublist.cons_cons _ (List.Sublist.cons_cons _ (List.Sublist.refl _)))))))))))))))))
     exact dr [1, 5, 12, 13, 14] (j + 1, Yo, po, nu, co) ⟨by omega, by omega, by rw [gath_on hx18 (inF_other hg23 q38), List.append_nil]; exact hO⟩
  ·
   refine qa [(0, .no)] [1, 5, 12, 13, 14] [(15, .bool false)] ([¬ (((j : Nat) : Int) < ((m : Nat) : Int))]) (al1 q13) (ds_ (sq_ (f_ (at_leave _ rfl (ds_ (sq_ (qa0 [] [] [(4, .slice po nu co)] (ds_ (bk ([]) (.slice po nu co) (qo0 1 [] [] [(4, .slice po nu co)] (on_ (ds_ (rt ([]) (.slice po nu co) ?_)))))))))))))
   exact fun w' hw => by rw [List.take_of_length_le (by omega)] at hO; exact ⟨_, _, _, _, rfl, hO, by omega, hw.below, ((hw.tailN 3).sub (List.sublist_append_left Yo ([])))⟩

set_option maxRecDepth 100000 in
theorem rate_d (p : Option Addr) (n cap : Nat) (ds : List Dom) (q : Option Addr) (m capv : Nat) (vs : List Vcp) (k : Int) (w : World)
 (hds : Sv w p ds) (hn : n = ds.length) (hb : n ≤ 1000)
 (hvs : Sv w q vs) (hm : m = vs.length) (hmb : m ≤ 1000)
 : Calls Try.prog 12 #[.agg #[.slice p n cap, .slice q m capv], .int .i64 k] w fun e w' => e = .returned (rateV ds vs k) ∧ Below w.heap.size w w' := by
 refine enter (Hs.start w) Try.func12 rfl Try.ntmps12 rfl (sq_ (ma0 [] [1] (fun γ1 => [(2, .pointer (some ⟨γ1 0, 0, none⟩))]) (fun γ1 L => bx (γ1 0) (#[.slice p n cap, .slice q m capv]) 25 :: L) (fun γ1 => ds_ (sq_ (ao_ (qo0 2 [(0, .go (owns 0 0 2))] [2] [(12, .agg #[.slice p n cap, .slice q m capv]), (13, .int .i64 k)] ?_))))))
 rcases q3 : guestsB ds vs with _ | _
 ·
  refine cD (.tuple #[.agg #[.int .i64 0, .int .i64 0, .int .u32 0, .int .u32 0], .bool false]) Try.call37 (fun w hw => by have := gvcpu_d p n cap ds q m capv vs k w (hds.kept hw.below) hn (by omega) (hvs.kept hw.below) hm (by omega); rw [fG_bad q3] at this; exact this) (mo0 6 [(7, .go (owns 0 0 4))] [2] (fun γ4 => [(7, .pointer (some ⟨γ4 0, 0, none⟩)), (8, .bool false)]) (fun γ4 L => bx (γ4 0) (#[.int .i64 0, .int .i64 0, .int .u32 0, .int .u32 0]) 43 :: L) (fun γ4 => on_ (ds_ (sq_ (sq_ (qa0 [] [2, 7] [(18, .bool true)] (ds_ (t_ (sq_ (qa0 [] [] [(4, .int .i64 0), (5, .int .i64 0), (6, .bool false)] (ds_ (rt ([]) (.tuple #[.int .i64 0, .int .i64 0, .bool false]) ?_))))))))))))
  exact fun w' hw => ⟨by simp only [rateV, fG_bad q3], hw.below⟩
 ·
  rcases hg7 : getK Vcp.id vs k with _ | y7
  ·
   refine cD (.tuple #[.agg #[.int .i64 0, .int .i64 0, .int .u32 0, .int .u32 0], .bool false]) Try.call37 (fun w hw => by have := gvcpu_d p n cap ds q m capv vs k w (hds.kept hw.below) hn (by omega) (hvs.kept hw.below) hm (by omega); rw [fG_ok q3, hg7] at this; exact this) (mo0 6 [(7, .go (owns 0 0 4))] [2] (fun γ8 => [(7, .pointer (some ⟨γ8 0, 0, none⟩)), (8, .bool false)]) (fun γ8 L => bx (γ8 0) (#[.int .i64 0, .int .i64 0, .int .u32 0, .int .u32 0]) 43 :: L) (fun γ8 => on_ (ds_ (sq_ (sq_ (qa0 [] [2, 7] [(18, .bool true)] (ds_ (t_ (sq_ (qa0 [] [] [(4, .int .i64 0), (5, .int .i64 0), (6, .bool false)] (ds_ (rt ([]) (.tuple #[.int .i64 0, .int .i64 0, .bool false]) ?_))))))))))))
   exact fun w' hw => ⟨by simp only [rateV, fG_ok q3, hg7], hw.below⟩
  ·
   refine cD (.tuple #[.agg #[.int .i64 y7.id, .int .i64 y7.dom, .int .u32 y7.hard, .int .u32 y7.soft], .bool true]) Try.call37 (fun w hw => by have := gvcpu_d p n cap ds q m capv vs k w (hds.kept hw.below) hn (by omega) (hvs.kept hw.below) hm (by omega); rw [fG_ok q3, hg7] at this; exact this) (mo0 6 [(7, .go (owns 0 0 4))] [2] (fun γ11 => [(7, .pointer (some ⟨γ11 0, 0, none⟩)), (8, .bool true)]) (fun γ11 L => bx (γ11 0) (#[.int .i64 y7.id, .int .i64 y7.dom, .int .u32 y7.hard, .int .u32 y7.soft]) 43 :: L) (fun γ11 => on_ (ds_ (sq_ (sq_ (qa0 [] [2, 7] [(18, .bool false)] (ds_ (f_ (at_skip (ds_ (sq_ (ao_ (qo0 3 [(0, .go (owns 1 0 2)), (2, .go (owns 0 1 1))] [2] [(20, .agg #[.slice p n cap, .slice q m capv]), (22, .int .i64 y7.dom)] ?_)))))))))))))
   rcases hg14 : getK Dom.id ds y7.dom with _ | y14
   ·
    refine cD (.tuple #[.agg #[.int .i64 0, .int .i64 0, .int .i64 0, .int .i64 0], .bool false]) Try.call36 (fun w hw => by have := gdomain_d p n cap ds q m capv vs y7.dom w (hds.kept hw.below) hn (by omega) (hvs.kept hw.below) hm (by omega); rw [fG_ok q3, hg14] at this; exact this) (mo0 6 [(8, .go (owns 0 0 4))] [2] (fun γ15 => [(9, .pointer (some ⟨γ15 0, 0, none⟩))]) (fun γ15 L => bx (γ15 0) (#[.int .i64 0, .int .i64 0, .int .i64 0, .int .i64 0]) 32 :: L) (fun γ15 => on_ (ds_ (sq_ ?_))))
    refine at_calm rfl (by kernel_rfl) (by kernel_rfl) ?_
    refine cm 5 [(1, .go (owns 0 1 1)), (2, .go (owns 2 0 2)), (4, .go (owns 0 0 1))] [] [(27, .int .i64 0), (28, .agg #[.slice p n cap, .slice q m capv]), (30, .int .i64 0)] ([]) (by kernel_rfl) rfl al0 ?_
    refine cK (.int .i64 ((cntV vs 0 : Nat))) Try.call46 (fun w hw => count_d p n cap ds q m capv vs 0 w (hvs.kept hw.below) hm (by omega)) ?_
    refine cm 3 [] [] [(4, .int .i64 0), (5, .int .i64 ((cntV vs 0 : Nat))), (6, .bool true)] ([]) (by kernel_rfl) rfl al0 ?_
    refine calm_nil' ?_
    refine ds_ (rt ([]) (.tuple #[.int .i64 0, .int .i64 ((cntV vs 0 : Nat)), .bool true]) ?_)
    exact fun w' hw => ⟨by simp only [rateV, fG_ok q3, hg7, hg14], hw.below⟩
   ·
    refine cD (.tuple #[.agg #[.int .i64 y14.id, .int .i64 y14.weight, .int .i64 y14.cap, .int .i64 y14.pool], .bool true]) Try.call36 (fun w hw => by have := gdomain_d p n cap ds q m capv vs y7.dom w (hds.kept hw.below) hn (by omega) (hvs.kept hw.below) hm (by omega); rw [fG_ok q3, hg14] at this; exact this) (mo0 6 [(8, .go (owns 0 0 4))] [2] (fun γ18 => [(9, .pointer (some ⟨γ18 0, 0, none⟩))]) (fun γ18 L => bx (γ18 0) (#[.int .i64 y14.id, .int .i64 y14.weight, .int .i64 y14.cap, .int .i64 y14.pool]) 32 :: L) (fun γ18 => on_ (ds_ (sq_ ?_))))
    refine at_calm rfl (by kernel_rfl) (by kernel_rfl) ?_
    refine cm 5 [(1, .go (owns 0 1 1)), (2, .go (owns 2 0 2)), (4, .go (owns 0 0 1))] [] [(27, .int .i64 y14.weight), (28, .agg #[.slice p n cap, .slice q m capv]), (30, .int .i64 y14.id)] ([]) (by kernel_rfl) rfl al0 ?_
    refine cK (.int .i64 ((cntV vs y14.id : Nat))) Try.call46 (fun w hw => count_d p n cap ds q m capv vs y14.id w (hvs.kept hw.below) hm (by omega)) ?_
    refine cm 3 [] [] [(4, .int .i64 y14.weight), (5, .int .i64 ((cntV vs y14.id : Nat))), (6, .bool true)] ([]) (by kernel_rfl) rfl al0 ?_
    refine calm_nil' ?_
    refine ds_ (rt ([]) (.tuple #[.int .i64 y14.weight, .int .i64 ((cntV vs y14.id : Nat)), .bool true]) ?_)
    exact fun w' hw => ⟨by simp only [rateV, fG_ok q3, hg7, hg14], hw.below⟩

set_option maxRecDepth 100000 in
theorem weights_d (p : Option Addr) (n cap : Nat) (ds : List Dom) (q : Option Addr) (m capv : Nat) (vs : List Vcp) (k : Int) (w : World)
 (hds : Sv w p ds) (hn : n = ds.length) (hb : n ≤ 1000)
 (hvs : Sv w q vs) (hm : m = vs.length) (hmb : m ≤ 1000)
 : Calls Try.prog 14 #[.agg #[.slice p n cap, .slice q m capv], .int .i64 k] w fun e w' => e = .returned (.int .i64 (if guestsB ds vs = true then wgtV ds vs k else 0)) ∧ Below w.heap.size w w' := by
 refine enter (Hs.start w) Try.func14 rfl Try.ntmps14 rfl (sq_ (ma0 [] [1] (fun γ1 => [(2, .pointer (some ⟨γ1 0, 0, none⟩))]) (fun γ1 L => bx (γ1 0) (#[.slice p n cap, .slice q m capv]) 25 :: L) (fun γ1 => ds_ (sq_ (sq_ (ao_ (qo0 1 [(0, .go (owns 0 0 2))] [1, 2] [(8, .agg #[.slice p n cap, .slice q m capv])] ?_)))))))
 rcases q3 : guestsB ds vs with _ | _
 ·
  refine cD (.int .i64 190) Try.call10 (fun w hw => by have := gcheck_d p n cap ds q m capv vs w (hds.kept hw.below) hn (by omega) (hvs.kept hw.below) hm (by omega); rw [q3] at this; exact this) (qo0 1 [] [1, 2] [(10, .bool true)] (on_ (ds_ (t_ (sq_ (qa0 [] [] [(4, .int .i64 0)] (ds_ (rt ([]) (.int .i64 0) ?_))))))))
  exact fun w' hw => ⟨rfl, hw.below⟩
 ·
  refine cD (.int .i64 0) Try.call10 (fun w hw => by have := gcheck_d p n cap ds q m capv vs w (hds.kept hw.below) hn (by omega) (hvs.kept hw.below) hm (by omega); rw [q3] at this; exact this) (qo0 1 [] [1, 2] [(10, .bool false)] (on_ (ds_ (f_ (at_skip (ds_ (sq_ ?_)))))))
  have hgd := q3
  refine qa0 [] [1, 2] [(5, .int .i64 0)] (ds_ (sq_ (sq_ (qa0 [(1, .go (owns 0 0 1))] [1, 2, 5] [(12, .slice p n cap), (13, .int .i64 ((n : Nat))), (14, .int .i64 0)] (ds_ (at_block (at_loop (α := Nat × Int) [1, 2, 5, 12, 13, 14] (fun ⟨j, c⟩ => [(1, .int .i64 k), (2, .pointer (some ⟨γ1 0, 0, none⟩)), (5, .int .i64 c), (12, .slice p n cap), (13, .int .i64 ((n : Nat))), (14, .int .i64 ((j : Nat)))]) (fun ⟨j, c⟩ => [bx (γ1 0) (#[.slice p n cap, .slice q m capv]) 25]) (fun ⟨j, c⟩ => j ≤ n ∧ c = wgtV (ds.take j) vs k ∧ 0 ≤ c ∧ c ≤ 65535 * j) (fun ⟨j, c⟩ => n - j) (0, 0) (by kernel_rfl) rfl ⟨Nat.zero_le _, wgt_zero.symm, by omega, by omega⟩ ?_)))))))
  rintro ⟨j, c⟩
  rintro ⟨hj, hc, h0, h1⟩
  refine sq_ ?_
  by_cases q10 : ((j : Nat) : Int) < ((n : Nat) : Int)
  ·
   refine qa [(0, .yes)] [1, 2, 5, 12, 13, 14] [(15, .bool true)] ([((j : Nat) : Int) < ((n : Nat) : Int)]) (al1 q10) (ds_ (sq_ (t_ (at_skip (ds_ (sq_ (at_block (sq_ ?_))))))))
   obtain ⟨b13, o13, rfl⟩ := hds.pos (i := j) (by omega)
   obtain ⟨x15, hx15⟩ := get_some (l := ds) (m := j) (by omega)
   refine ma [(0, .at b13 o13 j), (1, .go (outs b13 (o13 + j * 4) [.int .i64 x15.id, .int .i64 x15.weight, .int .i64 x15.cap, .int .i64 x15.pool])), (3, .go (owns 0 0 4))] [1, 2, 5, 12, 13, 14] (fun γ16 => [(7, .pointer (some ⟨γ16 0, 0, none⟩))]) (fun γ16 L => bx (γ16 0) (#[.int .i64 x15.id, .int .i64 x15.weight, .int .i64 x15.cap, .int .i64 x15.pool]) 32 :: L) (fun γ16 => [(some ⟨b13, o13, none⟩ : Option Addr) = some ⟨b13, o13, none⟩, ((j : Nat)) = ((j : Nat) : Int), j < n] ++ (cellsP w b13 (o13 + j * 4) [.int .i64 x15.id, .int .i64 x15.weight, .int .i64 x15.cap, .int .i64 x15.pool])) (fun γ16 => (alA (al2 rfl (al2 rfl (al1 (by omega)))) (rd_pre (hds.get hx15) _ rfl))) (fun γ16 => ds_ (sq_ ?_))
   by_cases q18 : (x15.pool : Int) = (k : Int)
   ·
    refine ao_ (qo 8 [(1, .go (owns 0 3 1)), (3, .yes), (5, .go (owns 1 0 2)), (7, .go (owns 0 0 1))] [1, 2, 5, 7, 12, 13, 14] [(22, .bool true), (23, .agg #[.slice (some ⟨b13, o13, none⟩) n cap, .slice q m capv]), (25, .int .i64 x15.id)] ([(x15.pool : Int) = (k : Int)]) (al1 q18) (cD (.int .i64 ((cntV vs x15.id : Nat))) Try.call46 (fun w hw => count_d (some ⟨b13, o13, none⟩) n cap ds q m capv vs x15.id w (hvs.kept hw.below) hm (by omega)) ?_))
    by_cases q21 : ((cntV vs x15.id : Nat) : Int) > (0 : Int)
    ·
     refine qo 2 [(9, .yes)] [1, 2, 5, 7, 12, 13, 14] [(28, .bool true)] ([((cntV vs x15.id : Nat) : Int) > (0 : Int)]) (al1 q21) (on_ (ds_ (t_ ?_)))
     have hmb' := (((guests_iff.1 hgd).dm x15 (List.mem_of_getElem? hx15)).1)
     unfold mayB at hmb'
     simp only [decide_eq_true_eq] at hmb'
     refine qa [(2, .go (owns 0 1 1)), (3, .fit)] [1, 2, 12, 13, 14] [(5, .int .i64 (c + x15.weight))] ([Fit .i64 (c + x15.weight)]) (al1 (fit64 (by omega) (by omega))) (done_block (ds_ (qa [(0, .fit)] [1, 2, 5, 12, 13] [(14, .int .i64 ((j + 1 : Nat)))] ([Fit .i64 ((j + 1 : Nat))]) (al1 (fit64 (by omega) (by omega))) (Done.drop (L' := [bx (γ1 0) (#[.slice (some ⟨b13, o13, none⟩) n cap, .slice q m capv]) 25]) ?_ (List.Sublist.cons _ (List.Sublist.cons_cons _ (List.Sublist.refl _)))))))
     have hwb := wF_bnd (vs := vs) (k := k) (((guests_iff.1 hgd).dm x15 (List.mem_of_getElem? hx15)).1)
     rw [wF_yes q18 q21] at hwb
     exact dr [1, 2, 5, 12, 13, 14] (j + 1, c + x15.weight) ⟨by omega, by rw [wgt_on hx15, wF_yes q18 q21, ← hc], by omega, by omega⟩
    ·
     refine qo 2 [(9, .no)] [1, 2, 5, 7, 12, 13, 14] [(28, .bool false)] ([¬ (((cntV vs x15.id : Nat) : Int) > (0 : Int))]) (al1 q21) (on_ (ds_ (f_ (at_skip (done_block (ds_ (qa [(0, .fit)] [1, 2, 5, 12, 13] [(14, .int .i64 ((j + 1 : Nat)))] ([Fit .i64 ((j + 1 : Nat))]) (al1 (fit64 (by omega) (by omega))) (Done.drop (L' := [bx (γ1 0) (#[.slice (some ⟨b13, o13, none⟩) n cap, .slice q m capv]) 25]) ?_ (List.Sublist.cons _ (List.Sublist.cons_cons _ (List.Sublist.refl _)))))))))))
     have hwb := wF_bnd (vs := vs) (k := k) (((guests_iff.1 hgd).dm x15 (List.mem_of_getElem? hx15)).1)
     rw [wF_none q21] at hwb
     exact dr [1, 2, 5, 12, 13, 14] (j + 1, c) ⟨by omega, by rw [wgt_on hx15, wF_none q21, ← hc]; omega, by omega, by omega⟩
   ·
    refine qa [(1, .go (owns 0 3 1)), (3, .no)] [1, 2, 5, 7, 12, 13, 14] [(28, .bool false)] ([¬ ((x15.pool : Int) = (k : Int))]) (al1 q18) (ds_ (f_ (at_skip (done_block (ds_ (qa [(0, .fit)] [1, 2, 5, 12, 13] [(14, .int .i64 ((j + 1 : Nat)))] ([Fit .i64 ((j + 1 : Nat))]) (al1 (fit64 (by omega) (by omega))) (Done.drop (L' := [bx (γ1 0) (#[.slice (some ⟨b13, o13, none⟩) n cap, .slice q m capv]) 25]) ?_ (List.Sublist.cons _ (List.Sublist.cons_cons _ (List.Sublist.refl _))))))))))
    have hwb := wF_bnd (vs := vs) (k := k) (((guests_iff.1 hgd).dm x15 (List.mem_of_getElem? hx15)).1)
    rw [wF_pool q18] at hwb
    exact dr [1, 2, 5, 12, 13, 14] (j + 1, c) ⟨by omega, by rw [wgt_on hx15, wF_pool q18, ← hc]; omega, by omega, by omega⟩
  ·
   refine qa [(0, .no)] [1, 2, 5, 12, 13, 14] [(15, .bool false)] ([¬ (((j : Nat) : Int) < ((n : Nat) : Int))]) (al1 q10) (ds_ (sq_ (f_ (at_leave _ rfl (ds_ (sq_ (qa0 [] [] [(4, .int .i64 c)] (ds_ (rt ([]) (.int .i64 c) ?_)))))))))
   exact fun w' hw => ⟨by rw [List.take_of_length_le (by omega)] at hc; rw [hc]; rfl, hw.below⟩
end Go.Proofs.Ytnoefldpkfpglaa

/-! The walker: maps of one's own with whole numbers for keys. -/
namespace Go.Proofs.Ytnoefldpkfpglaa
open Go Go.RowKit

/-- What a map holds: its entries, the oldest first. -/
def mget {β : Type} : List (Int × β) → Int → Option β
  | [], _ => none
  | p :: D, k => if p.1 = k then some p.2 else mget D k
def mupd {β : Type} : List (Int × β) → Int → β → List (Int × β)
  | [], k, v => [(k, v)]
  | p :: D, k, v => if p.1 = k then (k, v) :: D else p :: mupd D k v
structure MapIs {β : Type} (ik : IntKind) (enc : β → Value) (es : Array MapEntry) (D : List (Int × β)) : Prop where
  keys : es.toList.map (fun e => (e.key, e.val)) = D.map fun p => (.int ik p.1, enc p.2)
section
variable {β : Type} {ik : IntKind} {enc : β → Value} {es : Array MapEntry} {D : List (Int × β)} {k : Int} {v : β} {ck : Nat}
theorem MapIs.nil : MapIs ik enc #[] ([] : List (Int × β)) := ⟨rfl⟩
theorem MapIs.size (h : MapIs ik enc es D) : es.size = D.length := by
  have := congrArg List.length h.keys
  simpa using this
theorem findNow_is : ∀ (l : List MapEntry) (D : List (Int × β)) (i : Nat), l.map (fun e => (e.key, e.val)) = D.map (fun p => (Value.int ik p.1, enc p.2)) →
    (Instr.findNow (.int ik) (.int ik k) l i = some none ∧ mget D k = none ∧ ∀ u, mupd D k u = D ++ [(k, u)]) ∨
    ∃ j b, Instr.findNow (.int ik) (.int ik k) l i = some (some (i + j, enc b)) ∧ mget D k = some b ∧ j < D.length ∧ (D[j]?).map (·.1) = some k ∧ ∀ u, mupd D k u = D.set j (k, u)
  | [], [], i, _ => .inl ⟨rfl, rfl, fun _ => rfl⟩
  | [], _ :: _, _, h => by simp at h
  | _ :: _, [], _, h => by simp at h
  | e :: l, p :: D, i, h => by
    simp only [List.map_cons, List.cons.injEq, Prod.mk.injEq] at h
    obtain ⟨⟨h1, h2⟩, h3⟩ := h
    by_cases hk : k = p.1
    · subst hk
      right
      refine ⟨0, p.2, ?_, by simp [mget], by simp, by simp, fun u => by simp [mupd]⟩
      simp [Instr.findNow, h1, Instr.sameNow, h2]
    · have hb : (k == p.1) = false := by simpa using hk
      have hk' : ¬ p.1 = k := fun e => hk e.symm
      rcases findNow_is l D (i + 1) h3 with ⟨a, b, c⟩ | ⟨j, b, a, c, d, e1, f⟩
      · left
        refine ⟨?_, by simp [mget, hk', b], fun u => by simp [mupd, hk', c u]⟩
        simp [Instr.findNow, h1, Instr.sameNow, hb, a]
      · right
        refine ⟨j + 1, b, ?_, by simp [mget, hk', c], by simp; omega, by simpa using e1, fun u => by simp [mupd, hk', f u]⟩
        simp only [Instr.findNow, h1, Instr.sameNow, if_true, hb, a]
        rw [show i + 1 + j = i + (j + 1) by omega]
variable {P : Program} {w : World} {t kt et : TypeId} {r : Nat}
theorem run_lookupM (ht : P.underlying t = some (.map kt et)) (hk : P.underlying kt = some (.int ik)) {i : TypeInfo} {z : Value} (hi : P.info? et = some i) (hz : i.zero = some z) (hb : w.heap[r]? = some (.map es ck)) (hM : MapIs ik enc es D) (c : Bool) :
    (Instr.lookup t (.map (some r)) (.int ik k) c).run P w = .ok (if c then .tuple #[((mget D k).map enc).getD z, .bool (mget D k).isSome] else ((mget D k).map enc).getD z) w := by
  have hck : ∀ e, (Instr.checkKey e 10000 kt (.int ik k)).run P w = .ok () w := fun e => MapKept.run_checkKey (n := 9999) hk (show MapKept.IsKey (.int ik) (.int ik k) from rfl) e
  rcases findNow_is es.toList D 0 hM.keys (k := k) with ⟨a, b, _⟩ | ⟨j, b, a, c', _, _, _⟩
  · have hf := MapKept.run_findKey (P := P) (w := w) (kt := kt) hk a
    cases c <;> simp [Instr.lookup, run_underlying ht, MapKept.run_getObj_map hb, hck, hf, zeroValue, typeInfo, hi, hz, b]
  · have hf := MapKept.run_findKey (P := P) (w := w) (kt := kt) hk a
    cases c <;> simp [Instr.lookup, run_underlying ht, MapKept.run_getObj_map hb, hck, hf, c']
theorem run_updateM (ht : P.underlying t = some (.map kt et)) (hk : P.underlying kt = some (.int ik)) (hb : w.heap[r]? = some (.map es ck)) (hM : MapIs ik enc es D) (v : β) :
    ∃ es' ck', (Instr.mapUpdate t (.map (some r)) (.int ik k) (enc v)).run P w = .ok () { w with heap := w.heap.setIfInBounds r (.map es' ck') } ∧ MapIs ik enc es' (mupd D k v) := by
  have hkk : MapKept.IsKey (.int ik) (.int ik k) := rfl
  have hck : ∀ e, (Instr.checkKey e 10000 kt (.int ik k)).run P w = .ok () w := fun e => MapKept.run_checkKey (n := 9999) hk hkk e
  rcases findNow_is es.toList D 0 hM.keys (k := k) with ⟨a, _, b⟩ | ⟨j, b, a, c', hj, hjk, d⟩
  · have hf := MapKept.run_findKey (P := P) (w := w) (kt := kt) hk a
    refine ⟨es.push ⟨.int ik k, enc v, ck⟩, ck + 1, ?_, ⟨?_⟩⟩
    · simp [Instr.mapUpdate, run_underlying ht, MapKept.run_getObj_map hb, hck, hf, MapKept.run_setObj_map _ hb]
    · rw [b v, Array.toList_push, List.map_append, List.map_append, hM.keys]; rfl
  · have hf := MapKept.run_findKey (P := P) (w := w) (kt := kt) hk a
    have hsz := hM.size
    have hjs : j < es.size := by omega
    have hkey : es[j].key = .int ik k := by
      have h1 := congrArg (fun z => z[j]?) hM.keys
      simp only [List.getElem?_map, Array.getElem?_toList, Array.getElem?_eq_getElem hjs, Option.map_some] at h1
      rcases hD : D[j]? with _ | p
      · rw [hD] at hjk; cases hjk
      · rw [hD] at hjk h1
        simp only [Option.map_some, Option.some.injEq, Prod.mk.injEq] at hjk h1
        rw [h1.1, hjk]
    refine ⟨es.modify j fun e => { e with key := .int ik k, val := enc v }, ck, ?_, ⟨?_⟩⟩
    · have hj2 : es[j]? = some es[j] := Array.getElem?_eq_getElem hjs
      simp only [Nat.zero_add] at hf
      simp [Instr.mapUpdate, run_underlying ht, MapKept.run_getObj_map hb, hck, hf, hj2, hkey, MapKept.run_keyThatStays hkk, MapKept.run_setObj_map _ hb]
    · rw [d v]
      apply List.ext_getElem?
      intro i
      rw [List.getElem?_map, List.getElem?_map, Array.getElem?_toList, Array.getElem?_modify, List.getElem?_set]
      have h1 := congrArg (fun z => z[i]?) hM.keys
      simp only [List.getElem?_map, Array.getElem?_toList] at h1
      by_cases hij : j = i
      · subst hij
        rw [if_pos rfl, if_pos rfl, if_pos hj, Array.getElem?_eq_getElem hjs]; rfl
      · rw [if_neg hij, if_neg hij, h1]
end

section
variable {E : Env} {k : List Fr} {l : Sl} {L : List Ob} {all os : List Oper} {o : Oper} {i : Nat}
/-- A map's type, asked by the kernel. -/
def mapB (P : Program) (t : TypeId) (ik : IntKind) (z : Value) : Prop := ∃ kt et, P.underlying t = some (.map kt et) ∧ P.underlying kt = some (.int ik) ∧ (P.info? et).bind (fun i => i.zero) = some z
theorem map_getD {β : Type} (f : β → Value) (o : Option β) (z : β) : (o.map f).getD (f z) = f (o.getD z) := by cases o <;> rfl
theorem ops_lookup {β : Type} {ik : IntKind} {enc : β → Value} {es : Array MapEntry} {ck : Nat} {D : List (Int × β)} (j : Nat) {t : TypeId} {x y : Operand} {c : Bool} {g : Nat} {kk : Int} (z u : Value) (ho : o.op = .lookup t x y c) (hw : wantL all l o = some true) (hd : (okD E.n o.dst && knownO l o) = true)
    (hx : look l x = .map (some g)) (hy : look l y = .int ik kk) (hT : mapB E.P t ik z) (hj : L[j]? = some (g, .map es ck)) (hM : MapIs ik enc es D) (hu : (if c then .tuple #[((mget D kk).map enc).getD z, .bool (mget D kk).isSome] else ((mget D kk).map enc).getD z) = u)
    (h : Ops E k all os (i + 1) (putL o.dst u l) L) : Ops E k all (o :: os) i l L := by
  obtain ⟨kt, et, h1, h2, h34⟩ := hT
  obtain ⟨inf, h3, h4⟩ := Option.bind_eq_some_iff.1 h34
  refine ⟨fun a w ha hs => ?_⟩
  simp only [Bool.and_eq_true] at hd
  have hg := wantL_spec ha hw
  refine wpListIn_step fun K hK => ?_
  rw [if_pos hg]
  refine ⟨fun _ _ => trivial, ?_⟩
  rw [Oper.semAt_eq _ _ _ (fun c e => by rw [ho] at e; cases e), look_exec ha hd.2]
  have hr := run_lookupM h1 h2 h3 h4 (hs.row j hj) hM (k := kk) c
  have e : (execOp (look l) o).run E.P w = .ok (.value u) w := by
    simp [execOp, ho, hx, hy, hr, hu]
  rw [e]
  exact hK _ _ (h.out _ _ (ha.put hd.1 _) hs)
theorem ops_update {β : Type} {ik : IntKind} {enc : β → Value} {es : Array MapEntry} {ck : Nat} {D : List (Int × β)} (j : Nat) {t : TypeId} {x y v : Operand} {g : Nat} {kk : Int} (b : β) (z : Value) (ho : o.op = .mapUpdate t x y v) (hw : wantL all l o = some true) (hd : (okD E.n o.dst && knownO l o) = true)
    (hx : look l x = .map (some g)) (hy : look l y = .int ik kk) (hv : look l v = enc b) (hT : mapB E.P t ik z) (hj : L[j]? = some (g, .map es ck)) (hM : MapIs ik enc es D)
    (h : ∀ es' ck', MapIs ik enc es' (mupd D kk b) → Ops E k all os (i + 1) (putL o.dst undef l) (L.set j (g, .map es' ck'))) : Ops E k all (o :: os) i l L := by
  obtain ⟨kt, et, h1, h2, h34⟩ := hT
  obtain ⟨inf, h3, h4⟩ := Option.bind_eq_some_iff.1 h34
  refine ⟨fun a w ha hs => ?_⟩
  simp only [Bool.and_eq_true] at hd
  have hg := wantL_spec ha hw
  refine wpListIn_step fun K hK => ?_
  rw [if_pos hg]
  refine ⟨fun _ _ => trivial, ?_⟩
  rw [Oper.semAt_eq _ _ _ (fun c e => by rw [ho] at e; cases e), look_exec ha hd.2]
  obtain ⟨es', ck', hr, hM'⟩ := run_updateM h1 h2 (hs.row j hj) hM (k := kk) b
  have e : (execOp (look l) o).run E.P w = .ok .skip { w with heap := w.heap.setIfInBounds g (.map es' ck') } := by
    simp [execOp, ho, hx, hy, hv, hr]
  rw [e]
  exact hK _ _ ((h es' ck' hM').out _ _ (ha.put hd.1 _) (hs.turn j hj (turn_obj (hs.row j hj) _)))
end
end Go.Proofs.Ytnoefldpkfpglaa

/-! The walker: make; append within one's own row; what a deletion of a stretch leaves; m[k]++. -/
namespace Go.Proofs.Ytnoefldpkfpglaa
open Go Go.RowKit

section
variable {E : Env} {k : List Fr} {l : Sl} {L : List Ob} {all os : List Oper} {o : Oper} {i : Nat}
/-- make([]T, n): a new row; what stands in it is not told. -/
theorem ops_make {x y : Operand} {t T : TypeId} {ks by_ n : Nat} (ho : o.op = .makeSlice t x y) (hw : wantL all l o = some true) (hd : (okD E.n o.dst && knownO l o) = true) (hx : look l x = .int .i64 (n : Int)) (hy : look l y = .int .i64 (n : Int)) (hE : elemB E.P t T ks by_ = true)
    (hb : by_ * n ≤ 281474976710656) (hmax : n ≤ maxLen) (h : ∀ g c, c.size = n * ks → Ops E k all os (i + 1) (putL o.dst (.slice (some ⟨g, 0, none⟩) n n) l) (bx g c T :: L)) : Ops E k all (o :: os) i l L := by
  refine ⟨fun a w ha hs => ?_⟩
  simp only [Bool.and_eq_true] at hd
  have hg := wantL_spec ha hw
  refine wpListIn_step fun K hK => ?_
  rw [if_pos hg]
  refine ⟨fun _ _ => trivial, ?_⟩
  rw [Oper.semAt_eq _ _ _ (fun c e => by rw [ho] at e; cases e), look_exec ha hd.2]
  obtain ⟨ht, inf, z, hi, hz, _, hks, hby⟩ := elemB_spec hE
  subst hks hby
  have hb' : (inf.bytes : Int) * (n : Int) ≤ 281474976710656 := by
    have h : ((inf.bytes * n : Nat) : Int) ≤ 281474976710656 := by omega
    rwa [Int.natCast_mul] at h
  have hr := run_make (P := E.P) w t T inf z ht hi hz .i64 .i64 (n : Int) (n : Int) (by omega) (Int.le_refl _) hb' (by simp only [maxLen] at hmax; omega)
  simp only [Int.toNat_natCast] at hr
  have e : (execOp (look l) o).run E.P w = .ok (.value (.slice (some ⟨w.heap.size, 0, none⟩) n n)) (w.alloc (.cells (madeCells z.cells (n * inf.size)) T)) := by
    simp [execOp, ho, hx, hy, hr]
  rw [e]
  exact hK _ _ ((h w.heap.size _ (size_madeCells _ _)).out _ _ (ha.put hd.1 _) (hs.cons _))
end
section
variable {α : Type} [Enc α] {l : List α} {i i2 n cap : Nat} {cs c2 : Array Value}
/-- A row filled by a copy. -/
theorem OwnS.filled {c : Array Value} (hc : c.size = n * Enc.k α) (hn : n = l.length) (hm : n ≤ maxLen) : OwnS (Enc.k α) (l.flatMap Enc.enc) n n (sets c 0 (l.flatMap Enc.enc)) := by
  have hl : (l.flatMap Enc.enc).length = n * Enc.k α := by rw [flat_len, hn]
  refine ⟨hl, Nat.le_refl _, hm, by rw [sets_size]; exact hc, ?_⟩
  apply List.ext_getElem?
  intro j
  rw [List.getElem?_take]
  by_cases hj : j < n * Enc.k α
  · rw [if_pos hj, Array.getElem?_toList, sets_get _ _ _ _ (by omega), if_pos (by omega), Nat.sub_zero]
  · rw [if_neg hj, List.getElem?_eq_none (by omega)]
end
/-! ### m[k]++ -/
section
variable {β : Type} {ik : IntKind} {enc : β → Value} {es : Array MapEntry} {D : List (Int × β)} {k : Int} {ck : Nat} {P : Program} {w : World} {t kt et : TypeId} {r : Nat}
/-- The entries' stamps: all apart, below the clock. -/
def Stamps (es : Array MapEntry) (ck : Nat) : Prop := (es.toList.map (·.born)).Nodup ∧ ∀ e ∈ es.toList, e.born < ck
theorem Stamps.nil : Stamps #[] 0 := ⟨by simp, fun _ h => by simp at h⟩
end
end Go.Proofs.Ytnoefldpkfpglaa

/-! Functions of package slices. -/
namespace Go.Proofs.Ytnoefldpkfpglaa
open Go Go.RowKit
set_option maxRecDepth 100000 in
theorem overlaps_findD : Extern.find Try.f80 = some (Extern.SlicesOverlaps.overlaps Try.f80.params Try.f80.resultTypes) := by kernel_rfl
set_option maxRecDepth 100000 in
theorem overlaps_nextD : Extern.findNext Try.f80 = none := by kernel_rfl
theorem overlaps_noD {w : World} {g1 o1 g2 o2 m n c1 c2 : Nat} {cs1 cs2 : Array Value} {T1 T2 : TypeId} (h1 : w.heap[g1]? = some (.cells cs1 T1 (0, 0))) (h2 : w.heap[g2]? = some (.cells cs2 T2 (0, 0))) (hne : g1 ≠ g2) :
    (callFunc 80 #[.slice (some ⟨g1, o1, none⟩) m c1, .slice (some ⟨g2, o2, none⟩) n c2]).run Try.prog w = .ok (.value (.bool false)) w := by
  have hf := Try.func80
  have hn : (Try.f80.name == "runtime.NumGoroutine") = false := by kernel_rfl
  have hb : Try.f80.body.isNone = true := by kernel_rfl
  have hp : Try.f80.params[0]? = some 22 := by kernel_rfl
  have hu := Try.underlying22
  obtain ⟨ht', inf, z', hi, hz', _, hks, hby⟩ := elemB_spec (show elemB Try.prog 22 32 4 32 = true by kernel_rfl)
  have hs : inf.size = 4 := by omega
  have s1 : w.shape? g1 = some (T1, cs1.size) := by simp [World.shape?, h1]
  have s2 : w.shape? g2 = some (T2, cs2.size) := by simp [World.shape?, h2]
  have f1 : ∀ j, w.frozen? ⟨g1, j, none⟩ = false := fun j => froz_own h1 j
  have f2 : ∀ j, w.frozen? ⟨g2, j, none⟩ = false := fun j => froz_own h2 j
  have run1 : ∀ args, (callFunc 80 args).run Try.prog w = ((Extern.SlicesOverlaps.overlaps Try.f80.params Try.f80.resultTypes args).run Try.prog w).andThen fun v w' => .ok (.value v) w' := fun args => by
    simp only [callFunc, Sem.run_bind, run_program, Result.andThen_ok, hf, hn, hb, overlaps_nextD, overlaps_findD]
    simp [mark, Sem.run, Sem.run_bind]
  rw [run1]
  have hne' : (g1 == g2) = false := by simpa using hne
  have hs' : (do let i ← typeInfo 32; pure i.size : Sem Nat).run Try.prog w = .ok 4 w := by simp [typeInfo, hi, hs]
  delta Extern.SlicesOverlaps.overlaps
  conv => lhs; arg 1; arg 2; whnf
  have hu' : Try.prog.underlying (Try.f80.params[0]'(by decide)) = some (.slice 32) := by kernel_rfl
  have sb : ∀ (α β : Type) (x : Sem α) (f : α → Sem β) (P : Program) (w : World), (x.bind f).run P w = (x.run P w).andThen fun a w' => (f a).run P w' := fun α β x f P w => Sem.run_bind' P x f w
  by_cases hm : m = 0 ∨ n = 0 ∨ inf.size = 0
  · simp [Sem.run, sb, hu', sizeOf, typeInfo, hi, hm]
  · simp [Sem.run, sb, hu', sizeOf, typeInfo, hi, hm, bne, hne', hne, noView, viewAt, mayBeOne, stringish, shape, frozen, s1, s2, f1, f2]

set_option maxRecDepth 100000 in
theorem insertD_d (w0 : World) (X Y : List Ob) (p : Option Addr) (n cap : Nat) (l : List Dom) (i gv : Nat) (cv : Array Value) (m : Nat) (vl : List Dom) (w : World)
    (hH : Hs w0 (bx gv cv 32 :: (Y ++ X)) w) (hO : SlO 32 Y p n cap l) (hcv : cv.toList = vl.flatMap Enc.enc) (hm : m = vl.length) (hm0 : 0 < m) (hi : i ≤ n) (hb : n ≤ 1000) (hmb : m ≤ 1000)
    : Calls Try.prog 62 #[.slice p n cap, .int .i64 (i : Nat), .slice (some ⟨gv, 0, none⟩) m m] w fun e w' => ∃ q capq Y', e = .returned (.slice q (n + m) capq) ∧ SlO 32 Y' q (n + m) capq (l.take i ++ vl ++ l.drop i) ∧ Hs w0 (Y' ++ X) w' := by
  have hn := hO.len
  refine enter hH Try.func62 rfl Try.ntmps62 rfl (sq_ (qa0 [] [0, 1, 2] [] (ds_ (sq_ (qa [(2, .sl (.slice (if cap = i then p else p.map (·.add (i * 4))) (n - i) (cap - i)))] [0, 1, 2] [] ([SlRun Try.prog 22 (.slice p n cap) (some (.int .i64 ((i : Nat)))) none none (.slice (if cap = i then p else p.map (·.add (i * 4))) (n - i) (cap - i))]) (al1 (slE_cut (P := Try.prog) (T := 22) (e := 32) (k := 4) (by_ := 32) (by kernel_rfl) hi)) (ds_ (sq_ (qa0 [] [0, 1, 2] [(7, .int .i64 ((m : Nat)))] (ds_ (sq_ (sq_ (qa [(1, .no)] [0, 1, 2, 7] [(16, .bool false)] ([¬ (((m : Nat) : Int) = (0 : Int))]) (al1 ((by omega))) (ds_ (f_ (at_skip (ds_ (sq_ (qa0 [] [0, 1, 2, 7] [(8, .int .i64 ((n : Nat)))] (ds_ (sq_ (sq_ ?_)))))))))))))))))))))
  by_cases q7 : ((i : Nat) : Int) = ((n : Nat) : Int)
  ·
    refine qa [(2, .yes)] [0, 1, 2, 7, 8] [(22, .bool true)] ([((i : Nat) : Int) = ((n : Nat) : Int)]) (al1 q7) (ds_ (t_ (sq_ (ao_ (qo0 2 [] [] [(23, .slice p n cap), (24, .slice (some ⟨gv, 0, none⟩) m m)] (ops_append (α := Dom) [bx gv cv 32] Y X (.refl _) rfl (by kernel_rfl) (by kernel_rfl) (p := p) (n := n) (cap := cap) (m := m) (yv := .slice (some ⟨gv, 0, none⟩) m m) (by kernel_rfl) (by kernel_rfl) (T := 32) (by_ := 32) (by kernel_rfl) l vl hO (fun w hw => src_svn Try.underlying22 (sv_row (hw.row 0 rfl) hcv) hm) hm (by have hmx : maxLen = 9223372036854775807 := rfl; omega) (by have hmx : maxLen = 9223372036854775807 := rfl; omega) (fun Y10 p10 cap10 hO10 => qo0 1 [] [] [(6, .slice p10 (n + m) cap10)] (on_ (ds_ (rt ([]) (.slice p10 (n + m) cap10) ?_))))))))))
    exact fun w' hw => ⟨_, _, _, rfl, by rw [show i = l.length by omega, List.take_length, List.drop_length, List.append_nil]; exact hO10, hw.tailN 1⟩
  ·
    refine qa [(2, .no)] [0, 1, 2, 7, 8] [(22, .bool false)] ([¬ (((i : Nat) : Int) = ((n : Nat) : Int))]) (al1 q7) (ds_ (f_ (at_skip (ds_ (sq_ (sq_ ?_))))))
    obtain ⟨g, cs, rfl, rfl, hOw⟩ := hO.rowOf (i := i) (by omega)
    have hcap := hOw.le
    have hcs := hOw.csz
    have hmax := hOw.max
    by_cases q15 : ((n + m : Nat) : Int) > ((cap : Nat) : Int)
    ·
      refine qa [(2, .fit), (5, .yes)] [0, 1, 2, 7, 8] [(31, .bool true)] ([Fit .i64 ((n + m : Nat))] ++ ([((n + m : Nat) : Int) > ((cap : Nat) : Int)])) (alA (al1 (fit64 (by omega) (by omega))) (al1 q15)) (ds_ (t_ (sq_ (ao_ (qo 8 [(2, .sl (.slice (some ⟨g, 0, none⟩) i cap)), (5, .fit), (7, .is [] (.int .i64 ((n + m - i : Nat))))] [0, 1, 2, 7] [(34, .slice (some ⟨g, 0, none⟩) i cap), (39, .int .i64 ((n + m - i : Nat)))] ([SlRun Try.prog 22 (.slice (some ⟨g, 0, none⟩) n cap) none (some (.int .i64 ((i : Nat)))) none (.slice (some ⟨g, 0, none⟩) i cap)] ++ ([Fit .i64 ((n + m : Nat))] ++ ([Value.int .i64 (IntKind.i64.wrap ((((n + m : Nat)) : Int) - ((i : Nat) : Int))) = .int .i64 ((n + m - i : Nat))]))) (alA (al1 (slE_hi (P := Try.prog) (T := 22) (e := 32) (k := 4) (by_ := 32) (by kernel_rfl) (h := i) (by omega))) (alA (al1 (fit64 (by omega) (by omega))) (al1 (by rw [wrap_fit (fit64 (by omega) (by omega))]; congr 1; omega)))) (ops_appendZ rfl (by kernel_rfl) (by kernel_rfl) (p := some ⟨g, 0, none⟩) (m := i) (cap := cap) (n := n + m - i) ((cs.toList.drop 0).take (i * 4)) (by kernel_rfl) (by kernel_rfl) (T := 32) (ks := 4) (by_ := 32) (by kernel_rfl) Try.underlying3 (by decide) (olds_len hcs (by omega)) (fun w hw => first_row (hw.row 1 rfl) (by rw [hcs, Nat.zero_add]; exact Nat.mul_le_mul_right _ (by omega))) (by omega) (by omega) (by simp only [maxLen]; omega) (by omega) (fun g2 c2 cap2 hc2 hle2 hmax2 hpre2 => qo0 1 [] [0, 1, 2, 7] [(9, .slice (some ⟨g2, 0, none⟩) (i + (n + m - i)) cap2)] (on_ (ds_ (sq_ (ao_ (qo 4 [(2, .sl (.slice (some ⟨g2, 0 + i * 4, none⟩) (i + (n + m - i) - i) (cap2 - i)))] [0, 1, 7, 9] [(43, .slice (some ⟨g2, 0 + i * 4, none⟩) (i + (n + m - i) - i) (cap2 - i)), (44, .slice (some ⟨gv, 0, none⟩) m m)] ([SlRun Try.prog 22 (.slice (some ⟨g2, 0, none⟩) (i + (n + m - i)) cap2) (some (.int .i64 ((i : Nat)))) none none (.slice (some ⟨g2, 0 + i * 4, none⟩) (i + (n + m - i) - i) (cap2 - i))]) (al1 (slE_lo (P := Try.prog) (T := 22) (e := 32) (k := 4) (by_ := 32) (by kernel_rfl) (lo := i) (by omega) (by omega))) (ops_copy 0 rfl (by kernel_rfl) (by kernel_rfl) (g := g2) (of := (0 + i * 4)) (dn := (i + (n + m - i) - i)) (dc := (cap2 - i)) (m := m) (cnt := m) (c := c2) (yv := (.slice (some ⟨gv, 0, none⟩) m m)) (vl.flatMap Enc.enc) (by kernel_rfl) (by kernel_rfl) (T := 32) (ks := 4) (by_ := 32) (by kernel_rfl) (T' := 32) (by kernel_rfl) len_slice (by omega) (fun w hw => by have := first_sv (P := Try.prog) (w := w) (p := some ⟨gv, 0, none⟩) (m := m) (cap := m) (cnt := m) (sv_row (hw.row 1 rfl) hcv) (by omega); rw [List.take_of_length_le (by omega)] at this; exact this) (by rw [flat_len, ← hm]; exact mul_room (c := cap2) (by omega) hc2) (flat_one vl) ?_)))))))))))))
      refine on_ (ds_ (sq_ ?_))
      refine at_any (by kernel_rfl) ?_
      refine tk (m := 3) [0, 1, 2, 3, 5, 6] [(3, .fit)] [9] [(46, .slice (some ⟨g2, 0, none⟩) (i + (n + m - i)) cap2), (49, .int .i64 ((i + m : Nat))), (51, .slice (some ⟨g, 0, none⟩) n cap), (52, .int .i64 ((i : Nat)))] ([Fit .i64 ((i + m : Nat))]) #[true, true, true, true, false, true, true, false, false] (al1 (fit64 (by omega) (by omega))) ?_
      refine any_cut 1 #[true, true, true, true, true, true, true, true, false] ([(9, .slice (some ⟨g2, 0, none⟩) (i + (n + m - i)) cap2), (50, .slice (some ⟨g2, 0 + (i + m) * 4, none⟩) (i + (n + m - i) - (i + m)) (cap2 - (i + m))), (53, .slice (some ⟨g, 0 + i * 4, none⟩) (n - i) (cap - i))]) (bx g2 ((sets c2 (0 + i * 4) (vl.flatMap Enc.enc))) 32 :: bx gv cv 32 :: bx g cs 32 :: X) ?_ (fun hm => ?_)
      rotate_left
      ·
        refine any_fork [4, 7] (by kernel_rfl) (by simp) (each_cons _ rfl ?_ (each_cons _ rfl ?_ (each_nil)))
        ·
          refine qo 1 [(4, .sl (.slice (some ⟨g2, 0 + (i + m) * 4, none⟩) (i + (n + m - i) - (i + m)) (cap2 - (i + m))))] [9, 51, 52] [(50, .slice (some ⟨g2, 0 + (i + m) * 4, none⟩) (i + (n + m - i) - (i + m)) (cap2 - (i + m)))] ([SlRun Try.prog 22 (.slice (some ⟨g2, 0, none⟩) (i + (n + m - i)) cap2) (some (.int .i64 ((i + m : Nat)))) none none (.slice (some ⟨g2, 0 + (i + m) * 4, none⟩) (i + (n + m - i) - (i + m)) (cap2 - (i + m)))]) (al1 (slE_lo (P := Try.prog) (T := 22) (e := 32) (k := 4) (by_ := 32) (by kernel_rfl) (lo := i + m) (by omega) (by omega))) ?_
          refine od_ ?_
          refine a1 7 rfl ?_
          refine qo 1 [(7, .sl (.slice (some ⟨g, 0 + i * 4, none⟩) (n - i) (cap - i)))] [9, 50] [(53, .slice (some ⟨g, 0 + i * 4, none⟩) (n - i) (cap - i))] ([SlRun Try.prog 22 (.slice (some ⟨g, 0, none⟩) n cap) (some (.int .i64 ((i : Nat)))) none none (.slice (some ⟨g, 0 + i * 4, none⟩) (n - i) (cap - i))]) (al1 (slE_lo (P := Try.prog) (T := 22) (e := 32) (k := 4) (by_ := 32) (by kernel_rfl) (lo := i) (by omega) (by omega))) ?_
          refine od_ ?_
          exact any_weak hm [9, 50, 53] (by kernel_rfl) rfl rfl rfl
        ·
          refine qo 1 [(7, .sl (.slice (some ⟨g, 0 + i * 4, none⟩) (n - i) (cap - i)))] [9, 46, 49] [(53, .slice (some ⟨g, 0 + i * 4, none⟩) (n - i) (cap - i))] ([SlRun Try.prog 22 (.slice (some ⟨g, 0, none⟩) n cap) (some (.int .i64 ((i : Nat)))) none none (.slice (some ⟨g, 0 + i * 4, none⟩) (n - i) (cap - i))]) (al1 (slE_lo (P := Try.prog) (T := 22) (e := 32) (k := 4) (by_ := 32) (by kernel_rfl) (lo := i) (by omega) (by omega))) ?_
          refine od_ ?_
          refine a1 4 rfl ?_
          refine qo 1 [(4, .sl (.slice (some ⟨g2, 0 + (i + m) * 4, none⟩) (i + (n + m - i) - (i + m)) (cap2 - (i + m))))] [9, 53] [(50, .slice (some ⟨g2, 0 + (i + m) * 4, none⟩) (i + (n + m - i) - (i + m)) (cap2 - (i + m)))] ([SlRun Try.prog 22 (.slice (some ⟨g2, 0, none⟩) (i + (n + m - i)) cap2) (some (.int .i64 ((i + m : Nat)))) none none (.slice (some ⟨g2, 0 + (i + m) * 4, none⟩) (i + (n + m - i) - (i + m)) (cap2 - (i + m)))]) (al1 (slE_lo (P := Try.prog) (T := 22) (e := 32) (k := 4) (by_ := 32) (by kernel_rfl) (lo := i + m) (by omega) (by omega))) ?_
          refine od_ ?_
          exact any_weak hm [9, 50, 53] (by kernel_rfl) rfl rfl rfl
      refine a1 8 rfl ?_
      refine ops_copy 0 rfl (by kernel_rfl) (by kernel_rfl) (g := g2) (of := (0 + (i + m) * 4)) (dn := (i + (n + m - i) - (i + m))) (dc := (cap2 - (i + m))) (m := (n - i)) (cnt := (n - i)) (c := ((sets c2 (0 + i * 4) (vl.flatMap Enc.enc)))) (yv := (.slice (some ⟨g, 0 + i * 4, none⟩) (n - i) (cap - i))) ((cs.toList.drop (0 + i * 4)).take ((n - i) * 4)) (by kernel_rfl) (by kernel_rfl) (T := 32) (ks := 4) (by_ := 32) (by kernel_rfl) (T' := 32) (by kernel_rfl) len_slice (by omega) (fun w hw => first_row (hw.row 2 rfl) (row_room hOw (by omega))) (by rw [sets_size]; exact copy_room (c := cap2) hOw (by omega) (by omega) hc2) (row_one hOw (by omega)) ?_
      refine od_ ?_
      refine any_nil (by kernel_rfl) ?_
      refine ds_ (sq_ (qa0 [] [] [(6, .slice (some ⟨g2, 0, none⟩) (i + (n + m - i)) cap2)] (ds_ (rt ([]) (.slice (some ⟨g2, 0, none⟩) (i + (n + m - i)) cap2) ?_))))
      exact fun w' hw => ⟨some ⟨g2, 0, none⟩, cap2, [_], by rw [show i + (n + m - i) = n + m by omega], .inr ⟨_, _, rfl, rfl, by simp; omega, ins_grow hOw (by omega) hm (by omega) hc2 (by omega) hmax2 hpre2⟩, hw.sub (.cons_cons _ (.cons _ (.cons _ (.refl _))))⟩
    ·
      refine qa [(2, .fit), (5, .no)] [0, 1, 2, 7, 8] [(31, .bool false)] ([Fit .i64 ((n + m : Nat))] ++ ([¬ (((n + m : Nat) : Int) > ((cap : Nat) : Int))])) (alA (al1 (fit64 (by omega) (by omega))) (al1 q15)) (ds_ (f_ (at_skip (ds_ (sq_ (qa [(3, .fit), (4, .sl (.slice (some ⟨g, 0, none⟩) (n + m) cap))] [1, 2, 7, 8] [(0, .slice (some ⟨g, 0, none⟩) (n + m) cap)] ([Fit .i64 ((n + m : Nat))] ++ ([SlRun Try.prog 22 (.slice (some ⟨g, 0, none⟩) n cap) none (some (.int .i64 ((n + m : Nat)))) none (.slice (some ⟨g, 0, none⟩) (n + m) cap)])) (alA (al1 (fit64 (by omega) (by omega))) (al1 (slE_hi (P := Try.prog) (T := 22) (e := 32) (k := 4) (by_ := 32) (by kernel_rfl) (h := n + m) (by omega)))) (ds_ (sq_ (sq_ (ao_ (qo 6 [(4, .fit), (5, .sl (.slice (some ⟨g, 0 + (i + m) * 4, none⟩) (n + m - (i + m)) (cap - (i + m))))] [0, 1, 2, 7, 8] [(61, .slice (some ⟨gv, 0, none⟩) m m), (66, .slice (some ⟨g, 0 + (i + m) * 4, none⟩) (n + m - (i + m)) (cap - (i + m)))] ([Fit .i64 ((i + m : Nat))] ++ ([SlRun Try.prog 22 (.slice (some ⟨g, 0, none⟩) (n + m) cap) (some (.int .i64 ((i + m : Nat)))) none none (.slice (some ⟨g, 0 + (i + m) * 4, none⟩) (n + m - (i + m)) (cap - (i + m)))])) (alA (al1 (fit64 (by omega) (by omega))) (al1 (slE_lo (P := Try.prog) (T := 22) (e := 32) (k := 4) (by_ := 32) (by kernel_rfl) (lo := i + m) (by omega) (by omega)))) (ops_ext (f := 80) (args := #[.slice (some ⟨gv, 0, none⟩) m m, .slice (some ⟨g, 0 + (i + m) * 4, none⟩) (n + m - (i + m)) (cap - (i + m))]) (.bool false) (by kernel_rfl) (by kernel_rfl) (by kernel_rfl) (fun w hw => overlaps_noD (hw.row 0 rfl) (hw.row 1 rfl) (apart_two hw (a := 0) (b := 1) rfl rfl (by decide))) (qo0 1 [] [0, 1, 2, 7, 8] [(68, .bool true)] (on_ (ds_ (t_ (sq_ ?_)))))))))))))))))
      refine at_any (by kernel_rfl) ?_
      refine tk (m := 3) [0, 1, 2, 3, 5, 6] [(3, .fit)] [0, 1, 2] [(69, .slice (some ⟨g, 0, none⟩) (n + m) cap), (72, .int .i64 ((i + m : Nat))), (74, .slice (some ⟨g, 0, none⟩) (n + m) cap), (75, .int .i64 ((i : Nat)))] ([Fit .i64 ((i + m : Nat))]) #[true, true, true, true, false, true, true, false, false] (al1 (fit64 (by omega) (by omega))) ?_
      refine any_cut 1 #[true, true, true, true, true, true, true, true, false] ([(0, .slice (some ⟨g, 0, none⟩) (n + m) cap), (1, .int .i64 ((i : Nat))), (2, .slice (some ⟨gv, 0, none⟩) m m), (73, .slice (some ⟨g, 0 + (i + m) * 4, none⟩) (n + m - (i + m)) (cap - (i + m))), (76, .slice (some ⟨g, 0 + i * 4, none⟩) (n + m - i) (cap - i))]) (bx gv cv 32 :: bx g cs 32 :: X) ?_ (fun hm => ?_)
      rotate_left
      ·
        refine any_fork [4, 7] (by kernel_rfl) (by simp) (each_cons _ rfl ?_ (each_cons _ rfl ?_ (each_nil)))
        ·
          refine qo 1 [(4, .sl (.slice (some ⟨g, 0 + (i + m) * 4, none⟩) (n + m - (i + m)) (cap - (i + m))))] [0, 1, 2, 74, 75] [(73, .slice (some ⟨g, 0 + (i + m) * 4, none⟩) (n + m - (i + m)) (cap - (i + m)))] ([SlRun Try.prog 22 (.slice (some ⟨g, 0, none⟩) (n + m) cap) (some (.int .i64 ((i + m : Nat)))) none none (.slice (some ⟨g, 0 + (i + m) * 4, none⟩) (n + m - (i + m)) (cap - (i + m)))]) (al1 (slE_lo (P := Try.prog) (T := 22) (e := 32) (k := 4) (by_ := 32) (by kernel_rfl) (lo := i + m) (by omega) (by omega))) ?_
          refine od_ ?_
          refine a1 7 rfl ?_
          refine qo 1 [(7, .sl (.slice (some ⟨g, 0 + i * 4, none⟩) (n + m - i) (cap - i)))] [0, 1, 2, 73] [(76, .slice (some ⟨g, 0 + i * 4, none⟩) (n + m - i) (cap - i))] ([SlRun Try.prog 22 (.slice (some ⟨g, 0, none⟩) (n + m) cap) (some (.int .i64 ((i : Nat)))) none none (.slice (some ⟨g, 0 + i * 4, none⟩) (n + m - i) (cap - i))]) (al1 (slE_lo (P := Try.prog) (T := 22) (e := 32) (k := 4) (by_ := 32) (by kernel_rfl) (lo := i) (by omega) (by omega))) ?_
          refine od_ ?_
          exact any_weak hm [0, 1, 2, 73, 76] (by kernel_rfl) rfl rfl rfl
        ·
          refine qo 1 [(7, .sl (.slice (some ⟨g, 0 + i * 4, none⟩) (n + m - i) (cap - i)))] [0, 1, 2, 69, 72] [(76, .slice (some ⟨g, 0 + i * 4, none⟩) (n + m - i) (cap - i))] ([SlRun Try.prog 22 (.slice (some ⟨g, 0, none⟩) (n + m) cap) (some (.int .i64 ((i : Nat)))) none none (.slice (some ⟨g, 0 + i * 4, none⟩) (n + m - i) (cap - i))]) (al1 (slE_lo (P := Try.prog) (T := 22) (e := 32) (k := 4) (by_ := 32) (by kernel_rfl) (lo := i) (by omega) (by omega))) ?_
          refine od_ ?_
          refine a1 4 rfl ?_
          refine qo 1 [(4, .sl (.slice (some ⟨g, 0 + (i + m) * 4, none⟩) (n + m - (i + m)) (cap - (i + m))))] [0, 1, 2, 76] [(73, .slice (some ⟨g, 0 + (i + m) * 4, none⟩) (n + m - (i + m)) (cap - (i + m)))] ([SlRun Try.prog 22 (.slice (some ⟨g, 0, none⟩) (n + m) cap) (some (.int .i64 ((i + m : Nat)))) none none (.slice (some ⟨g, 0 + (i + m) * 4, none⟩) (n + m - (i + m)) (cap - (i + m)))]) (al1 (slE_lo (P := Try.prog) (T := 22) (e := 32) (k := 4) (by_ := 32) (by kernel_rfl) (lo := i + m) (by omega) (by omega))) ?_
          refine od_ ?_
          exact any_weak hm [0, 1, 2, 73, 76] (by kernel_rfl) rfl rfl rfl
      refine a1 8 rfl ?_
      refine ops_copy 1 rfl (by kernel_rfl) (by kernel_rfl) (g := g) (of := (0 + (i + m) * 4)) (dn := (n + m - (i + m))) (dc := (cap - (i + m))) (m := (n + m - i)) (cnt := (n - i)) (c := cs) (yv := (.slice (some ⟨g, 0 + i * 4, none⟩) (n + m - i) (cap - i))) ((cs.toList.drop (0 + i * 4)).take ((n - i) * 4)) (by kernel_rfl) (by kernel_rfl) (T := 32) (ks := 4) (by_ := 32) (by kernel_rfl) (T' := 32) (by kernel_rfl) len_slice (by omega) (fun w hw => first_row (hw.row 1 rfl) (row_room hOw (by omega))) (copy_room (c := cap) hOw (by omega) (by omega) hcs) (row_one hOw (by omega)) ?_
      refine od_ ?_
      refine any_nil (by kernel_rfl) ?_
      refine ds_ (sq_ (ao_ (qo 4 [(2, .sl (.slice (some ⟨g, 0 + i * 4, none⟩) (n + m - i) (cap - i)))] [0] [(80, .slice (some ⟨g, 0 + i * 4, none⟩) (n + m - i) (cap - i)), (81, .slice (some ⟨gv, 0, none⟩) m m)] ([SlRun Try.prog 22 (.slice (some ⟨g, 0, none⟩) (n + m) cap) (some (.int .i64 ((i : Nat)))) none none (.slice (some ⟨g, 0 + i * 4, none⟩) (n + m - i) (cap - i))]) (al1 (slE_lo (P := Try.prog) (T := 22) (e := 32) (k := 4) (by_ := 32) (by kernel_rfl) (lo := i) (by omega) (by omega))) (ops_copy 1 rfl (by kernel_rfl) (by kernel_rfl) (g := g) (of := (0 + i * 4)) (dn := (n + m - i)) (dc := (cap - i)) (m := m) (cnt := m) (c := ((sets cs (0 + (i + m) * 4) ((cs.toList.drop (0 + i * 4)).take ((n - i) * 4))))) (yv := (.slice (some ⟨gv, 0, none⟩) m m)) (vl.flatMap Enc.enc) (by kernel_rfl) (by kernel_rfl) (T := 32) (ks := 4) (by_ := 32) (by kernel_rfl) (T' := 32) (by kernel_rfl) len_slice (by omega) (fun w hw => by have := first_sv (P := Try.prog) (w := w) (p := some ⟨gv, 0, none⟩) (m := m) (cap := m) (cnt := m) (sv_row (hw.row 0 rfl) hcv) (by omega); rw [List.take_of_length_le (by omega)] at this; exact this) (by rw [flat_len, ← hm, sets_size]; exact mul_room (c := cap) (by omega) hcs) (flat_one vl) (on_ (ds_ (sq_ (qa0 [] [] [(6, .slice (some ⟨g, 0, none⟩) (n + m) cap)] (ds_ (rt ([]) (.slice (some ⟨g, 0, none⟩) (n + m) cap) ?_))))))))))
      exact fun w' hw => ⟨_, _, [_], rfl, .inr ⟨_, _, rfl, rfl, by simp; omega, ins_room hOw (by omega) hm (by omega) (by omega)⟩, hw.sub (.cons _ (.refl _))⟩
set_option maxRecDepth 100000 in
theorem overlaps_findV : Extern.find Try.f76 = some (Extern.SlicesOverlaps.overlaps Try.f76.params Try.f76.resultTypes) := by kernel_rfl
set_option maxRecDepth 100000 in
theorem overlaps_nextV : Extern.findNext Try.f76 = none := by kernel_rfl
theorem overlaps_noV {w : World} {g1 o1 g2 o2 m n c1 c2 : Nat} {cs1 cs2 : Array Value} {T1 T2 : TypeId} (h1 : w.heap[g1]? = some (.cells cs1 T1 (0, 0))) (h2 : w.heap[g2]? = some (.cells cs2 T2 (0, 0))) (hne : g1 ≠ g2) :
    (callFunc 76 #[.slice (some ⟨g1, o1, none⟩) m c1, .slice (some ⟨g2, o2, none⟩) n c2]).run Try.prog w = .ok (.value (.bool false)) w := by
  have hf := Try.func76
  have hn : (Try.f76.name == "runtime.NumGoroutine") = false := by kernel_rfl
  have hb : Try.f76.body.isNone = true := by kernel_rfl
  have hp : Try.f76.params[0]? = some 23 := by kernel_rfl
  have hu := Try.underlying23
  obtain ⟨ht', inf, z', hi, hz', _, hks, hby⟩ := elemB_spec (show elemB Try.prog 23 43 4 24 = true by kernel_rfl)
  have hs : inf.size = 4 := by omega
  have s1 : w.shape? g1 = some (T1, cs1.size) := by simp [World.shape?, h1]
  have s2 : w.shape? g2 = some (T2, cs2.size) := by simp [World.shape?, h2]
  have f1 : ∀ j, w.frozen? ⟨g1, j, none⟩ = false := fun j => froz_own h1 j
  have f2 : ∀ j, w.frozen? ⟨g2, j, none⟩ = false := fun j => froz_own h2 j
  have run1 : ∀ args, (callFunc 76 args).run Try.prog w = ((Extern.SlicesOverlaps.overlaps Try.f76.params Try.f76.resultTypes args).run Try.prog w).andThen fun v w' => .ok (.value v) w' := fun args => by
    simp only [callFunc, Sem.run_bind, run_program, Result.andThen_ok, hf, hn, hb, overlaps_nextV, overlaps_findV]
    simp [mark, Sem.run, Sem.run_bind]
  rw [run1]
  have hne' : (g1 == g2) = false := by simpa using hne
  have hs' : (do let i ← typeInfo 43; pure i.size : Sem Nat).run Try.prog w = .ok 4 w := by simp [typeInfo, hi, hs]
  delta Extern.SlicesOverlaps.overlaps
  conv => lhs; arg 1; arg 2; whnf
  have hu' : Try.prog.underlying (Try.f76.params[0]'(by decide)) = some (.slice 43) := by kernel_rfl
  have sb : ∀ (α β : Type) (x : Sem α) (f : α → Sem β) (P : Program) (w : World), (x.bind f).run P w = (x.run P w).andThen fun a w' => (f a).run P w' := fun α β x f P w => Sem.run_bind' P x f w
  by_cases hm : m = 0 ∨ n = 0 ∨ inf.size = 0
  · simp [Sem.run, sb, hu', sizeOf, typeInfo, hi, hm]
  · simp [Sem.run, sb, hu', sizeOf, typeInfo, hi, hm, bne, hne', hne, noView, viewAt, mayBeOne, stringish, shape, frozen, s1, s2, f1, f2]

set_option maxRecDepth 100000 in
theorem insertV_d (w0 : World) (X Y : List Ob) (p : Option Addr) (n cap : Nat) (l : List Vcp) (i gv : Nat) (cv : Array Value) (m : Nat) (vl : List Vcp) (w : World)
    (hH : Hs w0 (bx gv cv 43 :: (Y ++ X)) w) (hO : SlO 43 Y p n cap l) (hcv : cv.toList = vl.flatMap Enc.enc) (hm : m = vl.length) (hm0 : 0 < m) (hi : i ≤ n) (hb : n ≤ 1000) (hmb : m ≤ 1000)
    : Calls Try.prog 54 #[.slice p n cap, .int .i64 (i : Nat), .slice (some ⟨gv, 0, none⟩) m m] w fun e w' => ∃ q capq Y', e = .returned (.slice q (n + m) capq) ∧ SlO 43 Y' q (n + m) capq (l.take i ++ vl ++ l.drop i) ∧ Hs w0 (Y' ++ X) w' := by
  have hn := hO.len
  refine enter hH Try.func54 rfl Try.ntmps54 rfl (sq_ (qa0 [] [0, 1, 2] [] (ds_ (sq_ (qa [(2, .sl (.slice (if cap = i then p else p.map (·.add (i * 4))) (n - i) (cap - i)))] [0, 1, 2] [] ([SlRun Try.prog 23 (.slice p n cap) (some (.int .i64 ((i : Nat)))) none none (.slice (if cap = i then p else p.map (·.add (i * 4))) (n - i) (cap - i))]) (al1 (slE_cut (P := Try.prog) (T := 23) (e := 43) (k := 4) (by_ := 24) (by kernel_rfl) hi)) (ds_ (sq_ (qa0 [] [0, 1, 2] [(7, .int .i64 ((m : Nat)))] (ds_ (sq_ (sq_ (qa [(1, .no)] [0, 1, 2, 7] [(16, .bool false)] ([¬ (((m : Nat) : Int) = (0 : Int))]) (al1 ((by omega))) (ds_ (f_ (at_skip (ds_ (sq_ (qa0 [] [0, 1, 2, 7] [(8, .int .i64 ((n : Nat)))] (ds_ (sq_ (sq_ ?_)))))))))))))))))))))
  by_cases q7 : ((i : Nat) : Int) = ((n : Nat) : Int)
  ·
    refine qa [(2, .yes)] [0, 1, 2, 7, 8] [(22, .bool true)] ([((i : Nat) : Int) = ((n : Nat) : Int)]) (al1 q7) (ds_ (t_ (sq_ (ao_ (qo0 2 [] [] [(23, .slice p n cap), (24, .slice (some ⟨gv, 0, none⟩) m m)] (ops_append (α := Vcp) [bx gv cv 43] Y X (.refl _) rfl (by kernel_rfl) (by kernel_rfl) (p := p) (n := n) (cap := cap) (m := m) (yv := .slice (some ⟨gv, 0, none⟩) m m) (by kernel_rfl) (by kernel_rfl) (T := 43) (by_ := 24) (by kernel_rfl) l vl hO (fun w hw => src_svn Try.underlying23 (sv_row (hw.row 0 rfl) hcv) hm) hm (by have hmx : maxLen = 9223372036854775807 := rfl; omega) (by have hmx : maxLen = 9223372036854775807 := rfl; omega) (fun Y10 p10 cap10 hO10 => qo0 1 [] [] [(6, .slice p10 (n + m) cap10)] (on_ (ds_ (rt ([]) (.slice p10 (n + m) cap10) ?_))))))))))
    exact fun w' hw => ⟨_, _, _, rfl, by rw [show i = l.length by omega, List.take_length, List.drop_length, List.append_nil]; exact hO10, hw.tailN 1⟩
  ·
    refine qa [(2, .no)] [0, 1, 2, 7, 8] [(22, .bool false)] ([¬ (((i : Nat) : Int) = ((n : Nat) : Int))]) (al1 q7) (ds_ (f_ (at_skip (ds_ (sq_ (sq_ ?_))))))
    obtain ⟨g, cs, rfl, rfl, hOw⟩ := hO.rowOf (i := i) (by omega)
    have hcap := hOw.le
    have hcs := hOw.csz
    have hmax := hOw.max
    by_cases q15 : ((n + m : Nat) : Int) > ((cap : Nat) : Int)
    ·
      refine qa [(2, .fit), (5, .yes)] [0, 1, 2, 7, 8] [(31, .bool true)] ([Fit .i64 ((n + m : Nat))] ++ ([((n + m : Nat) : Int) > ((cap : Nat) : Int)])) (alA (al1 (fit64 (by omega) (by omega))) (al1 q15)) (ds_ (t_ (sq_ (ao_ (qo 8 [(2, .sl (.slice (some ⟨g, 0, none⟩) i cap)), (5, .fit), (7, .is [] (.int .i64 ((n + m - i : Nat))))] [0, 1, 2, 7] [(34, .slice (some ⟨g, 0, none⟩) i cap), (39, .int .i64 ((n + m - i : Nat)))] ([SlRun Try.prog 23 (.slice (some ⟨g, 0, none⟩) n cap) none (some (.int .i64 ((i : Nat)))) none (.slice (some ⟨g, 0, none⟩) i cap)] ++ ([Fit .i64 ((n + m : Nat))] ++ ([Value.int .i64 (IntKind.i64.wrap ((((n + m : Nat)) : Int) - ((i : Nat) : Int))) = .int .i64 ((n + m - i : Nat))]))) (alA (al1 (slE_hi (P := Try.prog) (T := 23) (e := 43) (k := 4) (by_ := 24) (by kernel_rfl) (h := i) (by omega))) (alA (al1 (fit64 (by omega) (by omega))) (al1 (by rw [wrap_fit (fit64 (by omega) (by omega))]; congr 1; omega)))) (ops_appendZ rfl (by kernel_rfl) (by kernel_rfl) (p := some ⟨g, 0, none⟩) (m := i) (cap := cap) (n := n + m - i) ((cs.toList.drop 0).take (i * 4)) (by kernel_rfl) (by kernel_rfl) (T := 43) (ks := 4) (by_ := 24) (by kernel_rfl) Try.underlying3 (by decide) (olds_len hcs (by omega)) (fun w hw => first_row (hw.row 1 rfl) (by rw [hcs, Nat.zero_add]; exact Nat.mul_le_mul_right _ (by omega))) (by omega) (by omega) (by simp only [maxLen]; omega) (by omega) (fun g2 c2 cap2 hc2 hle2 hmax2 hpre2 => qo0 1 [] [0, 1, 2, 7] [(9, .slice (some ⟨g2, 0, none⟩) (i + (n + m - i)) cap2)] (on_ (ds_ (sq_ (ao_ (qo 4 [(2, .sl (.slice (some ⟨g2, 0 + i * 4, none⟩) (i + (n + m - i) - i) (cap2 - i)))] [0, 1, 7, 9] [(43, .slice (some ⟨g2, 0 + i * 4, none⟩) (i + (n + m - i) - i) (cap2 - i)), (44, .slice (some ⟨gv, 0, none⟩) m m)] ([SlRun Try.prog 23 (.slice (some ⟨g2, 0, none⟩) (i + (n + m - i)) cap2) (some (.int .i64 ((i : Nat)))) none none (.slice (some ⟨g2, 0 + i * 4, none⟩) (i + (n + m - i) - i) (cap2 - i))]) (al1 (slE_lo (P := Try.prog) (T := 23) (e := 43) (k := 4) (by_ := 24) (by kernel_rfl) (lo := i) (by omega) (by omega))) (ops_copy 0 rfl (by kernel_rfl) (by kernel_rfl) (g := g2) (of := (0 + i * 4)) (dn := (i + (n + m - i) - i)) (dc := (cap2 - i)) (m := m) (cnt := m) (c := c2) (yv := (.slice (some ⟨gv, 0, none⟩) m m)) (vl.flatMap Enc.enc) (by kernel_rfl) (by kernel_rfl) (T := 43) (ks := 4) (by_ := 24) (by kernel_rfl) (T' := 43) (by kernel_rfl) len_slice (by omega) (fun w hw => by have := first_sv (P := Try.prog) (w := w) (p := some ⟨gv, 0, none⟩) (m := m) (cap := m) (cnt := m) (sv_row (hw.row 1 rfl) hcv) (by omega); rw [List.take_of_length_le (by omega)] at this; exact this) (by rw [flat_len, ← hm]; exact mul_room (c := cap2) (by omega) hc2) (flat_one vl) ?_)))))))))))))
      refine on_ (ds_ (sq_ ?_))
      refine at_any (by kernel_rfl) ?_
      refine tk (m := 3) [0, 1, 2, 3, 5, 6] [(3, .fit)] [9] [(46, .slice (some ⟨g2, 0, none⟩) (i + (n + m - i)) cap2), (49, .int .i64 ((i + m : Nat))), (51, .slice (some ⟨g, 0, none⟩) n cap), (52, .int .i64 ((i : Nat)))] ([Fit .i64 ((i + m : Nat))]) #[true, true, true, true, false, true, true, false, false] (al1 (fit64 (by omega) (by omega))) ?_
      refine any_cut 1 #[true, true, true, true, true, true, true, true, false] ([(9, .slice (some ⟨g2, 0, none⟩) (i + (n + m - i)) cap2), (50, .slice (some ⟨g2, 0 + (i + m) * 4, none⟩) (i + (n + m - i) - (i + m)) (cap2 - (i + m))), (53, .slice (some ⟨g, 0 + i * 4, none⟩) (n - i) (cap - i))]) (bx g2 ((sets c2 (0 + i * 4) (vl.flatMap Enc.enc))) 43 :: bx gv cv 43 :: bx g cs 43 :: X) ?_ (fun hm => ?_)
      rotate_left
      ·
        refine any_fork [4, 7] (by kernel_rfl) (by simp) (each_cons _ rfl ?_ (each_cons _ rfl ?_ (each_nil)))
        ·
          refine qo 1 [(4, .sl (.slice (some ⟨g2, 0 + (i + m) * 4, none⟩) (i + (n + m - i) - (i + m)) (cap2 - (i + m))))] [9, 51, 52] [(50, .slice (some ⟨g2, 0 + (i + m) * 4, none⟩) (i + (n + m - i) - (i + m)) (cap2 - (i + m)))] ([SlRun Try.prog 23 (.slice (some ⟨g2, 0, none⟩) (i + (n + m - i)) cap2) (some (.int .i64 ((i + m : Nat)))) none none (.slice (some ⟨g2, 0 + (i + m) * 4, none⟩) (i + (n + m - i) - (i + m)) (cap2 - (i + m)))]) (al1 (slE_lo (P := Try.prog) (T := 23) (e := 43) (k := 4) (by_ := 24) (by kernel_rfl) (lo := i + m) (by omega) (by omega))) ?_
          refine od_ ?_
          refine a1 7 rfl ?_
          refine qo 1 [(7, .sl (.slice (some ⟨g, 0 + i * 4, none⟩) (n - i) (cap - i)))] [9, 50] [(53, .slice (some ⟨g, 0 + i * 4, none⟩) (n - i) (cap - i))] ([SlRun Try.prog 23 (.slice (some ⟨g, 0, none⟩) n cap) (some (.int .i64 ((i : Nat)))) none none (.slice (some ⟨g, 0 + i * 4, none⟩) (n - i) (cap - i))]) (al1 (slE_lo (P := Try.prog) (T := 23) (e := 43) (k := 4) (by_ := 24) (by kernel_rfl) (lo := i) (by omega) (by omega))) ?_
          refine od_ ?_
          exact any_weak hm [9, 50, 53] (by kernel_rfl) rfl rfl rfl
        ·
          refine qo 1 [(7, .sl (.slice (some ⟨g, 0 + i * 4, none⟩) (n - i) (cap - i)))] [9, 46, 49] [(53, .slice (some ⟨g, 0 + i * 4, none⟩) (n - i) (cap - i))] ([SlRun Try.prog 23 (.slice (some ⟨g, 0, none⟩) n cap) (some (.int .i64 ((i : Nat)))) none none (.slice (some ⟨g, 0 + i * 4, none⟩) (n - i) (cap - i))]) (al1 (slE_lo (P := Try.prog) (T := 23) (e := 43) (k := 4) (by_ := 24) (by kernel_rfl) (lo := i) (by omega) (by omega))) ?_
          refine od_ ?_
          refine a1 4 rfl ?_
          refine qo 1 [(4, .sl (.slice (some ⟨g2, 0 + (i + m) * 4, none⟩) (i + (n + m - i) - (i + m)) (cap2 - (i + m))))] [9, 53] [(50, .slice (some ⟨g2, 0 + (i + m) * 4, none⟩) (i + (n + m - i) - (i + m)) (cap2 - (i + m)))] ([SlRun Try.prog 23 (.slice (some ⟨g2, 0, none⟩) (i + (n + m - i)) cap2) (some (.int .i64 ((i + m : Nat)))) none none (.slice (some ⟨g2, 0 + (i + m) * 4, none⟩) (i + (n + m - i) - (i + m)) (cap2 - (i + m)))]) (al1 (slE_lo (P := Try.prog) (T := 23) (e := 43) (k := 4) (by_ := 24) (by kernel_rfl) (lo := i + m) (by omega) (by omega))) ?_
          refine od_ ?_
          exact any_weak hm [9, 50, 53] (by kernel_rfl) rfl rfl rfl
      refine a1 8 rfl ?_
      refine ops_copy 0 rfl (by kernel_rfl) (by kernel_rfl) (g := g2) (of := (0 + (i + m) * 4)) (dn := (i + (n + m - i) - (i + m))) (dc := (cap2 - (i + m))) (m := (n - i)) (cnt := (n - i)) (c := ((sets c2 (0 + i * 4) (vl.flatMap Enc.enc)))) (yv := (.slice (some ⟨g, 0 + i * 4, none⟩) (n - i) (cap - i))) ((cs.toList.drop (0 + i * 4)).take ((n - i) * 4)) (by kernel_rfl) (by kernel_rfl) (T := 43) (ks := 4) (by_ := 24) (by kernel_rfl) (T' := 43) (by kernel_rfl) len_slice (by omega) (fun w hw => first_row (hw.row 2 rfl) (row_room hOw (by omega))) (by rw [sets_size]; exact copy_room (c := cap2) hOw (by omega) (by omega) hc2) (row_one hOw (by omega)) ?_
      refine od_ ?_
      refine any_nil (by kernel_rfl) ?_
      refine ds_ (sq_ (qa0 [] [] [(6, .slice (some ⟨g2, 0, none⟩) (i + (n + m - i)) cap2)] (ds_ (rt ([]) (.slice (some ⟨g2, 0, none⟩) (i + (n + m - i)) cap2) ?_))))
      exact fun w' hw => ⟨some ⟨g2, 0, none⟩, cap2, [_], by rw [show i + (n + m - i) = n + m by omega], .inr ⟨_, _, rfl, rfl, by simp; omega, ins_grow hOw (by omega) hm (by omega) hc2 (by omega) hmax2 hpre2⟩, hw.sub (.cons_cons _ (.cons _ (.cons _ (.refl _))))⟩
    ·
      refine qa [(2, .fit), (5, .no)] [0, 1, 2, 7, 8] [(31, .bool false)] ([Fit .i64 ((n + m : Nat))] ++ ([¬ (((n + m : Nat) : Int) > ((cap : Nat) : Int))])) (alA (al1 (fit64 (by omega) (by omega))) (al1 q15)) (ds_ (f_ (at_skip (ds_ (sq_ (qa [(3, .fit), (4, .sl (.slice (some ⟨g, 0, none⟩) (n + m) cap))] [1, 2, 7, 8] [(0, .slice (some ⟨g, 0, none⟩) (n + m) cap)] ([Fit .i64 ((n + m : Nat))] ++ ([SlRun Try.prog 23 (.slice (some ⟨g, 0, none⟩) n cap) none (some (.int .i64 ((n + m : Nat)))) none (.slice (some ⟨g, 0, none⟩) (n + m) cap)])) (alA (al1 (fit64 (by omega) (by omega))) (al1 (slE_hi (P := Try.prog) (T := 23) (e := 43) (k := 4) (by_ := 24) (by kernel_rfl) (h := n + m) (by omega)))) (ds_ (sq_ (sq_ (ao_ (qo 6 [(4, .fit), (5, .sl (.slice (some ⟨g, 0 + (i + m) * 4, none⟩) (n + m - (i + m)) (cap - (i + m))))] [0, 1, 2, 7, 8] [(61, .slice (some ⟨gv, 0, none⟩) m m), (66, .slice (some ⟨g, 0 + (i + m) * 4, none⟩) (n + m - (i + m)) (cap - (i + m)))] ([Fit .i64 ((i + m : Nat))] ++ ([SlRun Try.prog 23 (.slice (some ⟨g, 0, none⟩) (n + m) cap) (some (.int .i64 ((i + m : Nat)))) none none (.slice (some ⟨g, 0 + (i + m) * 4, none⟩) (n + m - (i + m)) (cap - (i + m)))])) (alA (al1 (fit64 (by omega) (by omega))) (al1 (slE_lo (P := Try.prog) (T := 23) (e := 43) (k := 4) (by_ := 24) (by kernel_rfl) (lo := i + m) (by omega) (by omega)))) (ops_ext (f := 76) (args := #[.slice (some ⟨gv, 0, none⟩) m m, .slice (some ⟨g, 0 + (i + m) * 4, none⟩) (n + m - (i + m)) (cap - (i + m))]) (.bool false) (by kernel_rfl) (by kernel_rfl) (by kernel_rfl) (fun w hw => overlaps_noV (hw.row 0 rfl) (hw.row 1 rfl) (apart_two hw (a := 0) (b := 1) rfl rfl (by decide))) (qo0 1 [] [0, 1, 2, 7, 8] [(68, .bool true)] (on_ (ds_ (t_ (sq_ ?_)))))))))))))))))
      refine at_any (by kernel_rfl) ?_
      refine tk (m := 3) [0, 1, 2, 3, 5, 6] [(3, .fit)] [0, 1, 2] [(69, .slice (some ⟨g, 0, none⟩) (n + m) cap), (72, .int .i64 ((i + m : Nat))), (74, .slice (some ⟨g, 0, none⟩) (n + m) cap), (75, .int .i64 ((i : Nat)))] ([Fit .i64 ((i + m : Nat))]) #[true, true, true, true, false, true, true, false, false] (al1 (fit64 (by omega) (by omega))) ?_
      refine any_cut 1 #[true, true, true, true, true, true, true, true, false] ([(0, .slice (some ⟨g, 0, none⟩) (n + m) cap), (1, .int .i64 ((i : Nat))), (2, .slice (some ⟨gv, 0, none⟩) m m), (73, .slice (some ⟨g, 0 + (i + m) * 4, none⟩) (n + m - (i + m)) (cap - (i + m))), (76, .slice (some ⟨g, 0 + i * 4, none⟩) (n + m - i) (cap - i))]) (bx gv cv 43 :: bx g cs 43 :: X) ?_ (fun hm => ?_)
      rotate_left
      ·
        refine any_fork [4, 7] (by kernel_rfl) (by simp) (each_cons _ rfl ?_ (each_cons _ rfl ?_ (each_nil)))
        ·
          refine qo 1 [(4, .sl (.slice (some ⟨g, 0 + (i + m) * 4, none⟩) (n + m - (i + m)) (cap - (i + m))))] [0, 1, 2, 74, 75] [(73, .slice (some ⟨g, 0 + (i + m) * 4, none⟩) (n + m - (i + m)) (cap - (i + m)))] ([SlRun Try.prog 23 (.slice (some ⟨g, 0, none⟩) (n + m) cap) (some (.int .i64 ((i + m : Nat)))) none none (.slice (some ⟨g, 0 + (i + m) * 4, none⟩) (n + m - (i + m)) (cap - (i + m)))]) (al1 (slE_lo (P := Try.prog) (T := 23) (e := 43) (k := 4) (by_ := 24) (by kernel_rfl) (lo := i + m) (by omega) (by omega))) ?_
          refine od_ ?_
          refine a1 7 rfl ?_
          refine qo 1 [(7, .sl (.slice (some ⟨g, 0 + i * 4, none⟩) (n + m - i) (cap - i)))] [0, 1, 2, 73] [(76, .slice (some ⟨g, 0 + i * 4, none⟩) (n + m - i) (cap - i))] ([SlRun Try.prog 23 (.slice (some ⟨g, 0, none⟩) (n + m) cap) (some (.int .i64 ((i : Nat)))) none none (.slice (some ⟨g, 0 + i * 4, none⟩) (n + m - i) (cap - i))]) (al1 (slE_lo (P := Try.prog) (T := 23) (e := 43) (k := 4) (by_ := 24) (by kernel_rfl) (lo := i) (by omega) (by omega))) ?_
          refine od_ ?_
          exact any_weak hm [0, 1, 2, 73, 76] (by kernel_rfl) rfl rfl rfl
        ·
          refine qo 1 [(7, .sl (.slice (some ⟨g, 0 + i * 4, none⟩) (n + m - i) (cap - i)))] [0, 1, 2, 69, 72] [(76, .slice (some ⟨g, 0 + i * 4, none⟩) (n + m - i) (cap - i))] ([SlRun Try.prog 23 (.slice (some ⟨g, 0, none⟩) (n + m) cap) (some (.int .i64 ((i : Nat)))) none none (.slice (some ⟨g, 0 + i * 4, none⟩) (n + m - i) (cap - i))]) (al1 (slE_lo (P := Try.prog) (T := 23) (e := 43) (k := 4) (by_ := 24) (by kernel_rfl) (lo := i) (by omega) (by omega))) ?_
          refine od_ ?_
          refine a1 4 rfl ?_
          refine qo 1 [(4, .sl (.slice (some ⟨g, 0 + (i + m) * 4, none⟩) (n + m - (i + m)) (cap - (i + m))))] [0, 1, 2, 76] [(73, .slice (some ⟨g, 0 + (i + m) * 4, none⟩) (n + m - (i + m)) (cap - (i + m)))] ([SlRun Try.prog 23 (.slice (some ⟨g, 0, none⟩) (n + m) cap) (some (.int .i64 ((i + m : Nat)))) none none (.slice (some ⟨g, 0 + (i + m) * 4, none⟩) (n + m - (i + m)) (cap - (i + m)))]) (al1 (slE_lo (P := Try.prog) (T := 23) (e := 43) (k := 4) (by_ := 24) (by kernel_rfl) (lo := i + m) (by omega) (by omega))) ?_
          refine od_ ?_
          exact any_weak hm [0, 1, 2, 73, 76] (by kernel_rfl) rfl rfl rfl
      refine a1 8 rfl ?_
      refine ops_copy 1 rfl (by kernel_rfl) (by kernel_rfl) (g := g) (of := (0 + (i + m) * 4)) (dn := (n + m - (i + m))) (dc := (cap - (i + m))) (m := (n + m - i)) (cnt := (n - i)) (c := cs) (yv := (.slice (some ⟨g, 0 + i * 4, none⟩) (n + m - i) (cap - i))) ((cs.toList.drop (0 + i * 4)).take ((n - i) * 4)) (by kernel_rfl) (by kernel_rfl) (T := 43) (ks := 4) (by_ := 24) (by kernel_rfl) (T' := 43) (by kernel_rfl) len_slice (by omega) (fun w hw => first_row (hw.row 1 rfl) (row_room hOw (by omega))) (copy_room (c := cap) hOw (by omega) (by omega) hcs) (row_one hOw (by omega)) ?_
      refine od_ ?_
      refine any_nil (by kernel_rfl) ?_
      refine ds_ (sq_ (ao_ (qo 4 [(2, .sl (.slice (some ⟨g, 0 + i * 4, none⟩) (n + m - i) (cap - i)))] [0] [(80, .slice (some ⟨g, 0 + i * 4, none⟩) (n + m - i) (cap - i)), (81, .slice (some ⟨gv, 0, none⟩) m m)] ([SlRun Try.prog 23 (.slice (some ⟨g, 0, none⟩) (n + m) cap) (some (.int .i64 ((i : Nat)))) none none (.slice (some ⟨g, 0 + i * 4, none⟩) (n + m - i) (cap - i))]) (al1 (slE_lo (P := Try.prog) (T := 23) (e := 43) (k := 4) (by_ := 24) (by kernel_rfl) (lo := i) (by omega) (by omega))) (ops_copy 1 rfl (by kernel_rfl) (by kernel_rfl) (g := g) (of := (0 + i * 4)) (dn := (n + m - i)) (dc := (cap - i)) (m := m) (cnt := m) (c := ((sets cs (0 + (i + m) * 4) ((cs.toList.drop (0 + i * 4)).take ((n - i) * 4))))) (yv := (.slice (some ⟨gv, 0, none⟩) m m)) (vl.flatMap Enc.enc) (by kernel_rfl) (by kernel_rfl) (T := 43) (ks := 4) (by_ := 24) (by kernel_rfl) (T' := 43) (by kernel_rfl) len_slice (by omega) (fun w hw => by have := first_sv (P := Try.prog) (w := w) (p := some ⟨gv, 0, none⟩) (m := m) (cap := m) (cnt := m) (sv_row (hw.row 0 rfl) hcv) (by omega); rw [List.take_of_length_le (by omega)] at this; exact this) (by rw [flat_len, ← hm, sets_size]; exact mul_room (c := cap) (by omega) hcs) (flat_one vl) (on_ (ds_ (sq_ (qa0 [] [] [(6, .slice (some ⟨g, 0, none⟩) (n + m) cap)] (ds_ (rt ([]) (.slice (some ⟨g, 0, none⟩) (n + m) cap) ?_))))))))))
      exact fun w' hw => ⟨_, _, [_], rfl, .inr ⟨_, _, rfl, rfl, by simp; omega, ins_room hOw (by omega) hm (by omega) (by omega)⟩, hw.sub (.cons _ (.refl _))⟩
end Go.Proofs.Ytnoefldpkfpglaa

/-! Domains: what the movers leave; plain. -/
namespace Go.Proofs.Ytnoefldpkfpglaa
open Go Go.RowKit

/-- Guests, and an error's number. -/
abbrev G3 := List Dom × List Vcp × Int
def createV (ds : List Dom) (vs : List Vcp) (d : Dom) : G3 :=
  if guestsB ds vs = false then ([], [], 190) else if mayB d = false then ([], [], 2) else if (getK Dom.id ds d.id).isSome then ([], [], 5) else (insK Dom.id ds d, vs, 0)
def changeV (ds : List Dom) (vs : List Vcp) (d : Dom) : G3 :=
  if guestsB ds vs = false then ([], [], 190) else if mayB d = false then ([], [], 2) else if (getK Dom.id ds d.id).isSome = false then ([], [], 4) else (putK Dom.id ds d, vs, 0)
def destroyV (ds : List Dom) (vs : List Vcp) (k : Int) : G3 :=
  if guestsB ds vs = false then ([], [], 190) else if (getK Dom.id ds k).isSome = false then ([], [], 4) else if 0 < cntV vs k then ([], [], 8) else (delK Dom.id ds k, vs, 0)
/-- Behind the first i vCPUs, which have the numbers up to i: how many have the numbers that follow. -/
def gapV : List Vcp → Nat → Nat
  | [], i => i
  | v :: t, i => if v.id = (i : Int) + 1 then gapV t (i + 1) else i
def addV (ds : List Dom) (vs : List Vcp) (k h s : Int) : G3 :=
  if guestsB ds vs = false then ([], [], 190) else if (getK Dom.id ds k).isSome = false then ([], [], 4) else if maskB h s = false then ([], [], 170)
  else if vs.length = 16 ∨ cntV vs k = 8 then ([], [], 6) else (ds, vs.take (gapV vs 0) ++ [⟨(gapV vs 0 : Nat) + 1, k, h, s⟩] ++ vs.drop (gapV vs 0), 0)
/-- The number that was given. -/
def addN (ds : List Dom) (vs : List Vcp) (k h s : Int) : Int := if (addV ds vs k h s).2.2 = 0 then (gapV vs 0 : Nat) + 1 else 0
def dropV (ds : List Dom) (vs : List Vcp) (k : Int) : G3 :=
  if guestsB ds vs = false then ([], [], 190) else if (getK Vcp.id vs k).isSome = false then ([], [], 4) else (ds, delK Vcp.id vs k, 0)
def remaskV (ds : List Dom) (vs : List Vcp) (k h s : Int) : G3 :=
  if guestsB ds vs = false then ([], [], 190) else match getK Vcp.id vs k with
  | none => ([], [], 4)
  | some v => if maskB h s = false then ([], [], 170) else (ds, putK Vcp.id vs ⟨v.id, v.dom, h, s⟩, 0)
section
variable {ds : List Dom} {vs : List Vcp} {d x : Dom} {k h s : Int} {v : Vcp} {i j : Nat}
theorem createV_bad (g : guestsB ds vs = false) : createV ds vs d = ([], [], 190) := by simp [createV, g]
theorem createV_arg (g : guestsB ds vs = true) (m : mayB d = false) : createV ds vs d = ([], [], 2) := by simp [createV, g, m]
theorem createV_there (g : guestsB ds vs = true) (m : mayB d = true) (e : getK Dom.id ds d.id = some x) : createV ds vs d = ([], [], 5) := by simp [createV, g, m, e]
theorem createV_ok (g : guestsB ds vs = true) (m : mayB d = true) (e : getK Dom.id ds d.id = none) : createV ds vs d = (ds.take (posK Dom.id ds d.id) ++ [d] ++ ds.drop (posK Dom.id ds d.id), vs, 0) := by simp [createV, g, m, e, insK]
theorem addV_bad (g : guestsB ds vs = false) : addV ds vs k h s = ([], [], 190) := by simp [addV, g]
theorem addV_none (g : guestsB ds vs = true) (e : getK Dom.id ds k = none) : addV ds vs k h s = ([], [], 4) := by simp [addV, g, e]
theorem addV_mask (g : guestsB ds vs = true) (e : getK Dom.id ds k = some x) (m : maskB h s = false) : addV ds vs k h s = ([], [], 170) := by simp [addV, g, e, m]
theorem addV_full (g : guestsB ds vs = true) (e : getK Dom.id ds k = some x) (m : maskB h s = true) (f : vs.length = 16 ∨ cntV vs k = 8) : addV ds vs k h s = ([], [], 6) := by
  simp only [addV, g, e, m, if_pos f, Option.isSome_some, if_false, Bool.true_eq_false]
theorem addV_ok (g : guestsB ds vs = true) (e : getK Dom.id ds k = some x) (m : maskB h s = true) (f : ¬ (vs.length = 16 ∨ cntV vs k = 8)) (hj : gapV vs 0 = j) : addV ds vs k h s = (ds, vs.take j ++ [⟨((j + 1 : Nat) : Int), k, h, s⟩] ++ vs.drop j, 0) := by
  subst hj
  simp only [addV, g, e, m, if_neg f, Option.isSome_some, if_false, Bool.true_eq_false]
  rfl
theorem addN_no {e : Int} (h0 : addV ds vs k h s = ([], [], e)) (he : e ≠ 0) : addN ds vs k h s = 0 := by simp [addN, h0, he]
theorem addN_ok {a : List Dom} {b : List Vcp} (h0 : addV ds vs k h s = (a, b, 0)) (hj : gapV vs 0 = j) : addN ds vs k h s = ((j + 1 : Nat) : Int) := by simp [addN, h0, hj]
/-- The walk along the numbers. -/
theorem gap_on (hI : gapV (vs.drop j) j = gapV vs 0) (hx : vs[j]? = some v) (e : v.id = ((j + 1 : Nat) : Int)) : gapV (vs.drop (j + 1)) (j + 1) = gapV vs 0 := by
  rw [← hI, ← List.getElem_cons_drop (List.getElem?_eq_some_iff.1 hx).1, (List.getElem?_eq_some_iff.1 hx).2]
  simp [gapV, e]
theorem gap_at (hI : gapV (vs.drop j) j = gapV vs 0) (hx : vs[j]? = some v) (e : ¬ v.id = ((j + 1 : Nat) : Int)) : gapV vs 0 = j := by
  rw [← hI, ← List.getElem_cons_drop (List.getElem?_eq_some_iff.1 hx).1, (List.getElem?_eq_some_iff.1 hx).2]
  have : ¬ v.id = (j : Int) + 1 := fun h => e (by omega)
  simp [gapV, this]
theorem gap_end (hI : gapV (vs.drop j) j = gapV vs 0) (h : vs.length ≤ j) : gapV vs 0 = j := by
  rw [← hI, List.drop_of_length_le h]; rfl
/-- The layer does something. -/
theorem wk1 : createV [] [] ⟨2, 256, 0, 0⟩ = ([⟨2, 256, 0, 0⟩], [], 0) := by decide
theorem wk2 : addV [⟨2, 256, 0, 0⟩] [] 2 1 0 = ([⟨2, 256, 0, 0⟩], [⟨1, 2, 1, 0⟩], 0) ∧ addN [⟨2, 256, 0, 0⟩] [] 2 1 0 = 1 := by decide
theorem wk3 : addV [⟨2, 256, 0, 0⟩] [⟨1, 2, 1, 0⟩] 2 1 0 = ([⟨2, 256, 0, 0⟩], [⟨1, 2, 1, 0⟩, ⟨2, 2, 1, 0⟩], 0) ∧ addN [⟨2, 256, 0, 0⟩] [⟨1, 2, 1, 0⟩] 2 1 0 = 2 := by decide
theorem wk4 : rateV [⟨2, 256, 0, 0⟩] [⟨1, 2, 1, 0⟩, ⟨2, 2, 1, 0⟩] 2 = .tuple #[.int .i64 256, .int .i64 2, .bool true] := by
  have h : guestsB [⟨2, 256, 0, 0⟩] [⟨1, 2, 1, 0⟩, ⟨2, 2, 1, 0⟩] = true := by decide
  simp [rateV, h, fG, getK, cntV]
theorem two_tails {w0 w : World} {Y X : List Ob} (h : Hs w0 (Y ++ (X ++ [])) w) : Hs w0 (Y ++ X) w := by rwa [List.append_nil] at h
theorem Hs.join2 {w0 w w' : World} {L Y X : List Ob} (h : Hs w0 L w) (hb : Below w.heap.size w w') (hY : Hs w (Y ++ X) w') (n : Nat) : Hs w0 (L.take n ++ (Y ++ (X ++ L.drop n))) w' := by
  have := h.join hb hY n
  rwa [List.append_assoc] at this
end
end Go.Proofs.Ytnoefldpkfpglaa
