/- Texts of this proof, one behind the other. -/
import Derived.Test.YtdbamgbgnpadjaaGreatZa
import Derived.Shelf.SlSortCmp.NoneTotal
import Derived.Test.YtdbamgbgnpadjaaGreatProg
import Derived.StillTailTactics
import Derived.Laws.StructEq
import Derived.MapKept
import Derived.Laws.MakeOwn
/-! Timers: what they are; plain. -/
namespace Go.Proofs.YtdbamgbgnpadjaaGreat
open Go Go.RowKit

structure Tim where
  id : Int
  due : Int
deriving DecidableEq, Inhabited
instance : Enc Tim := ⟨fun x => [.int .i64 x.id, .int .i64 x.due], 2, fun _ => rfl, fun x v h => by simp at h; rcases h with rfl | rfl <;> rfl, by decide⟩
def cmpT (a b : Int) : Int := if a < b then -1 else if a > b then 1 else 0
theorem cmpT_iff (a b : Int) : (cmpT a b < 0 ↔ a < b) ∧ (cmpT a b = 0 ↔ a = b) := by unfold cmpT; constructor <;> constructor <;> intro h <;> (repeat' split at h) <;> (repeat' split) <;> omega
theorem rd_oneT {w : World} {g : Nat} {v : Value} {T : TypeId} {f : Nat × Nat} (h : w.heap[g]? = some (.cells #[v] T f)) : Rd w g (0 + 0 * 1) [v] := fun j u hj => by
  match j, hj with
  | 0, hj => rw [show (⟨g, 0 + 0 * 1 + 0, none⟩ : Addr) = ⟨g, 0, none⟩ from rfl, cell_own h]; simpa using hj
def idB (k : Int) : Bool := decide (0 ≤ k ∧ k < 32)
def timB (now : Int) (t : Tim) : Bool := decide (0 ≤ t.id ∧ t.id < 32 ∧ now < t.due ∧ t.due ≤ 1125899906842624)
/-- May a wheel be? -/
def wheelB (now : Int) (ts : List Tim) : Bool := decide (0 ≤ now ∧ now ≤ 1125899906842624) && risK Tim.id ts && ts.all (timB now)
structure GoodW (now : Int) (ts : List Tim) : Prop where
  n0 : 0 ≤ now
  n1 : now ≤ 1125899906842624
  rs : Ris Tim.id ts
  tm : ∀ t ∈ ts, 0 ≤ t.id ∧ t.id < 32 ∧ now < t.due ∧ t.due ≤ 1125899906842624
section
variable {now k : Int} {ts : List Tim} {x t : Tim} {j : Nat}
theorem wheel_iff : wheelB now ts = true ↔ GoodW now ts := by
  unfold wheelB
  simp only [Bool.and_eq_true, List.all_eq_true, ris_iffK, timB, decide_eq_true_eq]
  exact ⟨fun h => ⟨h.1.1.1, h.1.1.2, h.1.2, h.2⟩, fun h => ⟨⟨⟨h.n0, h.n1⟩, h.rs⟩, h.tm⟩⟩
theorem GoodW.len (h : GoodW now ts) : ts.length ≤ 32 := by
  have := risK_len ts 0 31 h.rs (fun t ht => by have := h.tm t ht; omega) (by omega)
  omega
theorem bad_now (h : now < 0 ∨ 1125899906842624 < now) : wheelB now ts = false := by
  cases e : wheelB now ts with
  | false => rfl
  | true => have := (wheel_iff.1 e).n0; have := (wheel_iff.1 e).n1; omega
theorem bad_len (h : 32 < ts.length) : wheelB now ts = false := by
  cases e : wheelB now ts with
  | false => rfl
  | true => have := (wheel_iff.1 e).len; omega
theorem bad_tim (hx : ts[j]? = some x) (h : x.id < 0 ∨ 32 ≤ x.id ∨ x.due ≤ now ∨ 1125899906842624 < x.due) : wheelB now ts = false := by
  cases e : wheelB now ts with
  | false => rfl
  | true => have := (wheel_iff.1 e).tm x (List.mem_of_getElem? hx); omega
theorem bad_rise {y : Tim} {i : Nat} (hx : ts[j]? = some x) (hy : ts[i]? = some y) (hij : i < j) (h : x.id ≤ y.id) : wheelB now ts = false := by
  cases e : wheelB now ts with
  | false => rfl
  | true => have := (wheel_iff.1 e).rs.at hij hy hx; omega
theorem good_tims (h0 : 0 ≤ now) (h1 : now ≤ 1125899906842624) (hr : Ris Tim.id (ts.take j)) (hj : ts.length ≤ j) (ht : ∀ t ∈ ts.take j, 0 ≤ t.id ∧ t.id < 32 ∧ now < t.due ∧ t.due ≤ 1125899906842624) : wheelB now ts = true := by
  rw [List.take_of_length_le hj] at hr ht
  exact wheel_iff.2 ⟨h0, h1, hr, ht⟩
theorem all_onT {α : Type} {l : List α} {x : α} {p : α → Prop} (h : ∀ y ∈ l.take j, p y) (hx : l[j]? = some x) (e : p x) : ∀ y ∈ l.take (j + 1), p y := by
  rw [List.take_add_one, hx]
  intro y hy
  rcases List.mem_append.1 hy with hy | hy
  · exact h y hy
  · simp only [Option.toList_some, List.mem_singleton] at hy; subst hy; exact e
theorem all_take0T {α : Type} {l : List α} {p : α → Prop} : ∀ y ∈ l.take 0, p y := by simp
theorem ris_take0T {α : Type} {f : α → Int} {l : List α} : Ris f (l.take 0) := by rw [List.take_zero]; exact List.Pairwise.nil
theorem ris_take_onT {α : Type} {f : α → Int} {l : List α} {x : α} (h : Ris f (l.take j)) (hx : l[j]? = some x) (hp : j = 0 ∨ ∃ y, l[j - 1]? = some y ∧ f y < f x) : Ris f (l.take (j + 1)) := by
  rw [List.take_add_one, hx]
  refine List.pairwise_append.2 ⟨h, by simp, fun a ha b hb => ?_⟩
  simp only [Option.toList_some, List.mem_singleton] at hb
  subst hb
  obtain ⟨i, hi⟩ := List.mem_iff_getElem?.1 ha
  have hij : i < j := by
    have := (List.getElem?_eq_some_iff.1 hi).1
    simp only [List.length_take] at this
    omega
  rcases hp with rfl | ⟨y, hy, hlt⟩
  · omega
  · by_cases e : i = j - 1
    · subst e
      rw [List.getElem?_take, if_pos hij, hy] at hi
      cases hi; exact hlt
    · have hy' : (l.take j)[j - 1]? = some y := by rw [List.getElem?_take, if_pos (by omega)]; exact hy
      have := h.at (show i < j - 1 by omega) hi hy'
      omega
end
section
variable {α : Type} {l l2 : List α} {x y : α} {j : Nat}
theorem dsame_on (h : l.take j = l2.take j) (hx : l[j]? = some x) (hy : l2[j]? = some y) (e : x = y) : l.take (j + 1) = l2.take (j + 1) := by
  rw [List.take_add_one, List.take_add_one, h, hx, hy, e]
theorem dsame_no [DecidableEq α] (hx : l[j]? = some x) (hy : l2[j]? = some y) (e : ¬ x = y) : false = decide (l = l2) := by
  refine (decide_eq_false fun h => e ?_).symm
  rw [h, hy] at hx
  exact (Option.some.inj hx).symm
theorem dsame_yes [DecidableEq α] (h : l.take j = l2.take j) (h1 : l.length ≤ j) (h2 : l2.length ≤ j) : true = decide (l = l2) := by
  rw [List.take_of_length_le h1, List.take_of_length_le h2] at h
  exact (decide_eq_true h).symm
theorem dsame_len [DecidableEq α] (h : ¬ l.length = l2.length) : false = decide (l = l2) := (decide_eq_false fun e => h (by rw [e])).symm
end
section
variable {α : Type} {f : α → Int} {l : List α} {x y : α} {k : Int} {j : Nat}
theorem getK_on (hI : getK f (l.drop j) k = getK f l k) (hx : l[j]? = some x) (e : ¬ f x = k) : getK f (l.drop (j + 1)) k = getK f l k := by
  rw [← hI, ← List.getElem_cons_drop (List.getElem?_eq_some_iff.1 hx).1, (List.getElem?_eq_some_iff.1 hx).2]
  simp [getK, e]
theorem getK_at (hI : getK f (l.drop j) k = getK f l k) (hx : l[j]? = some x) (e : f x = k) : getK f l k = some x := by
  rw [← hI, ← List.getElem_cons_drop (List.getElem?_eq_some_iff.1 hx).1, (List.getElem?_eq_some_iff.1 hx).2]
  simp [getK, e]
theorem getK_end (hI : getK f (l.drop j) k = getK f l k) (h : l.length ≤ j) : getK f l k = none := by
  rw [← hI, List.drop_of_length_le h]; rfl
end
/-- When a timer is due, of a wheel that may be. -/
def atO (now : Int) (ts : List Tim) (k : Int) : Option Tim := if wheelB now ts = true then getK Tim.id ts k else none
def atV (o : Option Tim) : Value := match o with
  | some x => .tuple #[.int .i64 x.due, .bool true]
  | none => .tuple #[.int .i64 0, .bool false]
/-- A gathering, one on. -/
theorem gath_onT {α β : Type} {l : List α} {g : α → List β} {x : α} {ys : List β} {j : Nat} (hx : l[j]? = some x) (e : g x = ys) : (l.take (j + 1)).flatMap g = (l.take j).flatMap g ++ ys := by
  rw [List.take_add_one, hx, List.flatMap_append]; simp [e]
end Go.Proofs.YtdbamgbgnpadjaaGreat

/-! The walker: slices.SortFunc on a slice of one's own, by the library's contract. -/
namespace Go.Proofs.YtdbamgbgnpadjaaGreat
open Go Go.RowKit Go.Shelf Go.Proofs
open Go.Sort (flatK get_flatK HoldsK putRowK size_flatK)

section
variable {α : Type} [Enc α] [Inhabited α]
theorem flatK_is (l : List α) : flatK Enc.enc (Enc.k α) l.toArray = (l.flatMap Enc.enc).toArray := by
  have hk := Enc.pos (α := α)
  apply Array.ext
  · rw [size_flatK, List.size_toArray, List.size_toArray, flat_len]
  · intro t h1 h2
    have ht : t < l.length * Enc.k α := by rw [← flat_len]; exact h2
    have hi : t / Enc.k α < l.length := Nat.div_lt_of_lt_mul (by rw [Nat.mul_comm]; exact ht)
    have hj : t % Enc.k α < Enc.k α := Nat.mod_lt _ hk
    have hg := flat_get l (t / Enc.k α) hi (t % Enc.k α) hj
    rw [Nat.mul_comm, Nat.div_add_mod] at hg
    have h3 := get_flatK Enc.enc (Enc.k α) l.toArray t (by simpa using ht)
    rw [getElem!_pos (flatK Enc.enc (Enc.k α) l.toArray) t h1] at h3
    rw [h3]
    have e1 : l.toArray[t / Enc.k α]! = l[t / Enc.k α] := by rw [getElem!_pos l.toArray _ (by simpa using hi)]; simp
    rw [e1]
    have h4 : t % Enc.k α < (Enc.enc l[t / Enc.k α]).length := by rw [Enc.len]; exact hj
    rw [getElem!_pos (Enc.enc l[t / Enc.k α]) _ h4]
    rw [List.getElem?_eq_getElem h4, List.getElem?_eq_getElem (by simpa using h2)] at hg
    simp only [Option.some.injEq] at hg
    simpa using hg.symm
theorem holdsK_own {w : World} {g n cap : Nat} {cs : Array Value} {T : TypeId} {l : List α} (hg : w.heap[g]? = some (.cells cs T (0, 0))) (hn : n = l.length) (h : OwnS (Enc.k α) (l.flatMap Enc.enc) n cap cs) : HoldsK Enc.enc (Enc.k α) w g 0 l.toArray := by
  intro j hj
  have hj' : j < n * Enc.k α := by rw [hn]; simpa using hj
  have e0 : j < (l.flatMap Enc.enc).toArray.size := by rw [← flatK_is]; exact hj
  rw [Nat.zero_add]
  constructor
  · rw [cell_own hg, h.get j hj', flatK_is, id, getElem!_pos _ j e0, List.getElem?_eq_getElem (by simpa using e0)]
    simp
  · simp [World.frozen?, hg]
theorem turn_putRow {w : World} {g m n cap : Nat} {cs : Array Value} {T : TypeId} {l l' : List α} (hg : w.heap[g]? = some (.cells cs T (0, 0))) (hn : n = l.length) (hl : l'.length = l.length) (h : OwnS (Enc.k α) (l.flatMap Enc.enc) n cap cs) :
    ∃ cs', Turn g (.cells cs' T (0, 0)) w (putRowK Enc.enc (Enc.k α) (Go.Sort.ahead w m) g 0 l'.toArray) ∧ OwnS (Enc.k α) (l'.flatMap Enc.enc) n cap cs' := by
  have hsz : (l'.flatMap Enc.enc).length = n * Enc.k α := by rw [flat_len, hl, hn]
  have hle : n * Enc.k α ≤ cs.size := by rw [h.csz]; exact Nat.mul_le_mul_right _ h.le
  refine ⟨Go.Sort.putCells id 0 (flatK Enc.enc (Enc.k α) l'.toArray) cs, ⟨?_, fun k hk => ?_, ?_, rfl, rfl, rfl⟩, ⟨hsz, h.le, h.max, ?_, ?_⟩⟩
  · unfold putRowK Go.Sort.putRow Go.Sort.mapBlock Go.Sort.ahead
    simp [Array.getElem?_modify, hg, Go.Sort.onCells]
  · unfold putRowK Go.Sort.putRow Go.Sort.mapBlock Go.Sort.ahead
    simp only [Array.getElem?_modify]
    rw [if_neg (fun e => hk e.symm)]
  · unfold putRowK Go.Sort.putRow Go.Sort.mapBlock Go.Sort.ahead
    simp
  · rw [← h.csz]; simp [Go.Sort.putCells]
  · rw [flatK_is]
    apply List.ext_getElem?
    intro j
    rw [List.getElem?_take]
    by_cases hj : j < n * Enc.k α
    · rw [if_pos hj, Array.getElem?_toList]
      unfold Go.Sort.putCells
      rw [Array.getElem?_mapIdx, Array.getElem?_eq_getElem (by omega)]
      simp only [Option.map_some, Nat.zero_le, true_and, Nat.zero_add, Nat.sub_zero, List.size_toArray, id]
      rw [if_pos (by omega), getElem!_pos _ j (by simpa [hsz] using hj), List.getElem?_eq_getElem (by omega)]
      simp
    · rw [if_neg hj, List.getElem?_eq_none (by omega)]
theorem below_grow (w : World) (os : Array Obj) : Below w.heap.size w (Go.Sort.grow w os) := by
  refine ⟨rfl, rfl, rfl, ?_, fun k hk => ?_⟩
  · simp [Go.Sort.grow]
  · simp only [Go.Sort.grow]
    rw [Array.getElem?_append_left hk]
/-- slices.SortFunc on a slice of one's own, under an order in which two that are not one part. -/
theorem sort_own {P : Program} {ρ : Ren} (L : SlLaysF0.n6 P ρ) {T : TypeId} (aE : ∀ w, (isAgg (ρ.t 24)).run P w = .ok true w) (zE : ∀ w, (Go.sizeOf (ρ.t 24)).run P w = .ok (Enc.k α) w) (cf : α → α → Int) (hO : Go.Sort.SWO (ltOf cf))
    (hT : ∀ x y, (ltOf cf) x y = false → (ltOf cf) y x = false → x = y) (g : Nat) (cb : Array Value) (eg : ∀ args w, (callFunc g args).run P w = .ok (.enter g args) w) {w0 w : World} {X Y : List Ob} {p : Option Addr} {n cap : Nat} {l : List α} (hH : Hs w0 (Y ++ X) w) (hS : SlO T Y p n cap l) (hb : n ≤ 1000)
    (hcmp : ∀ blk, CmpLays P g cb Enc.enc (Enc.k α) cf blk 0 n w) :
    Calls P (ρ.f 6) #[.slice p n cap, .func (.func g) #[] cb] w fun e w' => e = .returned (.tuple #[]) ∧ ∃ Y', SlO T Y' p n cap (l.mergeSort fun x y => !(ltOf cf) y x) ∧ Hs w0 (Y' ++ X) w' := by
  rcases hS with ⟨rfl, rfl, rfl, rfl, rfl⟩ | ⟨blk, cs, rfl, rfl, hn, hw⟩
  · refine (AnyF.slices_SortFunc_none L none 0 _ w).mono ?_
    rintro e w' ⟨rfl, rfl⟩
    exact ⟨rfl, [], by simpa using SlO.nil, hH⟩
  · have hg := hH.row 0 rfl
    have hs : l.toArray.size = n := by simpa using hn.symm
    have hl : (l.mergeSort fun x y => !(ltOf cf) y x).length = l.length := List.length_mergeSort l
    have := AnyQ.slices_SortFunc_total L (Enc.k α) aE zE Enc.enc Enc.len Enc.one cf hO g cb blk 0 cap l.toArray w eg (by rw [hs]; exact hcmp blk) (holdsK_own hg hn hw) (hs_lt hg) (by omega) hT
    rw [hs] at this
    refine this.mono ?_
    rintro e w' ⟨rfl, m, os, rfl⟩
    obtain ⟨cs', ht, hw'⟩ := turn_putRow (m := m) hg hn hl hw
    refine ⟨rfl, [(blk, .cells cs' T (0, 0))], .inr ⟨blk, cs', rfl, rfl, by rw [hl]; exact hn, hw'⟩, ?_⟩
    have h2 := hH.turnHead ht
    exact h2.kept (below_grow _ _)
end
end Go.Proofs.YtdbamgbgnpadjaaGreat

/-! The order in which timers fire, and the library's cmp.Compare and cmp.Or: whatever the world, told exactly. -/
namespace Go.Proofs.YtdbamgbgnpadjaaGreat
open Go Go.RowKit

/-- The first that is not 0. -/
def orT : List Int → Int
  | [] => 0
  | z :: r => if z = 0 then orT r else z
/-- Which fires first. -/
def ordT (x y : Tim) : Int := orT [cmpT x.due y.due, cmpT x.id y.id]
set_option maxRecDepth 100000 in
theorem cmp64_x (a b : Int) (w : World) :
    Calls Tryz.prog 88 #[.int .i64 a, .int .i64 b] w fun e w' => e = .returned (.int .i64 (cmpT a b)) ∧ w' = w := by
  by_cases h1 : a < b
  · have H : Hid (cmpT a b = -1) := if_pos h1
    go_enter Tryz.func88, Tryz.ntmps88
    go_wp2
    go_ret
    exact ⟨by rw [H.out]; rfl, rfl⟩
  · by_cases h2 : b < a
    · have H : Hid (cmpT a b = 1) := (if_neg h1).trans (if_pos h2)
      go_enter Tryz.func88, Tryz.ntmps88
      go_wp2
      go_ret
      exact ⟨by rw [H.out]; rfl, rfl⟩
    · have H : Hid (cmpT a b = 0) := (if_neg h1).trans (if_neg h2)
      go_enter Tryz.func88, Tryz.ntmps88
      go_wp2
      go_ret
      exact ⟨by rw [H.out]; rfl, rfl⟩
set_option maxRecDepth 100000 in
theorem cmpI_x (a b : Int) (w : World) :
    Calls Tryz.prog 89 #[.int .i64 a, .int .i64 b] w fun e w' => e = .returned (.int .i64 (cmpT a b)) ∧ w' = w := by
  by_cases h1 : a < b
  · have H : Hid (cmpT a b = -1) := if_pos h1
    go_enter Tryz.func89, Tryz.ntmps89
    go_wp2
    go_ret
    exact ⟨by rw [H.out]; rfl, rfl⟩
  · by_cases h2 : b < a
    · have H : Hid (cmpT a b = 1) := (if_neg h1).trans (if_pos h2)
      go_enter Tryz.func89, Tryz.ntmps89
      go_wp2
      go_ret
      exact ⟨by rw [H.out]; rfl, rfl⟩
    · have H : Hid (cmpT a b = 0) := (if_neg h1).trans (if_neg h2)
      go_enter Tryz.func89, Tryz.ntmps89
      go_wp2
      go_ret
      exact ⟨by rw [H.out]; rfl, rfl⟩
theorem orT_drop (zs : List Int) (k : Nat) (hk : k < zs.length) : orT (zs.drop k) = if zs[k] = 0 then orT (zs.drop (k + 1)) else zs[k] := by
  rw [List.drop_eq_getElem_cons hk]; rfl

set_option maxRecDepth 100000 in
set_option maxHeartbeats 400000 in
theorem cor_x (zs : List Int) (g : Nat) (w : World) (hlen : zs.length < 1000) (hg : IsR w g (zs.map (Value.int .i64)).toArray 3) :
    Calls Tryz.prog 87 #[.slice (some ⟨g, 0, none⟩) zs.length zs.length] w fun e w' => e = .returned (.int .i64 (orT zs)) ∧ w' = w := by
  have hc : ∀ j (h : j < zs.length), w.cell? ⟨g, j, none⟩ = some (.int .i64 zs[j]) := fun j h => by rw [hg.cell j]; simp [h]
  have HC := Lib.hid hc
  clear hc hg
  obtain ⟨n, hn⟩ : ∃ n, zs.length = n := ⟨_, rfl⟩
  rw [hn] at hlen
  rw [hn]
  have HN := Lib.hid hn
  clear hn
  have hlen' : (n : Int) < 1000 := by omega
  go_enter Tryz.func87, Tryz.ntmps87
  go_wp2
  go_loop [8] (fun t => ∃ k : Nat, k ≤ n ∧ t = .int .i64 k ∧ Hid (orT (zs.drop k) = orT zs)) (fun t => n - (intOf t).toNat)
  case atStart => exact ⟨0, by omega, rfl, (rfl : _ = _)⟩
  case round =>
    obtain ⟨k, hk, rfl, HK⟩ := hrel
    by_cases hlt : k < n
    · have hlt' : (k : Int) < (n : Int) := by omega
      have hkz : k < zs.length := by rw [HN.out]; exact hlt
      have hcell := HC.out k hkz
      have HD := Lib.hid (orT_drop zs k hkz)
      generalize zs[k] = z at hcell HD
      clear hkz
      by_cases hz : z = 0
      · subst hz
        have HK2 : Hid (orT (zs.drop (k + 1)) = orT zs) := by show _ = _; rw [← HK.out, HD.out, if_pos rfl]
        go_wp2
        go_round
        case rel => exact ⟨k + 1, by omega, by go_num, HK2⟩
        case measure => simp [intOf]; omega
      · have hz' : (z == 0) = false := by simpa using hz
        have hz'' : (z != 0) = true := by simpa using hz
        have HK2 : Hid (orT zs = z) := by show _ = _; rw [← HK.out, HD.out, if_neg hz]
        clear hz
        go_wp2
        go_ret
        exact ⟨by rw [HK2.out]; rfl, rfl⟩
    · have hlt' : (n : Int) ≤ (k : Int) := by omega
      have HK2 : Hid (orT zs = 0) := by show _ = _; rw [← HK.out, List.drop_eq_nil_of_le (by rw [HN.out]; omega)]; rfl
      go_wp2
      go_ret
      exact ⟨by rw [HK2.out]; rfl, rfl⟩
/-- Blocks made and draws. -/
def Lays (w w' : World) : Prop := ∃ q os, w' = Go.Sort.grow (w.drewN q) os
theorem Lays.refl (w : World) : Lays w w := ⟨0, #[], by simp [Go.Sort.grow, World.drewN]⟩
theorem Lays.alloc {w w' : World} (h : Lays w w') (o : Obj) : Lays w (w'.alloc o) := by
  obtain ⟨q, os, rfl⟩ := h
  refine ⟨q, os.push o, ?_⟩
  simp [Go.Sort.grow, World.drewN, World.alloc]
theorem Lays.drew {w w' : World} (h : Lays w w') : Lays w w'.drew := by
  obtain ⟨q, os, rfl⟩ := h
  refine ⟨q + 1, os, ?_⟩
  simp [Go.Sort.grow, World.drewN, World.drew, Nat.add_assoc]
set_option maxRecDepth 100000 in
set_option maxHeartbeats 400000 in
theorem order_x (x y : Tim) (w : World) :
    Calls Tryz.prog 77 #[.agg #[.int .i64 x.id, .int .i64 x.due], .agg #[.int .i64 y.id, .int .i64 y.due]] w fun e w' => e = .returned (.int .i64 (ordT x y)) ∧ Lays w w' := by
  obtain ⟨xi, xd⟩ := x
  obtain ⟨yi, yd⟩ := y
  go_enter Tryz.func77, Tryz.ntmps77
  go_wp2_with fail
  have fA : IsR ((w.alloc (Obj.cells #[.int .i64 xi, .int .i64 xd] 42)).alloc (Obj.cells #[.int .i64 yi, .int .i64 yd] 42)) w.heap.size #[.int .i64 xi, .int .i64 xd] 42 := by unfold IsR; exact (by repeat (first | (with_reducible refine heap_top _ _ _ ?_; first | (simp; done) | (simp; omega)) | rw [Below.heap_alloc _ _ _ (by first | (simp; done) | (simp; omega))]))
  have fB : IsR ((w.alloc (Obj.cells #[.int .i64 xi, .int .i64 xd] 42)).alloc (Obj.cells #[.int .i64 yi, .int .i64 yd] 42)) (w.heap.size + 1) #[.int .i64 yi, .int .i64 yd] 42 := by unfold IsR; exact (by repeat (first | (with_reducible refine heap_top _ _ _ ?_; first | (simp; done) | (simp; omega)) | rw [Below.heap_alloc _ _ _ (by first | (simp; done) | (simp; omega))]))
  have k0 : Lays w ((w.alloc (Obj.cells #[.int .i64 xi, .int .i64 xd] 42)).alloc (Obj.cells #[.int .i64 yi, .int .i64 yd] 42)) := ((Lays.refl _).alloc _).alloc _
  generalize (w.alloc (Obj.cells #[.int .i64 xi, .int .i64 xd] 42)).alloc (Obj.cells #[.int .i64 yi, .int .i64 yd] 42) = W at fA fB k0 ⊢
  have cA := IsR.cell fA
  have cB := IsR.cell fB
  refine wp_region_still_tail 10 (by kernel_rfl) (by kernel_rfl) ?_
  change wpStill _ _ (World.drew W) _ _ _
  simp only [List.take_succ_cons, List.take_zero, List.drop_succ_cons, List.drop_zero]
  iterate 4 still_step
  still_call (cmp64_x xd yd _)
  iterate 4 still_step
  still_call (cmpI_x xi yi _)
  refine wpStill_nil ?_
  change wpList _ _ _ _ _ (World.drew _)
  go_wp2_with fail
  refine (cor_x [cmpT xd yd, cmpT xi yi] W.heap.size _ (by simp) ?_).mono ?_
  · exact heap_top W (Obj.cells #[.int .i64 (cmpT xd yd), .int .i64 (cmpT xi yi)] 3) _ rfl
  rintro e w' ⟨rfl, rfl⟩
  go_wp2_with fail
  go_ret
  exact ⟨rfl, (k0.alloc _).drew⟩
end Go.Proofs.YtdbamgbgnpadjaaGreat

/-! Timers: what they tell; plain. -/
namespace Go.Proofs.YtdbamgbgnpadjaaGreat
open Go Go.RowKit

def sameW (now : Int) (ts : List Tim) (now2 : Int) (ts2 : List Tim) : Bool := decide (now = now2) && decide (ts = ts2)
/-- The document's At: 0 where there is none. -/
def atR (ts : List Tim) (k : Int) : Int := match getK Tim.id ts k with
  | some x => x.due
  | none => 0
section
variable {now now2 k : Int} {ts ts2 : List Tim}
theorem atO_bad (h : wheelB now ts = false) : atO now ts k = none := by simp [atO, h]
theorem atO_ok (h : wheelB now ts = true) : atO now ts k = getK Tim.id ts k := by simp [atO, h]
theorem sameW_refl : sameW now ts now ts = true := by simp [sameW]
theorem sameW_now (h : now = now2) : sameW now ts now2 ts2 = decide (ts = ts2) := by simp [sameW, h]
theorem sameW_no (h : ¬ now = now2) : sameW now ts now2 ts2 = false := by simp [sameW, h]
end
end Go.Proofs.YtdbamgbgnpadjaaGreat

/-! Timers: where one stands; which is the next; plain. -/
namespace Go.Proofs.YtdbamgbgnpadjaaGreat
open Go Go.RowKit

/-- A time's digit. -/
def dig (t lv : Int) : Int := Int.tmod (t / 64 ^ lv.toNat) 64
def placeN (a b : Int) : Nat → Int × Int
  | 0 => (0, dig b 0)
  | n + 1 => if dig a n = dig b n then placeN a b n else ((n : Int), dig b n)
/-- Where a timer that is due at b stands at a. -/
def placeV (a b : Int) : Int × Int := placeN a b 9
section
variable {a b lv t : Int}
end
/-- The document's least: 0 where there is none. -/
def leastS (l : Int) (t : Tim) : Int := if l = 0 ∨ t.due < l then t.due else l
def leastV (ts : List Tim) : Int := ts.foldl leastS 0
section
variable {ts : List Tim} {x t : Tim} {j : Nat} {l : Int}
end
def slF (now lv sl : Int) (t : Tim) : List Int := if (placeV now t.due).1 = lv ∧ (placeV now t.due).2 = sl then [t.id] else []
def slotV (now : Int) (ts : List Tim) (lv sl : Int) : List Int := ts.flatMap (slF now lv sl)
def movF (now to : Int) (t : Tim) : Int := if to < t.due then (placeV now t.due).1 - (placeV to t.due).1 else 0
def movV (now to : Int) (ts : List Tim) : Int := (ts.map (movF now to)).sum
section
variable {now to lv sl : Int} {ts : List Tim} {x : Tim} {j : Nat}
/-- Why time does not pass. -/
def passE (now : Int) (ts : List Tim) (to : Int) : Int := if wheelB now ts = true then (if to < now ∨ 1125899906842624 < to then 2 else 0) else 250
theorem passE_bad (h : wheelB now ts = false) : passE now ts to = 250 := by simp [passE, h]
theorem passE_arg (h : wheelB now ts = true) (h2 : to < now ∨ 1125899906842624 < to) : passE now ts to = 2 := by simp [passE, h, h2]
theorem passE_ok (h : wheelB now ts = true) (h2 : ¬ (to < now ∨ 1125899906842624 < to)) : passE now ts to = 0 := by unfold passE; rw [if_pos h, if_neg h2]
end
end Go.Proofs.YtdbamgbgnpadjaaGreat

/-! Timers: the first to fire; plain. -/
namespace Go.Proofs.YtdbamgbgnpadjaaGreat
open Go Go.RowKit

theorem ord_neg {x y : Tim} : ordT x y < 0 ↔ x.due < y.due ∨ (x.due = y.due ∧ x.id < y.id) := by
  unfold ordT orT orT orT
  have h1 := cmpT_iff x.due y.due
  have h2 := cmpT_iff x.id y.id
  split
  · split <;> omega
  · omega
def ltT (x y : Tim) : Bool := decide (ordT x y < 0)
section
variable {ts : List Tim} {m x t : Tim} {j : Nat} {now k : Int}
/-- When the next timer is due. -/
def nextV (now : Int) (ts : List Tim) : Value := if wheelB now ts = true ∧ ts ≠ [] then .tuple #[.int .i64 (leastV ts), .bool true] else .tuple #[.int .i64 0, .bool false]
/-- Where a timer stands. -/
def plV (now : Int) (o : Option Tim) : Value := match o with
  | some x => .tuple #[.int .i64 (placeV now x.due).1, .int .i64 (placeV now x.due).2, .bool true]
  | none => .tuple #[.int .i64 0, .int .i64 0, .bool false]
end
end Go.Proofs.YtdbamgbgnpadjaaGreat

/-! Timers: what moves them; plain. -/
namespace Go.Proofs.YtdbamgbgnpadjaaGreat
open Go Go.RowKit

theorem one_tail {w0 w : World} {Y : List Ob} (h : Hs w0 (Y ++ []) w) : Hs w0 Y w := by rwa [List.append_nil] at h
theorem two_tails {w0 w : World} {Y X : List Ob} (h : Hs w0 (Y ++ (X ++ [])) w) : Hs w0 (Y ++ X) w := by rwa [List.append_nil] at h
abbrev W3 := Int × List Tim × Int
def setV (now : Int) (ts : List Tim) (k at_ : Int) : W3 :=
  if wheelB now ts = true then if idB k = true ∧ now < at_ ∧ at_ ≤ 1125899906842624 then
    match getK Tim.id ts k with
    | some _ => (now, putK Tim.id ts ⟨k, at_⟩, 0)
    | none => (now, insK Tim.id ts ⟨k, at_⟩, 0)
    else (0, [], 2) else (0, [], 250)
def canV (now : Int) (ts : List Tim) (k : Int) : W3 :=
  if wheelB now ts = true then match getK Tim.id ts k with
    | some _ => (now, delK Tim.id ts k, 0)
    | none => (0, [], 4) else (0, [], 250)
section
variable {now k at_ : Int} {ts : List Tim} {x : Tim}
theorem setV_bad (g : wheelB now ts = false) : setV now ts k at_ = (0, [], 250) := by simp [setV, g]
theorem setV_arg (g : wheelB now ts = true) (h : idB k = false ∨ at_ ≤ now ∨ 1125899906842624 < at_) : setV now ts k at_ = (0, [], 2) := by
  unfold setV
  rw [if_pos g, if_neg]
  rintro ⟨h1, h2, h3⟩
  rcases h with h | h
  · rw [h] at h1; cases h1
  · omega
theorem setV_put (g : wheelB now ts = true) (i : idB k = true) (h : now < at_ ∧ at_ ≤ 1125899906842624) (e : getK Tim.id ts k = some x) : setV now ts k at_ = (now, ts.set (posK Tim.id ts k) ⟨k, at_⟩, 0) := by
  simp [setV, g, i, h, e, putK]
theorem set_ins {l : List Tim} {i : Nat} {z t : Tim} (h : i ≤ l.length) : (l.take i ++ [z] ++ l.drop i).set i t = l.take i ++ [t] ++ l.drop i := by
  have e : (l.take i).length = i := by rw [List.length_take]; omega
  rw [List.append_assoc, List.set_append_right _ _ (by omega), e, Nat.sub_self]
  simp
theorem setV_ins (g : wheelB now ts = true) (i : idB k = true) (h : now < at_ ∧ at_ ≤ 1125899906842624) (e : getK Tim.id ts k = none) : setV now ts k at_ = (now, (ts.take (posK Tim.id ts k) ++ ([⟨0, 0⟩] : List Tim) ++ ts.drop (posK Tim.id ts k)).set (posK Tim.id ts k) ⟨k, at_⟩, 0) := by
  rw [set_ins (pos_cut (wheel_iff.1 g).rs).2.2]
  simp [setV, g, i, h, e, insK]
theorem canV_bad (g : wheelB now ts = false) : canV now ts k = (0, [], 250) := by simp [canV, g]
theorem canV_none (g : wheelB now ts = true) (e : getK Tim.id ts k = none) : canV now ts k = (0, [], 4) := by simp [canV, g, e]
theorem canV_ok (g : wheelB now ts = true) (e : getK Tim.id ts k = some x) : canV now ts k = (now, ts.take (posK Tim.id ts k) ++ ts.drop (posK Tim.id ts k + 1), 0) := by simp [canV, g, e, delK]
end
end Go.Proofs.YtdbamgbgnpadjaaGreat

/-! The library's sort of timers: its bodies, as the kit's command lays them (written out). -/
namespace Go.Proofs.YtdbamgbgnpadjaaGreat
open Go Go.Shelf Go.Proofs
def sortTL_ren : Go.Shelf.Ren := ⟨fun | 6 => 76 | 15 => 86 | 14 => 85 | 28 => 101 | 29 => 102 | 20 => 93 | 21 => 94 | 22 => 95 | 23 => 96 | 24 => 97 | 25 => 98 | 26 => 99 | 27 => 100 | 46 => 106 | 47 => 107 | 48 => 108 | 49 => 109 | 50 => 110 | 57 => 111 | n => n, fun | 22 => 22 | 24 => 42 | 25 => 108 | 3 => 3 | 39 => 51 | 0 => 0 | 53 => 130 | 55 => 132 | 4 => 4 | 46 => 124 | 45 => 123 | 50 => 62 | 5 => 5 | 9 => 9 | 66 => 136 | 70 => 140 | 76 => 142 | 77 => 143 | n => n, fun | n => n⟩
theorem sortTL : Go.Proofs.SlLaysF0.n6 Tryz.prog sortTL_ren where
  mixed := by kernel_rfl
  f6 := ⟨"slices.SortFunc[[]mainsheet/api.Timer,mainsheet/api.Timer]", by decide, Tryz.func76.trans (congrArg some (by kernel_rfl))⟩
  f14 := ⟨"slices.pdqsortCmpFunc[mainsheet/api.Timer]", by decide, Tryz.func85.trans (congrArg some (by kernel_rfl))⟩
  f15 := Tryz.func86.trans (congrArg some (by kernel_rfl))
  f20 := ⟨"slices.insertionSortCmpFunc[mainsheet/api.Timer]", by decide, Tryz.func93.trans (congrArg some (by kernel_rfl))⟩
  f21 := ⟨"slices.heapSortCmpFunc[mainsheet/api.Timer]", by decide, Tryz.func94.trans (congrArg some (by kernel_rfl))⟩
  f22 := ⟨"slices.breakPatternsCmpFunc[mainsheet/api.Timer]", by decide, Tryz.func95.trans (congrArg some (by kernel_rfl))⟩
  f23 := ⟨"slices.choosePivotCmpFunc[mainsheet/api.Timer]", by decide, Tryz.func96.trans (congrArg some (by kernel_rfl))⟩
  f24 := ⟨"slices.reverseRangeCmpFunc[mainsheet/api.Timer]", by decide, Tryz.func97.trans (congrArg some (by kernel_rfl))⟩
  f25 := ⟨"slices.partialInsertionSortCmpFunc[mainsheet/api.Timer]", by decide, Tryz.func98.trans (congrArg some (by kernel_rfl))⟩
  f26 := ⟨"slices.partitionEqualCmpFunc[mainsheet/api.Timer]", by decide, Tryz.func99.trans (congrArg some (by kernel_rfl))⟩
  f27 := ⟨"slices.partitionCmpFunc[mainsheet/api.Timer]", by decide, Tryz.func100.trans (congrArg some (by kernel_rfl))⟩
  f28 := Tryz.func101.trans (congrArg some (by kernel_rfl))
  f29 := Tryz.func102.trans (congrArg some (by kernel_rfl))
  f46 := ⟨"slices.siftDownCmpFunc[mainsheet/api.Timer]", by decide, Tryz.func106.trans (congrArg some (by kernel_rfl))⟩
  f47 := Tryz.func107.trans (congrArg some (by kernel_rfl))
  f48 := Tryz.func108.trans (congrArg some (by kernel_rfl))
  f49 := ⟨"slices.medianAdjacentCmpFunc[mainsheet/api.Timer]", by decide, Tryz.func109.trans (congrArg some (by kernel_rfl))⟩
  f50 := ⟨"slices.medianCmpFunc[mainsheet/api.Timer]", by decide, Tryz.func110.trans (congrArg some (by kernel_rfl))⟩
  f57 := ⟨"slices.order2CmpFunc[mainsheet/api.Timer]", by decide, Tryz.func111.trans (congrArg some (by kernel_rfl))⟩
  t0 := Tryz.underlying0
  a0 := Tryz.isAgg0
  z0 := Tryz.sizeOf0
  v0 := Tryz.zeroValue0
  t3 := Tryz.underlying3
  a3 := Tryz.isAgg3
  z3 := Tryz.sizeOf3
  v3 := Tryz.zeroValue3
  t4 := Tryz.underlying4
  a4 := Tryz.isAgg4
  z4 := Tryz.sizeOf4
  v4 := Tryz.zeroValue4
  t5 := Tryz.underlying5
  a5 := Tryz.isAgg5
  z5 := Tryz.sizeOf5
  v5 := Tryz.zeroValue5
  t9 := Tryz.underlying9
  a9 := Tryz.isAgg9
  z9 := Tryz.sizeOf9
  v9 := Tryz.zeroValue9
  t22 := Tryz.underlying22
  a22 := Tryz.isAgg22
  z22 := Tryz.sizeOf22
  v22 := Tryz.zeroValue22
  t25 := Tryz.underlying108
  a25 := Tryz.isAgg108
  z25 := Tryz.sizeOf108
  v25 := Tryz.zeroValue108
  t39 := Tryz.underlying51
  a39 := Tryz.isAgg51
  z39 := Tryz.sizeOf51
  v39 := Tryz.zeroValue51
  t45 := Tryz.underlying123
  a45 := Tryz.isAgg123
  z45 := Tryz.sizeOf123
  v45 := Tryz.zeroValue123
  t46 := Tryz.underlying124
  a46 := Tryz.isAgg124
  z46 := Tryz.sizeOf124
  v46 := Tryz.zeroValue124
  t50 := Tryz.underlying62
  a50 := Tryz.isAgg62
  z50 := Tryz.sizeOf62
  v50 := Tryz.zeroValue62
  t53 := Tryz.underlying130
  a53 := Tryz.isAgg130
  z53 := Tryz.sizeOf130
  v53 := Tryz.zeroValue130
  t55 := Tryz.underlying132
  a55 := Tryz.isAgg132
  z55 := Tryz.sizeOf132
  v55 := Tryz.zeroValue132
  t66 := Tryz.underlying136
  a66 := Tryz.isAgg136
  z66 := Tryz.sizeOf136
  v66 := Tryz.zeroValue136
  t70 := Tryz.underlying140
  a70 := Tryz.isAgg140
  z70 := Tryz.sizeOf140
  v70 := Tryz.zeroValue140
  t76 := Tryz.underlying142
  a76 := Tryz.isAgg142
  z76 := Tryz.sizeOf142
  v76 := Tryz.zeroValue142
  t77 := Tryz.underlying143
  a77 := Tryz.isAgg143
  z77 := Tryz.sizeOf143
  v77 := Tryz.zeroValue143
end Go.Proofs.YtdbamgbgnpadjaaGreat

/-! Timers in the order in which they fire; plain, and the library's sort of them. -/
namespace Go.Proofs.YtdbamgbgnpadjaaGreat
open Go Go.RowKit Go.Shelf Go.Proofs

theorem ltOf_ord (x y : Tim) : ltOf ordT x y = decide (x.due < y.due ∨ (x.due = y.due ∧ x.id < y.id)) := by
  unfold ltOf
  exact decide_eq_decide.2 ord_neg
theorem swoT : Go.Sort.SWO (ltOf ordT) where
  irrefl x := by rw [ltOf_ord]; simp
  trans x y z h1 h2 := by rw [ltOf_ord] at *; simp only [decide_eq_true_eq] at *; omega
  ntrans x y z h1 h2 := by rw [ltOf_ord] at *; simp only [decide_eq_false_iff_not] at *; omega
theorem totT (x y : Tim) (h1 : ltOf ordT x y = false) (h2 : ltOf ordT y x = false) : x = y := by
  rw [ltOf_ord] at *
  simp only [decide_eq_false_iff_not] at h1 h2
  obtain ⟨a, b⟩ := x
  obtain ⟨c, d⟩ := y
  simp only [Tim.mk.injEq] at *
  omega
/-- Timers in order. -/
def sortT (l : List Tim) : List Tim := l.mergeSort fun x y => !ltOf ordT y x
theorem sortFunc_t {w0 w : World} {X Y : List Ob} {p : Option Addr} {n cap : Nat} {l : List Tim} (hH : Hs w0 (Y ++ X) w) (hS : SlO 42 Y p n cap l) (hb : n ≤ 1000) :
    Calls Tryz.prog 76 #[.slice p n cap, .func (.func 77) #[] #[]] w fun e w' => e = .returned (.tuple #[]) ∧ ∃ Y', SlO 42 Y' p n cap (sortT l) ∧ Hs w0 (Y' ++ X) w' :=
  sort_own (α := Tim) sortTL Tryz.isAgg42 Tryz.sizeOf42 ordT swoT totT 77 #[] (fun args w => Tryz.call77 args w) hH hS hb (fun _ _ _ _ _ x y => order_x x y _)
end Go.Proofs.YtdbamgbgnpadjaaGreat

/-! Timers: time passes; plain. -/
namespace Go.Proofs.YtdbamgbgnpadjaaGreat
open Go Go.RowKit Go.Proofs

def leF (to : Int) (t : Tim) : List Tim := if t.due > to then [t] else []
def duF (to : Int) (t : Tim) : List Tim := if t.due > to then [] else [t]
def leL (ts : List Tim) (to : Int) : List Tim := ts.flatMap (leF to)
def duL (ts : List Tim) (to : Int) : List Tim := ts.flatMap (duF to)
section
variable {now to : Int} {ts : List Tim} {x t : Tim} {j : Nat}
theorem leF_yes (h : x.due > to) : leF to x = [⟨x.id, x.due⟩] := if_pos h
theorem leF_no (h : ¬ x.due > to) : leF to x = [] := if_neg h
theorem duF_yes (h : x.due > to) : duF to x = [] := if_pos h
theorem duF_no (h : ¬ x.due > to) : duF to x = [⟨x.id, x.due⟩] := if_neg h
theorem leL_filter : leL ts to = ts.filter fun t => decide (t.due > to) := by
  unfold leL
  induction ts with
  | nil => rfl
  | cons a r ih => by_cases h : a.due > to <;> simp [leF, h, ih]
theorem duL_filter : duL ts to = ts.filter fun t => !decide (t.due > to) := by
  unfold duL
  induction ts with
  | nil => rfl
  | cons a r ih => by_cases h : a.due > to <;> simp [duF, h, ih]
theorem duL_len : (duL ts to).length ≤ ts.length := by rw [duL_filter]; exact List.length_filter_le ..
theorem mem_leL : x ∈ leL ts to ↔ x ∈ ts ∧ to < x.due := by rw [leL_filter, List.mem_filter]; simp
theorem mem_duL : x ∈ duL ts to ↔ x ∈ ts ∧ x.due ≤ to := by rw [duL_filter, List.mem_filter]; simp
/-- A wheel to which time has passed; what has fired. -/
def passW (now : Int) (ts : List Tim) (to : Int) : W3 := if passE now ts to = 0 then (to, leL ts to, 0) else (0, [], passE now ts to)
def passD (now : Int) (ts : List Tim) (to : Int) : List Tim := if passE now ts to = 0 then sortT (duL ts to) else []
theorem passW_no (h : passE now ts to ≠ 0) : passW now ts to = (0, [], passE now ts to) := if_neg h
theorem passW_ok (h : passE now ts to = 0) : passW now ts to = (to, leL ts to, 0) := if_pos h
theorem passD_no (h : passE now ts to ≠ 0) : passD now ts to = [] := if_neg h
theorem passD_ok (h : passE now ts to = 0) : passD now ts to = sortT (duL ts to) := if_pos h
/-- The document's row: behind all that are due no later. -/
def insT (t : Tim) : List Tim → List Tim
  | [] => [t]
  | d :: r => if d.due > t.due then t :: d :: r else d :: insT t r
theorem insT_no {t d : Tim} {r : List Tim} (h : ¬ d.due > t.due) : insT t (d :: r) = d :: insT t r := if_neg h
/-- The inner loop. -/
def InsI (t : Tim) (due next : List Tim) (k : Nat) (b : Bool) : Prop := (b = false → next = due.take k ∧ insT t due = due.take k ++ insT t (due.drop k)) ∧ (b = true → next ++ due.drop k = insT t due)
variable {due next : List Tim} {d : Tim} {k : Nat}
theorem insI_len0 (h : InsI t due next k false) : next.length ≤ k := by rw [(h.1 rfl).1, List.length_take]; omega
theorem insI_start : InsI t due [] 0 false := ⟨fun _ => ⟨by simp, by simp⟩, fun h => (by cases h)⟩
theorem insI_same (h : InsI t due next k false) (hx : due[k]? = some d) (hd : ¬ d.due > t.due) : InsI t due (next ++ [⟨d.id, d.due⟩]) (k + 1) false := by
  obtain ⟨h1, h2⟩ := h.1 rfl
  refine ⟨fun _ => ⟨?_, ?_⟩, fun h => (by cases h)⟩
  · rw [h1, List.take_add_one, hx]; rfl
  · rw [h2, ← List.getElem_cons_drop (List.getElem?_eq_some_iff.1 hx).1, (List.getElem?_eq_some_iff.1 hx).2, List.take_add_one, hx]
    rw [insT_no hd]
    simp only [Option.toList_some, List.append_assoc, List.singleton_append]
theorem insI_here (h : InsI t due next k false) (hx : due[k]? = some d) (hd : d.due > t.due) : InsI t due (next ++ [⟨t.id, t.due⟩] ++ [⟨d.id, d.due⟩]) (k + 1) true := by
  obtain ⟨h1, h2⟩ := h.1 rfl
  refine ⟨fun h => (by cases h), fun _ => ?_⟩
  rw [h2, h1, ← List.getElem_cons_drop (List.getElem?_eq_some_iff.1 hx).1, (List.getElem?_eq_some_iff.1 hx).2]
  simp [insT, hd]
theorem insI_on (h : InsI t due next k true) (hx : due[k]? = some d) : InsI t due (next ++ [⟨d.id, d.due⟩]) (k + 1) true := by
  refine ⟨fun h => (by cases h), fun _ => ?_⟩
  rw [← h.2 rfl, ← List.getElem_cons_drop (List.getElem?_eq_some_iff.1 hx).1, (List.getElem?_eq_some_iff.1 hx).2]
  simp
theorem insI_end1 (h : InsI t due next k true) (hk : due.length ≤ k) : next = insT t due := by
  rw [← h.2 rfl, List.drop_of_length_le hk, List.append_nil]
theorem insI_end0 (h : InsI t due next k false) (hk : due.length ≤ k) : next ++ [⟨t.id, t.due⟩] = insT t due := by
  obtain ⟨h1, h2⟩ := h.1 rfl
  rw [h2, h1, List.drop_of_length_le hk]
  rfl
def rstep (to : Int) (d : List Tim) (t : Tim) : List Tim := if t.due > to then d else insT t d
def rdueL (ts : List Tim) (to : Int) : List Tim := ts.foldl (rstep to) []
theorem rdue_on (hx : ts[j]? = some x) : (ts.take (j + 1)).foldl (rstep to) [] = rstep to ((ts.take j).foldl (rstep to) []) x := by
  rw [List.take_add_one, hx]; simp
theorem rstep_no (h : x.due > to) : rstep to due x = due := if_pos h
theorem rstep_yes (h : ¬ x.due > to) : rstep to due x = insT x due := if_neg h
theorem mem_insT : ∀ {l : List Tim}, x ∈ insT t l ↔ x = t ∨ x ∈ l
  | [] => by simp [insT]
  | d :: r => by
    unfold insT
    split
    · simp
    · simp only [List.mem_cons, mem_insT (l := r)]
      constructor
      · rintro (h | h | h)
        · exact .inr (.inl h)
        · exact .inl h
        · exact .inr (.inr h)
      · rintro (h | h | h)
        · exact .inr (.inl h)
        · exact .inl h
        · exact .inr (.inr h)
theorem perm_insT : ∀ l : List Tim, (insT t l).Perm (t :: l)
  | [] => List.Perm.refl _
  | d :: r => by
    unfold insT
    split
    · exact List.Perm.refl _
    · exact ((perm_insT r).cons d).trans (List.Perm.swap ..)
/-- In the order in which they fire. -/
def Fires (l : List Tim) : Prop := l.Pairwise fun x y => x.due < y.due ∨ (x.due = y.due ∧ x.id < y.id)
theorem fires_insT : ∀ {l : List Tim}, Fires l → (∀ x ∈ l, x.due = t.due → x.id < t.id) → Fires (insT t l)
  | [], _, _ => by simp [insT, Fires]
  | d :: r, h, hi => by
    unfold Fires at *
    obtain ⟨h1, h2⟩ := List.pairwise_cons.1 h
    unfold insT
    split
    · rename_i hd
      refine List.pairwise_cons.2 ⟨fun y hy => ?_, h⟩
      rcases List.mem_cons.1 hy with rfl | hy
      · omega
      · have := h1 y hy; omega
    · rename_i hd
      refine List.pairwise_cons.2 ⟨fun y hy => ?_, fires_insT h2 fun x hx => hi x (List.mem_cons_of_mem _ hx)⟩
      rcases mem_insT.1 hy with rfl | hy
      · have := hi d (List.mem_cons_self ..); omega
      · exact h1 y hy
theorem fires_uniq : ∀ {l l' : List Tim}, l.Perm l' → Fires l → Fires l' → l = l'
  | [], l', p, _, _ => by simpa using p.symm.eq_nil.symm
  | a :: l, [], p, _, _ => by simpa using p.eq_nil
  | a :: l, b :: l', p, h, h' => by
    unfold Fires at h h'
    obtain ⟨h1, h2⟩ := List.pairwise_cons.1 h
    obtain ⟨h1', h2'⟩ := List.pairwise_cons.1 h'
    have e : a = b := by
      have ha := p.mem_iff.1 (List.mem_cons_self (a := a) (l := l))
      have hb := p.symm.mem_iff.1 (List.mem_cons_self (a := b) (l := l'))
      rcases List.mem_cons.1 ha with e | ha
      · exact e
      · rcases List.mem_cons.1 hb with e | hb
        · exact e.symm
        · have := h1' a ha; have := h1 b hb; omega
    subst e
    rw [fires_uniq ((List.perm_cons a).1 p) h2 h2']
theorem fires_sort (hn : ts.Nodup) : Fires (sortT ts) := by
  have hp : (sortT ts).Perm ts := List.mergeSort_perm ..
  have hs : (sortT ts).Pairwise fun x y => (!ltOf ordT y x) = true := by
    refine List.pairwise_mergeSort (fun a b c h1 h2 => ?_) (fun a b => ?_) ts
    · rw [ltOf_ord] at *; simp only [Bool.not_eq_true', decide_eq_false_iff_not] at *; omega
    · rw [ltOf_ord, ltOf_ord]
      by_cases h : b.due < a.due ∨ (b.due = a.due ∧ b.id < a.id)
      · have h2 : ¬ (a.due < b.due ∨ (a.due = b.due ∧ a.id < b.id)) := by omega
        simp [h2]
      · simp [h]
  have hd : (sortT ts).Pairwise fun x y => x ≠ y := hp.nodup_iff.2 hn
  unfold Fires
  refine (hs.and hd).imp fun {a b} h => ?_
  obtain ⟨h1, h2⟩ := h
  rw [ltOf_ord] at h1
  simp only [Bool.not_eq_true', decide_eq_false_iff_not] at h1
  have h3 : ¬ (a.due = b.due ∧ a.id = b.id) := fun e => h2 (by
    obtain ⟨e1, e2⟩ := e
    cases a; cases b; simp_all)
  omega
theorem ris_nodup (h : Ris Tim.id ts) : ts.Nodup := h.imp fun {a b} h e => by subst e; omega
theorem rdue_inv : ∀ (l acc : List Tim), (acc ++ l).Pairwise (fun x y => x.id < y.id) ∨ True → Fires acc → (∀ x ∈ acc, ∀ y ∈ l, x.id < y.id) → Ris Tim.id l → Fires (l.foldl (rstep to) acc) ∧ (l.foldl (rstep to) acc).Perm (acc ++ duL l to)
  | [], acc, _, h, _, _ => ⟨h, by simp [duL]⟩
  | a :: l, acc, _, h, hi, hr => by
    unfold Ris at hr
    obtain ⟨h1, h2⟩ := List.pairwise_cons.1 hr
    rw [List.foldl_cons]
    by_cases hd : a.due > to
    · rw [rstep_no hd]
      obtain ⟨e1, e2⟩ := rdue_inv l acc (.inr trivial) h (fun x hx y hy => hi x hx y (List.mem_cons_of_mem _ hy)) h2
      refine ⟨e1, e2.trans ?_⟩
      have : duL (a :: l) to = duL l to := by simp [duL, duF, hd]
      rw [this]
    · rw [rstep_yes hd]
      have hF := fires_insT (t := a) h fun x hx _ => hi x hx a (List.mem_cons_self ..)
      obtain ⟨e1, e2⟩ := rdue_inv l (insT a acc) (.inr trivial) hF (fun x hx y hy => by
        rcases mem_insT.1 hx with rfl | hx
        · exact h1 y hy
        · exact hi x hx y (List.mem_cons_of_mem _ hy)) h2
      refine ⟨e1, e2.trans ?_⟩
      have : duL (a :: l) to = a :: duL l to := by simp [duL, duF, hd]
      rw [this]
      exact ((perm_insT acc).append_right _).trans (List.perm_middle.symm)
/-- The document's order is the order of firing. -/
theorem rdue_is (h : Ris Tim.id ts) : rdueL ts to = sortT (duL ts to) := by
  obtain ⟨e1, e2⟩ := rdue_inv (to := to) ts [] (.inr trivial) List.Pairwise.nil (fun x hx => (by cases hx)) h
  have hd : (duL ts to).Nodup := by rw [duL_filter]; exact (ris_nodup h).filter _
  have hp : (sortT (duL ts to)).Perm (duL ts to) := List.mergeSort_perm ..
  exact fires_uniq (e2.trans (by simpa using hp.symm)) e1 (fires_sort hd)
end
end Go.Proofs.YtdbamgbgnpadjaaGreat

/-! Timers: the document's wheel, made anew by numbers; plain. -/
namespace Go.Proofs.YtdbamgbgnpadjaaGreat
open Go Go.RowKit

section
variable {α : Type} {f : α → Int} {g : Int → Option α} {c : Nat} {x : α}
/-- The rows of the numbers 0 .. c - 1. -/
def mk0 (g : Int → Option α) (c : Nat) : List α := (List.range c).flatMap fun i : Nat => (g (i : Int)).toList
theorem mk0_on : mk0 g (c + 1) = mk0 g c ++ (g (c : Int)).toList := by
  unfold mk0
  rw [List.range_succ, List.flatMap_append]; simp
theorem mem_mk0 (hg : ∀ n y, g n = some y → f y = n) : x ∈ mk0 g c ↔ 0 ≤ f x ∧ f x < c ∧ g (f x) = some x := by
  unfold mk0
  rw [List.mem_flatMap]
  constructor
  · rintro ⟨i, hi, hx⟩
    rw [List.mem_range] at hi
    have e : g (i : Int) = some x := by simpa using hx
    have := hg _ _ e
    rw [this]
    exact ⟨by omega, by omega, e⟩
  · rintro ⟨h1, h2, h3⟩
    refine ⟨(f x).toNat, List.mem_range.2 (by omega), ?_⟩
    rw [show ((f x).toNat : Int) = f x by omega, h3]; simp
theorem ris_mk0 (hg : ∀ n y, g n = some y → f y = n) : ∀ c : Nat, Ris f (mk0 g c)
  | 0 => by unfold mk0; simp [Ris]
  | c + 1 => by
    rw [mk0_on]
    refine List.pairwise_append.2 ⟨ris_mk0 hg c, ?_, fun a ha b hb => ?_⟩
    · cases g (c : Int) <;> simp
    · have h1 := ((mem_mk0 hg).1 ha).2.1
      have h2 : g (c : Int) = some b := by simpa using hb
      have := hg _ _ h2
      omega
theorem mk0_is {l : List α} (hg : ∀ n y, g n = some y → f y = n) (hl : Ris f l) (h : ∀ x, x ∈ l ↔ 0 ≤ f x ∧ f x < c ∧ g (f x) = some x) : mk0 g c = l :=
  ris_ext (ris_mk0 hg c) hl fun x => (mem_mk0 hg).trans (h x).symm
end
def wiG (ts : List Tim) (k at_ n : Int) : Option Tim := if n = k then (if at_ > 0 then some ⟨n, at_⟩ else none) else if atR ts n > 0 then some ⟨n, atR ts n⟩ else none
def wiL (ts : List Tim) (k at_ : Int) (c : Nat) : List Tim := mk0 (wiG ts k at_) c
section
variable {ts : List Tim} {now k at_ n : Int} {c j : Nat} {x : Tim}
theorem wi_on : wiL ts k at_ (c + 1) = wiL ts k at_ c ++ (wiG ts k at_ (c : Int)).toList := mk0_on
theorem wi_own (e : (j : Int) = k) (p : at_ > 0) : (wiG ts k at_ (j : Int)).toList = [⟨(j : Int), at_⟩] := by unfold wiG; rw [if_pos e, if_pos p]; rfl
theorem wi_out (e : (j : Int) = k) (p : ¬ at_ > 0) : (wiG ts k at_ (j : Int)).toList = [] := by unfold wiG; rw [if_pos e, if_neg p]; rfl
theorem wi_row (e : ¬ (j : Int) = k) (p : atR ts (j : Int) > 0) : (wiG ts k at_ (j : Int)).toList = [⟨(j : Int), atR ts (j : Int)⟩] := by unfold wiG; rw [if_neg e, if_pos p]; rfl
theorem wi_none (e : ¬ (j : Int) = k) (p : ¬ atR ts (j : Int) > 0) : (wiG ts k at_ (j : Int)).toList = [] := by unfold wiG; rw [if_neg e, if_neg p]; rfl
theorem wiG_key (n : Int) (y : Tim) (h : wiG ts k at_ n = some y) : y.id = n := by
  unfold wiG at h
  split at h
  · split at h
    · cases h; rfl
    · cases h
  · split at h
    · cases h; rfl
    · cases h
theorem atR_some (e : getK Tim.id ts k = some x) : atR ts k = x.due := by simp [atR, e]
theorem atR_none (e : getK Tim.id ts k = none) : atR ts k = 0 := by simp [atR, e]
theorem GoodW.getd (h : GoodW now ts) : getK Tim.id ts k = some x ↔ x ∈ ts ∧ x.id = k := getK_iff h.rs
theorem GoodW.pos (h : GoodW now ts) (hx : x ∈ ts) : 0 < x.due := by have := h.tm x hx; have := h.n0; omega
theorem wiG_old (h : GoodW now ts) (hx : x ∈ ts) (hne : x.id ≠ k) : wiG ts k at_ x.id = some x := by
  have e : getK Tim.id ts x.id = some x := h.getd.2 ⟨hx, rfl⟩
  unfold wiG
  rw [if_neg hne, atR_some e, if_pos (h.pos hx)]
theorem wiG_mem (h : GoodW now ts) {z : Tim} (hne : ¬ n = k) (e : wiG ts k at_ n = some z) : z ∈ ts := by
  unfold wiG at e
  rw [if_neg hne] at e
  split at e
  · rename_i hp
    cases hg : getK Tim.id ts n with
    | none => rw [atR_none hg] at hp; omega
    | some y =>
      rw [atR_some hg] at e
      cases e
      have := getK_mem hg
      obtain ⟨y1, y2⟩ := y
      simp only at this
      rw [← this.2]; exact this.1
  · cases e
theorem with_del (h : GoodW now ts) (e : getK Tim.id ts k = some x) : wiL ts k 0 32 = delK Tim.id ts k := mk0_is wiG_key (ris_delK h.rs e) fun z => by
  rw [mem_delK h.rs e]
  constructor
  · rintro ⟨hx, hne⟩
    have := h.tm z hx
    exact ⟨by omega, by omega, wiG_old h hx hne⟩
  · rintro ⟨h1, _, h3⟩
    by_cases hk : z.id = k
    · unfold wiG at h3; rw [if_pos hk] at h3; simp at h3
    · exact ⟨wiG_mem h hk h3, hk⟩
theorem with_put (h : GoodW now ts) (hk : 0 ≤ k ∧ k < 32) (ha : 0 < at_) (e : getK Tim.id ts k = some x) : wiL ts k at_ 32 = putK Tim.id ts ⟨k, at_⟩ := mk0_is wiG_key (ris_putK (z := ⟨k, at_⟩) h.rs e) fun z => by
  rw [mem_putK (z := ⟨k, at_⟩) h.rs e]
  constructor
  · rintro (rfl | ⟨hx, hne⟩)
    · exact ⟨hk.1, by simp only []; omega, by unfold wiG; rw [if_pos rfl, if_pos ha]⟩
    · have := h.tm z hx
      exact ⟨by omega, by omega, wiG_old h hx hne⟩
  · rintro ⟨h1, _, h3⟩
    by_cases hz : z.id = k
    · unfold wiG at h3; rw [if_pos hz, if_pos ha] at h3
      exact .inl (by have := Option.some.inj h3; rw [← this, hz])
    · exact .inr ⟨wiG_mem h hz h3, hz⟩
theorem with_ins (h : GoodW now ts) (hk : 0 ≤ k ∧ k < 32) (ha : 0 < at_) (e : getK Tim.id ts k = none) : wiL ts k at_ 32 = insK Tim.id ts ⟨k, at_⟩ := mk0_is wiG_key (ris_insK (z := ⟨k, at_⟩) h.rs e) fun z => by
  rw [mem_insK]
  constructor
  · rintro (rfl | hx)
    · exact ⟨hk.1, by simp only []; omega, by unfold wiG; rw [if_pos rfl, if_pos ha]⟩
    · have := h.tm z hx
      exact ⟨by omega, by omega, wiG_old h hx (getK_none.1 e z hx)⟩
  · rintro ⟨h1, _, h3⟩
    by_cases hz : z.id = k
    · unfold wiG at h3; rw [if_pos hz, if_pos ha] at h3
      exact .inl (by have := Option.some.inj h3; rw [← this, hz])
    · exact .inr (wiG_mem h hz h3)
theorem wiL_len : (wiL ts k at_ 32).length ≤ 32 := by
  have := risK_len (wiL ts k at_ 32) 0 31 (ris_mk0 wiG_key 32) (fun x hx => by have := (mem_mk0 wiG_key).1 hx; omega) (by omega)
  omega
end
end Go.Proofs.YtdbamgbgnpadjaaGreat

/-! Timers: what the statements ask; plain. -/
namespace Go.Proofs.YtdbamgbgnpadjaaGreat
open Go Go.RowKit

theorem Hs.joinT {w0 w w' : World} {L Y X : List Ob} (h : Hs w0 L w) (hb : Below w.heap.size w w') (hY : Hs w (Y ++ X) w') (n : Nat) : Hs w0 (L.take n ++ (Y ++ (X ++ L.drop n))) w' := by
  have := h.join hb hY n
  rwa [List.append_assoc] at this
section
variable {now k at_ to : Int} {ts : List Tim} {x : Tim}
end
end Go.Proofs.YtdbamgbgnpadjaaGreat

/-! Alarms: what they are; plain. -/
namespace Go.Proofs.YtdbamgbgnpadjaaGreat
open Go Go.RowKit

structure Alm where
  vcpu : Int
  port : Int
  every : Int
deriving DecidableEq, Inhabited
instance : Enc Alm := ⟨fun x => [.int .i64 x.vcpu, .int .i64 x.port, .int .i64 x.every], 3, fun _ => rfl, fun x v h => by simp at h; rcases h with rfl | rfl | rfl <;> rfl, by decide⟩
structure Rng where
  vcpu : Int
  port : Int
  at_ : Int
  missed : Int
deriving DecidableEq, Inhabited
instance : Enc Rng := ⟨fun x => [.int .i64 x.vcpu, .int .i64 x.port, .int .i64 x.at_, .int .i64 x.missed], 4, fun _ => rfl, fun x v h => by simp at h; rcases h with rfl | rfl | rfl | rfl <;> rfl, by decide⟩
def vcB (v : Int) : Bool := decide (1 ≤ v ∧ v ≤ 16)
def almB (x : Alm) : Bool := decide (1 ≤ x.vcpu ∧ x.vcpu ≤ 16 ∧ 1 ≤ x.port ∧ x.port ≤ 32 ∧ (x.every = 0 ∨ (1000 ≤ x.every ∧ x.every ≤ 1125899906842624)))
def lnkB (ts : List Tim) (rs : List Alm) (i : Nat) : Bool := (getK Tim.id ts (i : Int)).isSome == (getK Alm.vcpu rs ((i : Int) + 1)).isSome
/-- May alarms be? -/
def alB (now : Int) (ts : List Tim) (rs : List Alm) : Bool := risK Alm.vcpu rs && rs.all almB && wheelB now ts && (List.range 16).all (lnkB ts rs)
structure GoodA (now : Int) (ts : List Tim) (rs : List Alm) : Prop where
  rr : Ris Alm.vcpu rs
  al : ∀ x ∈ rs, almB x = true
  wh : wheelB now ts = true
  lk : ∀ v : Int, 1 ≤ v → v ≤ 16 → (getK Tim.id ts (v - 1)).isSome = (getK Alm.vcpu rs v).isSome
section
variable {now k v : Int} {ts : List Tim} {rs : List Alm} {x y : Alm} {j : Nat}
theorem al_iff : alB now ts rs = true ↔ GoodA now ts rs := by
  unfold alB
  simp only [Bool.and_eq_true, List.all_eq_true, ris_iffK, List.mem_range]
  constructor
  · rintro ⟨⟨⟨a, b⟩, c⟩, e⟩
    refine ⟨a, b, c, fun v h1 h2 => ?_⟩
    have := e (v - 1).toNat (by omega)
    unfold lnkB at this
    rw [show (((v - 1).toNat : Nat) : Int) = v - 1 by omega, show v - 1 + 1 = v by omega] at this
    simpa using this
  · rintro ⟨a, b, c, e⟩
    refine ⟨⟨⟨a, b⟩, c⟩, fun i hi => ?_⟩
    have := e ((i : Int) + 1) (by omega) (by omega)
    rw [show (i : Int) + 1 - 1 = i by omega] at this
    unfold lnkB
    simpa using this
theorem alm_id (h : almB x = true) : 1 ≤ x.vcpu ∧ x.vcpu ≤ 16 := by
  unfold almB at h
  simp only [decide_eq_true_eq] at h
  exact ⟨h.1, h.2.1⟩
theorem alm_every (h : almB x = true) : 1 ≤ x.port ∧ x.port ≤ 32 ∧ (x.every = 0 ∨ (1000 ≤ x.every ∧ x.every ≤ 1125899906842624)) := by
  unfold almB at h
  simp only [decide_eq_true_eq] at h
  exact h.2.2
theorem rows_len (h : Ris Alm.vcpu rs) (h2 : ∀ x ∈ rs, almB x = true) : rs.length ≤ 16 := by
  have := risK_len rs 1 16 h (fun x hx => alm_id (h2 x hx)) (by omega)
  omega
theorem GoodA.rl (h : GoodA now ts rs) : rs.length ≤ 16 := rows_len h.rr h.al
theorem GoodA.gw (h : GoodA now ts rs) : GoodW now ts := wheel_iff.1 h.wh
theorem al_bad_wheel (h : wheelB now ts = false) : alB now ts rs = false := by simp [alB, h]
theorem al_bad_row (hx : rs[j]? = some x) (h : almB x = false) : alB now ts rs = false := by
  cases e : alB now ts rs with
  | false => rfl
  | true => have := (al_iff.1 e).al x (List.mem_of_getElem? hx); rw [h] at this; cases this
theorem al_bad_rise {i : Nat} (hx : rs[j]? = some x) (hy : rs[i]? = some y) (hij : i < j) (h : x.vcpu ≤ y.vcpu) : alB now ts rs = false := by
  cases e : alB now ts rs with
  | false => rfl
  | true => have := (al_iff.1 e).rr.at hij hy hx; omega
theorem al_bad_link (h1 : 1 ≤ v) (h2 : v ≤ 16) (h : (getK Tim.id ts (v - 1)).isSome ≠ (getK Alm.vcpu rs v).isSome) : alB now ts rs = false := by
  cases e : alB now ts rs with
  | false => rfl
  | true => exact absurd ((al_iff.1 e).lk v h1 h2) h
end
/-- The movers' values: the time, the timers, the alarms, the error. -/
abbrev A4 := Int × List Tim × List Alm × Int
def tput (ts : List Tim) (k at_ : Int) : List Tim := match getK Tim.id ts k with
  | some _ => putK Tim.id ts ⟨k, at_⟩
  | none => insK Tim.id ts ⟨k, at_⟩
def rput (rs : List Alm) (x : Alm) : List Alm := match getK Alm.vcpu rs x.vcpu with
  | some _ => putK Alm.vcpu rs x
  | none => insK Alm.vcpu rs x
def isV (v : Int) (x : Alm) : Bool := decide (x.vcpu = v)
def rdrop (rs : List Alm) (v : Int) : List Alm := rs.filter fun x => !isV v x
def aheadP (now at_ : Int) : Prop := now < at_ ∧ at_ ≤ 1125899906842624
instance (now at_ : Int) : Decidable (aheadP now at_) := by unfold aheadP; infer_instance
def startV (now : Int) (ts : List Tim) (rs : List Alm) (x : Alm) (at_ : Int) : A4 :=
  if alB now ts rs = true then if almB x = true ∧ aheadP now at_ then (now, tput ts (x.vcpu - 1) at_, rput rs x, 0) else (0, [], [], 2) else (0, [], [], 280)
def stopV (now : Int) (ts : List Tim) (rs : List Alm) (v : Int) : A4 :=
  if alB now ts rs = true then if vcB v = true then match getK Tim.id ts (v - 1) with
    | some _ => (now, delK Tim.id ts (v - 1), rdrop rs v, 0)
    | none => (0, [], [], 4)
    else (0, [], [], 2) else (0, [], [], 280)
def sleepV (now : Int) (ts : List Tim) (rs : List Alm) (v at_ : Int) : A4 :=
  if alB now ts rs = true then if vcB v = true ∧ aheadP now at_ then (now, tput ts (15 + v) at_, rs, 0) else (0, [], [], 2) else (0, [], [], 280)
def wakeV (now : Int) (ts : List Tim) (rs : List Alm) (v : Int) : A4 :=
  if alB now ts rs = true then if vcB v = true then match getK Tim.id ts (15 + v) with
    | some _ => (now, delK Tim.id ts (15 + v), rs, 0)
    | none => (0, [], [], 4)
    else (0, [], [], 2) else (0, [], [], 280)
/-- How often an alarm was due besides, and when it rings again. -/
def missA (x : Alm) (when_ to : Int) : Int := if x.every = 0 then 0 else (to - when_) / x.every
def againM (x : Alm) (when_ to : Int) : Int := if x.every = 0 then 0 else when_ + missA x when_ to * x.every + x.every
def nextA (x : Alm) (when_ to : Int) : Option Int := if x.every ≠ 0 ∧ againM x when_ to ≤ 1125899906842624 then some (againM x when_ to) else none
abbrev R3 := List Tim × List Alm × List Rng
def ringS (to : Int) (s : R3) (t : Tim) : R3 :=
  if t.id < 16 then match getK Alm.vcpu s.2.1 (t.id + 1) with
    | some x => match nextA x t.due to with
      | some nx => (tput s.1 t.id nx, s.2.1, s.2.2 ++ [⟨t.id + 1, x.port, t.due, missA x t.due to⟩])
      | none => (s.1, rdrop s.2.1 (t.id + 1), s.2.2 ++ [⟨t.id + 1, x.port, t.due, missA x t.due to⟩])
    | none => s
  else (s.1, s.2.1, s.2.2 ++ [⟨t.id - 16 + 1, 0, t.due, 0⟩])
def ringsV (to : Int) (ts : List Tim) (rs : List Alm) : R3 := (sortT (duL ts to)).foldl (ringS to) (leL ts to, rs, [])
def passA (now : Int) (ts : List Tim) (rs : List Alm) (to : Int) : A4 :=
  if alB now ts rs = true then if now ≤ to ∧ to ≤ 1125899906842624 then (to, (ringsV to ts rs).1, (ringsV to ts rs).2.1, 0) else (0, [], [], 2) else (0, [], [], 280)
def passR (now : Int) (ts : List Tim) (rs : List Alm) (to : Int) : List Rng :=
  if alB now ts rs = true ∧ now ≤ to ∧ to ≤ 1125899906842624 then (ringsV to ts rs).2.2 else []
end Go.Proofs.YtdbamgbgnpadjaaGreat

/-! Timers: the small ones. -/
namespace Go.Proofs.YtdbamgbgnpadjaaGreat
open Go Go.RowKit

set_option maxRecDepth 100000 in
theorem may_t (k : Int) (w : World)
 : Calls Tryz.prog 73 #[.int .i64 k] w fun e w' => e = .returned (.bool (idB k)) ∧ Below w.heap.size w w' := by
 refine enter (Hs.start w) Tryz.func73 rfl Tryz.ntmps73 rfl (sq_ (qa0 [] [0] [] (ds_ (sq_ ?_))))
 by_cases q3 : (k : Int) ≥ (0 : Int)
 ·
  by_cases q5 : (k : Int) < (32 : Int)
  ·
   refine qa [(1, .yes), (4, .yes)] [] [(2, .bool true)] ([(k : Int) ≥ (0 : Int)] ++ ([(k : Int) < (32 : Int)])) (alA (al1 q3) (al1 q5)) (ds_ (rt ([]) (.bool true) ?_))
   exact fun w' hw => ⟨by rw [show idB k = true from by simp only [idB, decide_eq_true_eq]; omega], hw.below⟩
  ·
   refine qa [(1, .yes), (4, .no)] [] [(2, .bool false)] ([(k : Int) ≥ (0 : Int)] ++ ([¬ ((k : Int) < (32 : Int))])) (alA (al1 q3) (al1 q5)) (ds_ (rt ([]) (.bool false) ?_))
   exact fun w' hw => ⟨by rw [show idB k = false from by simp only [idB, decide_eq_false_iff_not]; omega], hw.below⟩
 ·
  refine qa [(1, .no)] [] [(2, .bool false)] ([¬ ((k : Int) ≥ (0 : Int))]) (al1 q3) (ds_ (rt ([]) (.bool false) ?_))
  exact fun w' hw => ⟨by rw [show idB k = false from by simp only [idB, decide_eq_false_iff_not]; omega], hw.below⟩

set_option maxRecDepth 100000 in
theorem fid_t (x : Tim) (w : World)
 : Calls Tryz.prog 79 #[.agg #[.int .i64 x.id, .int .i64 x.due]] w fun e w' => e = .returned (.int .i64 x.id) ∧ Below w.heap.size w w' := by
 refine enter (Hs.start w) Tryz.func79 rfl Tryz.ntmps79 rfl (sq_ (ma0 [] [] (fun γ1 => [(1, .pointer (some ⟨γ1 0, 0, none⟩))]) (fun γ1 L => bx (γ1 0) (#[.int .i64 x.id, .int .i64 x.due]) 42 :: L) (fun γ1 => ds_ (sq_ (qa0 [(1, .go (owns 0 0 1))] [] [(2, .int .i64 x.id)] (ds_ (rt ([]) (.int .i64 x.id) ?_)))))))
 exact fun w' hw => ⟨rfl, hw.below⟩

set_option maxRecDepth 100000 in
theorem isnan_int (a : Int) (w : World)
 : Calls Tryz.prog 104 #[.int .i64 a] w fun e w' => e = .returned (.bool false) ∧ Below w.heap.size w w' := by
 refine enter (Hs.start w) Tryz.func104 rfl Tryz.ntmps104 rfl (sq_ (qa0 [] [0] [] (ds_ (sq_ (qa [(2, .no)] [] [(2, .bool false)] ([¬ ((a : Int) ≠ (a : Int))]) (al1 ((fun h => h rfl))) (ds_ (rt ([]) (.bool false) ?_)))))))
 exact fun w' hw => ⟨rfl, hw.below⟩

set_option maxRecDepth 100000 in
theorem cmp_int (a b : Int) (w : World)
 : Calls Tryz.prog 89 #[.int .i64 a, .int .i64 b] w fun e w' => e = .returned (.int .i64 (cmpT a b)) ∧ Below w.heap.size w w' := by
 refine enter (Hs.start w) Tryz.func89 rfl Tryz.ntmps89 rfl (sq_ (qa0 [] [0, 1] [] (ds_ (sq_ (ao_ (qo0 1 [] [0, 1] [(7, .int .i64 a)] (cD (.bool false) (fun args w => Tryz.call104 args w) (fun w hw => isnan_int a w) (qo0 1 [] [0, 1] [(5, .bool false)] (on_ (ds_ (sq_ (ao_ (qo0 1 [] [0, 1, 5] [(9, .int .i64 b)] (cD (.bool false) (fun args w => Tryz.call104 args w) (fun w hw => isnan_int b w) (qo0 1 [] [0, 1, 5] [(6, .bool false)] (on_ (ds_ (sq_ (sq_ (qa0 [] [0, 1, 6] [(11, .bool false)] (ds_ (f_ (at_skip (ds_ (sq_ (sq_ (qa0 [] [0, 1] [(13, .bool false)] (ds_ (f_ (at_skip (ds_ (sq_ (sq_ ?_)))))))))))))))))))))))))))))))))
 by_cases q9 : (a : Int) < (b : Int)
 ·
  refine qa [(2, .yes)] [0, 1] [(16, .bool true)] ([(a : Int) < (b : Int)]) (al1 q9) (ds_ (t_ (sq_ (qa0 [] [] [(4, .int .i64 (-1))] (ds_ (rt ([]) (.int .i64 (-1)) ?_))))))
  exact fun w' hw => ⟨by rw [show cmpT a b = -1 from by simp only [cmpT, if_pos q9]], hw.below⟩
 ·
  refine qa [(2, .no)] [0, 1] [(16, .bool false)] ([¬ ((a : Int) < (b : Int))]) (al1 q9) (ds_ (f_ (at_skip (ds_ (sq_ (sq_ ?_))))))
  by_cases q14 : (a : Int) > (b : Int)
  ·
   refine qa [(2, .yes)] [] [(19, .bool true)] ([(a : Int) > (b : Int)]) (al1 q14) (ds_ (t_ (sq_ (qa0 [] [] [(4, .int .i64 1)] (ds_ (rt ([]) (.int .i64 1) ?_))))))
   exact fun w' hw => ⟨by rw [show cmpT a b = 1 from by simp only [cmpT, if_neg q9, if_pos q14]], hw.below⟩
  ·
   refine qa [(2, .no)] [] [(19, .bool false)] ([¬ ((a : Int) > (b : Int))]) (al1 q14) (ds_ (f_ (at_skip (ds_ (sq_ (qa0 [] [] [(4, .int .i64 0)] (ds_ (rt ([]) (.int .i64 0) ?_))))))))
   exact fun w' hw => ⟨by rw [show cmpT a b = 0 from by simp only [cmpT, if_neg q9, if_neg q14]], hw.below⟩

set_option maxRecDepth 100000 in
theorem row1_t (x : Tim) (k : Int) (g : Nat) (w : World)
 (hk : Rd w g (0 + 0 * 1) [.func (.func 79) #[] #[]])
 : Calls Tryz.prog 91 #[.agg #[.int .i64 x.id, .int .i64 x.due], .int .i64 k, .pointer (some ⟨g, 0 + 0 * 1, none⟩)] w fun e w' => e = .returned (.int .i64 (cmpT x.id k)) ∧ Below w.heap.size w w' := by
 refine enter (Hs.start w) Tryz.func91 rfl Tryz.ntmps91 rfl (sq_ (ma0 [] [1, 2] (fun γ1 => [(3, .pointer (some ⟨γ1 0, 0, none⟩))]) (fun γ1 L => bx (γ1 0) (#[.int .i64 x.id, .int .i64 x.due]) 42 :: L) (fun γ1 => ds_ (sq_ (ao_ (qo 2 [(0, .go (outs g (0 + 0 * 1) [.func (.func 79) #[] #[]])), (1, .go (owns 0 0 2))] [1] [(6, .func (.func 79) #[] #[]), (7, .agg #[.int .i64 x.id, .int .i64 x.due])] (cellsP w g (0 + 0 * 1) [.func (.func 79) #[] #[]]) (rd_pre hk _ rfl) (cD (.int .i64 x.id) (fun args w => Tryz.call79 args w) (fun w hw => fid_t x w) (qo0 1 [] [8] [(9, .int .i64 k)] (cD (.int .i64 (cmpT x.id k)) (fun args w => Tryz.call89 args w) (fun w hw => cmp_int x.id k w) (qo0 1 [] [] [(5, .int .i64 (cmpT x.id k))] (on_ (ds_ (rt ([]) (.int .i64 (cmpT x.id k)) ?_)))))))))))))
 exact fun w' hw => ⟨rfl, hw.below⟩

set_option maxRecDepth 100000 in
theorem bst (g : FuncId) (cb : Array Value) (p : Option Addr) (n cap : Nat) (l : List Tim) (f c : Tim → Int) (k : Int) (w : World)
 (hg : ∀ args w, (callFunc g args).run Tryz.prog w = .ok (.enter g args) w)
 (hsl : Sv w p l) (hn : n = l.length) (hb : n ≤ 4611686018427387903)
 (hc : ∀ x ∈ l, ∀ w', Below w.heap.size w w' → Calls Tryz.prog g (#[.agg #[.int .i64 x.id, .int .i64 x.due], .int .i64 k] ++ cb) w' fun e w1 => e = .returned (.int .i64 (c x)) ∧ Below w'.heap.size w' w1)
 (hs : ∀ x ∈ l, (c x < 0 ↔ f x < k) ∧ (c x = 0 ↔ f x = k)) (ha : AscK f l)
 : Calls Tryz.prog 90 #[.slice p n cap, .int .i64 k, .func (.func g) #[] cb] w fun e w' => e = .returned (.tuple #[.int .i64 (posK f l k : Nat), .bool (hasK f l k)]) ∧ Below w.heap.size w w' := by
 refine enter (Hs.start w) Tryz.func90 rfl Tryz.ntmps90 rfl (sq_ (qa0 [] [0, 1, 2] [] (ds_ (sq_ (qa0 [] [0, 1, 2] [(8, .int .i64 ((n : Nat)))] (ds_ (sq_ (qa0 [] [0, 1, 2, 8] [(9, .int .i64 0), (10, .int .i64 ((n : Nat)))] (ds_ (sq_ (at_block (at_loop (α := Nat × Nat) [0, 1, 2, 8, 9, 10] (fun ⟨lo, hi⟩ => [(0, .slice p n cap), (1, .int .i64 k), (2, .func (.func g) #[] cb), (8, .int .i64 ((n : Nat))), (9, .int .i64 ((lo : Nat))), (10, .int .i64 ((hi : Nat)))]) (fun ⟨lo, hi⟩ => []) (fun ⟨lo, hi⟩ => lo ≤ hi ∧ hi ≤ n ∧ BsK f l k lo hi) (fun ⟨lo, hi⟩ => hi - lo) (0, n) (by kernel_rfl) rfl ⟨Nat.zero_le _, Nat.le_refl _, by subst hn; exact bsk_start⟩ ?_))))))))))))
 rintro ⟨lo, hi⟩
 rintro ⟨h1, h2, hI⟩
 refine sq_ (sq_ ?_)
 by_cases q5 : ((lo : Nat) : Int) < ((hi : Nat) : Int)
 ·
  refine qa [(2, .yes)] [0, 1, 2, 8, 9, 10] [(17, .bool true)] ([((lo : Nat) : Int) < ((hi : Nat) : Int)]) (al1 q5) (ds_ (t_ (at_skip (ds_ (at_block (sq_ (qa [(2, .fit), (3, .fit), (4, .is [] (.int .u64 ((lo + hi) / 2 : Nat))), (5, .fit)] [0, 1, 2, 8, 9, 10] [(11, .int .i64 (((lo + hi) / 2 : Nat)))] ([Fit .i64 ((lo + hi : Nat))] ++ ([Fit .u64 ((lo + hi : Nat))] ++ ([Value.int .u64 (Int.fdiv ((lo : Nat) + (hi : Nat)) (2 ^ 1)) = .int .u64 (((lo + hi) / 2 : Nat) : Int)] ++ ([Fit .i64 (((lo + hi) / 2 : Nat))])))) (alA (al1 (fit64 (by omega) (by omega))) (alA (al1 (fitU (by omega) (by omega))) (alA (al1 (half lo hi)) (al1 (fit64 (by omega) (by omega)))))) (ds_ (sq_ ?_)))))))))
  obtain ⟨b9, o9, rfl⟩ := hsl.pos (i := (lo + hi) / 2) (by omega)
  obtain ⟨x11, hx11⟩ := get_some (l := l) (m := (lo + hi) / 2) (by omega)
  refine ao_ (qo 6 [(3, .at b9 o9 ((lo + hi) / 2)), (4, .go (outs b9 (o9 + ((lo + hi) / 2) * 2) [.int .i64 x11.id, .int .i64 x11.due]))] [0, 1, 2, 8, 9, 10, 11] [(24, .func (.func g) #[] cb), (28, .agg #[.int .i64 x11.id, .int .i64 x11.due]), (29, .int .i64 k)] ([(some ⟨b9, o9, none⟩ : Option Addr) = some ⟨b9, o9, none⟩, (((lo + hi) / 2 : Nat)) = (((lo + hi) / 2 : Nat) : Int), (lo + hi) / 2 < n] ++ (cellsP w b9 (o9 + ((lo + hi) / 2) * 2) [.int .i64 x11.id, .int .i64 x11.due])) (alA (al2 rfl (al2 rfl (al1 (by omega)))) (rd_pre (hsl.get hx11) _ rfl)) (cD (.int .i64 (c x11)) hg (fun w hw => hc x11 (List.mem_of_getElem? hx11) w hw.below) ?_))
  by_cases q14 : (c x11 : Int) < (0 : Int)
  ·
   refine qo 1 [(7, .yes)] [0, 1, 2, 8, 9, 10, 11] [(31, .bool true)] ([(c x11 : Int) < (0 : Int)]) (al1 q14) (on_ (ds_ (t_ (qa [(1, .fit)] [0, 1, 2, 8, 10] [(9, .int .i64 (((lo + hi) / 2 + 1 : Nat)))] ([Fit .i64 (((lo + hi) / 2 + 1 : Nat))]) (al1 (fit64 (by omega) (by omega))) (done_block ?_)))))
   exact dr [0, 1, 2, 8, 9, 10] ((lo + hi) / 2 + 1, hi) ⟨by omega, by omega, bsk_low hI ha hx11 ((hs x11 (List.mem_of_getElem? hx11)).1.1 q14)⟩
  ·
   refine qo 1 [(7, .no)] [0, 1, 2, 8, 9, 10, 11] [(31, .bool false)] ([¬ ((c x11 : Int) < (0 : Int))]) (al1 q14) (on_ (ds_ (f_ (qa0 [] [0, 1, 2, 8, 9] [(10, .int .i64 (((lo + hi) / 2 : Nat)))] (done_block ?_)))))
   exact dr [0, 1, 2, 8, 9, 10] (lo, (lo + hi) / 2) ⟨by omega, by omega, bsk_high hI ha hx11 (fun h => q14 ((hs x11 (List.mem_of_getElem? hx11)).1.2 h))⟩
 ·
  refine qa [(2, .no)] [0, 1, 2, 8, 9, 10] [(17, .bool false)] ([¬ (((lo : Nat) : Int) < ((hi : Nat) : Int))]) (al1 q5) (ds_ (f_ (at_leave _ rfl (ds_ (sq_ ?_)))))
  by_cases q21 : ((lo : Nat) : Int) < ((n : Nat) : Int)
  ·
   obtain ⟨b23, o23, rfl⟩ := hsl.pos (i := lo) (by omega)
   obtain ⟨x25, hx25⟩ := get_some (l := l) (m := lo) (by omega)
   refine ao_ (qo 11 [(3, .yes), (8, .at b23 o23 lo), (9, .go (outs b23 (o23 + lo * 2) [.int .i64 x25.id, .int .i64 x25.due]))] [] [(35, .int .i64 ((lo : Nat))), (39, .bool true), (40, .func (.func g) #[] cb), (44, .agg #[.int .i64 x25.id, .int .i64 x25.due]), (45, .int .i64 k)] ([((lo : Nat) : Int) < ((n : Nat) : Int)] ++ ([(some ⟨b23, o23, none⟩ : Option Addr) = some ⟨b23, o23, none⟩, ((lo : Nat)) = ((lo : Nat) : Int), lo < n] ++ (cellsP w b23 (o23 + lo * 2) [.int .i64 x25.id, .int .i64 x25.due]))) (alA (al1 q21) (alA (al2 rfl (al2 rfl (al1 (by omega)))) (rd_pre (hsl.get hx25) _ rfl))) (cD (.int .i64 (c x25)) hg (fun w hw => hc x25 (List.mem_of_getElem? hx25) w hw.below) ?_))
   by_cases q28 : (c x25 : Int) = (0 : Int)
   ·
    refine qo 4 [(12, .yes)] [] [(6, .int .i64 ((lo : Nat))), (7, .bool true)] ([(c x25 : Int) = (0 : Int)]) (al1 q28) (on_ (ds_ (rt ([]) (.tuple #[.int .i64 ((lo : Nat)), .bool true]) ?_)))
    exact fun w' hw => ⟨by rw [bsk_end hI (by omega) h1 (by omega), hask_found hx25 ((hs x25 (List.mem_of_getElem? hx25)).2.1 q28)], hw.below⟩
   ·
    refine qo 4 [(12, .no)] [] [(6, .int .i64 ((lo : Nat))), (7, .bool false)] ([¬ ((c x25 : Int) = (0 : Int))]) (al1 q28) (on_ (ds_ (rt ([]) (.tuple #[.int .i64 ((lo : Nat)), .bool false]) ?_)))
    exact fun w' hw => ⟨by rw [bsk_end hI (by omega) h1 (by omega), hask_other hI (by omega) h1 ha hx25 (fun h => q28 ((hs x25 (List.mem_of_getElem? hx25)).2.2 h))], hw.below⟩
  ·
   refine qa [(3, .no)] [] [(6, .int .i64 ((lo : Nat))), (7, .bool false)] ([¬ (((lo : Nat) : Int) < ((n : Nat) : Int))]) (al1 q21) (ds_ (rt ([]) (.tuple #[.int .i64 ((lo : Nat)), .bool false]) ?_))
   exact fun w' hw => ⟨by rw [bsk_end hI (by omega) h1 (by omega), hask_none hI (by omega) h1 (by omega)], hw.below⟩

set_option maxRecDepth 100000 in
theorem bswt (g : FuncId) (cb : Array Value) (p : Option Addr) (n cap : Nat) (l : List Tim) (c : Tim → Int) (k : Int) (w : World)
 (hg : ∀ args w, (callFunc g args).run Tryz.prog w = .ok (.enter g args) w)
 (hsl : Sv w p l) (hn : n = l.length) (hb : n ≤ 4611686018427387903)
 (hc : ∀ x ∈ l, ∀ w', Below w.heap.size w w' → Calls Tryz.prog g (#[.agg #[.int .i64 x.id, .int .i64 x.due], .int .i64 k] ++ cb) w' fun e w1 => e = .returned (.int .i64 (c x)) ∧ Below w'.heap.size w' w1)
 : Calls Tryz.prog 90 #[.slice p n cap, .int .i64 k, .func (.func g) #[] cb] w fun e w' => ∃ (i : Nat) (b : Bool), e = .returned (.tuple #[.int .i64 (i : Nat), .bool b]) ∧ i ≤ n ∧ (b = true → ∃ x, l[i]? = some x ∧ c x = 0) ∧ Below w.heap.size w w' := by
 refine enter (Hs.start w) Tryz.func90 rfl Tryz.ntmps90 rfl (sq_ (qa0 [] [0, 1, 2] [] (ds_ (sq_ (qa0 [] [0, 1, 2] [(8, .int .i64 ((n : Nat)))] (ds_ (sq_ (qa0 [] [0, 1, 2, 8] [(9, .int .i64 0), (10, .int .i64 ((n : Nat)))] (ds_ (sq_ (at_block (at_loop (α := Nat × Nat) [0, 1, 2, 8, 9, 10] (fun ⟨lo, hi⟩ => [(0, .slice p n cap), (1, .int .i64 k), (2, .func (.func g) #[] cb), (8, .int .i64 ((n : Nat))), (9, .int .i64 ((lo : Nat))), (10, .int .i64 ((hi : Nat)))]) (fun ⟨lo, hi⟩ => []) (fun ⟨lo, hi⟩ => lo ≤ hi ∧ hi ≤ n) (fun ⟨lo, hi⟩ => hi - lo) (0, n) (by kernel_rfl) rfl ⟨Nat.zero_le _, Nat.le_refl _⟩ ?_))))))))))))
 rintro ⟨lo, hi⟩
 rintro ⟨h1, h2⟩
 refine sq_ (sq_ ?_)
 by_cases q5 : ((lo : Nat) : Int) < ((hi : Nat) : Int)
 ·
  refine qa [(2, .yes)] [0, 1, 2, 8, 9, 10] [(17, .bool true)] ([((lo : Nat) : Int) < ((hi : Nat) : Int)]) (al1 q5) (ds_ (t_ (at_skip (ds_ (at_block (sq_ (qa [(2, .fit), (3, .fit), (4, .is [] (.int .u64 ((lo + hi) / 2 : Nat))), (5, .fit)] [0, 1, 2, 8, 9, 10] [(11, .int .i64 (((lo + hi) / 2 : Nat)))] ([Fit .i64 ((lo + hi : Nat))] ++ ([Fit .u64 ((lo + hi : Nat))] ++ ([Value.int .u64 (Int.fdiv ((lo : Nat) + (hi : Nat)) (2 ^ 1)) = .int .u64 (((lo + hi) / 2 : Nat) : Int)] ++ ([Fit .i64 (((lo + hi) / 2 : Nat))])))) (alA (al1 (fit64 (by omega) (by omega))) (alA (al1 (fitU (by omega) (by omega))) (alA (al1 (half lo hi)) (al1 (fit64 (by omega) (by omega)))))) (ds_ (sq_ ?_)))))))))
  obtain ⟨b9, o9, rfl⟩ := hsl.pos (i := (lo + hi) / 2) (by omega)
  obtain ⟨x11, hx11⟩ := get_some (l := l) (m := (lo + hi) / 2) (by omega)
  refine ao_ (qo 6 [(3, .at b9 o9 ((lo + hi) / 2)), (4, .go (outs b9 (o9 + ((lo + hi) / 2) * 2) [.int .i64 x11.id, .int .i64 x11.due]))] [0, 1, 2, 8, 9, 10, 11] [(24, .func (.func g) #[] cb), (28, .agg #[.int .i64 x11.id, .int .i64 x11.due]), (29, .int .i64 k)] ([(some ⟨b9, o9, none⟩ : Option Addr) = some ⟨b9, o9, none⟩, (((lo + hi) / 2 : Nat)) = (((lo + hi) / 2 : Nat) : Int), (lo + hi) / 2 < n] ++ (cellsP w b9 (o9 + ((lo + hi) / 2) * 2) [.int .i64 x11.id, .int .i64 x11.due])) (alA (al2 rfl (al2 rfl (al1 (by omega)))) (rd_pre (hsl.get hx11) _ rfl)) (cD (.int .i64 (c x11)) hg (fun w hw => hc x11 (List.mem_of_getElem? hx11) w hw.below) ?_))
  by_cases q14 : (c x11 : Int) < (0 : Int)
  ·
   refine qo 1 [(7, .yes)] [0, 1, 2, 8, 9, 10, 11] [(31, .bool true)] ([(c x11 : Int) < (0 : Int)]) (al1 q14) (on_ (ds_ (t_ (qa [(1, .fit)] [0, 1, 2, 8, 10] [(9, .int .i64 (((lo + hi) / 2 + 1 : Nat)))] ([Fit .i64 (((lo + hi) / 2 + 1 : Nat))]) (al1 (fit64 (by omega) (by omega))) (done_block ?_)))))
   exact dr [0, 1, 2, 8, 9, 10] ((lo + hi) / 2 + 1, hi) ⟨by omega, by omega⟩
  ·
   refine qo 1 [(7, .no)] [0, 1, 2, 8, 9, 10, 11] [(31, .bool false)] ([¬ ((c x11 : Int) < (0 : Int))]) (al1 q14) (on_ (ds_ (f_ (qa0 [] [0, 1, 2, 8, 9] [(10, .int .i64 (((lo + hi) / 2 : Nat)))] (done_block ?_)))))
   exact dr [0, 1, 2, 8, 9, 10] (lo, (lo + hi) / 2) ⟨by omega, by omega⟩
 ·
  refine qa [(2, .no)] [0, 1, 2, 8, 9, 10] [(17, .bool false)] ([¬ (((lo : Nat) : Int) < ((hi : Nat) : Int))]) (al1 q5) (ds_ (f_ (at_leave _ rfl (ds_ (sq_ ?_)))))
  by_cases q21 : ((lo : Nat) : Int) < ((n : Nat) : Int)
  ·
   obtain ⟨b23, o23, rfl⟩ := hsl.pos (i := lo) (by omega)
   obtain ⟨x25, hx25⟩ := get_some (l := l) (m := lo) (by omega)
   refine ao_ (qo 11 [(3, .yes), (8, .at b23 o23 lo), (9, .go (outs b23 (o23 + lo * 2) [.int .i64 x25.id, .int .i64 x25.due]))] [] [(35, .int .i64 ((lo : Nat))), (39, .bool true), (40, .func (.func g) #[] cb), (44, .agg #[.int .i64 x25.id, .int .i64 x25.due]), (45, .int .i64 k)] ([((lo : Nat) : Int) < ((n : Nat) : Int)] ++ ([(some ⟨b23, o23, none⟩ : Option Addr) = some ⟨b23, o23, none⟩, ((lo : Nat)) = ((lo : Nat) : Int), lo < n] ++ (cellsP w b23 (o23 + lo * 2) [.int .i64 x25.id, .int .i64 x25.due]))) (alA (al1 q21) (alA (al2 rfl (al2 rfl (al1 (by omega)))) (rd_pre (hsl.get hx25) _ rfl))) (cD (.int .i64 (c x25)) hg (fun w hw => hc x25 (List.mem_of_getElem? hx25) w hw.below) ?_))
   by_cases q28 : (c x25 : Int) = (0 : Int)
   ·
    refine qo 4 [(12, .yes)] [] [(6, .int .i64 ((lo : Nat))), (7, .bool true)] ([(c x25 : Int) = (0 : Int)]) (al1 q28) (on_ (ds_ (rt ([]) (.tuple #[.int .i64 ((lo : Nat)), .bool true]) ?_)))
    exact fun w' hw => ⟨lo, true, rfl, by omega, fun _ => ⟨x25, hx25, q28⟩, hw.below⟩
   ·
    refine qo 4 [(12, .no)] [] [(6, .int .i64 ((lo : Nat))), (7, .bool false)] ([¬ ((c x25 : Int) = (0 : Int))]) (al1 q28) (on_ (ds_ (rt ([]) (.tuple #[.int .i64 ((lo : Nat)), .bool false]) ?_)))
    exact fun w' hw => ⟨lo, false, rfl, by omega, fun h => (by cases h), hw.below⟩
  ·
   refine qa [(3, .no)] [] [(6, .int .i64 ((lo : Nat))), (7, .bool false)] ([¬ (((lo : Nat) : Int) < ((n : Nat) : Int))]) (al1 q21) (ds_ (rt ([]) (.tuple #[.int .i64 ((lo : Nat)), .bool false]) ?_))
   exact fun w' hw => ⟨lo, false, rfl, by omega, fun h => (by cases h), hw.below⟩

set_option maxRecDepth 100000 in
theorem row_t (p : Option Addr) (n cap : Nat) (ts : List Tim) (k : Int) (w : World)
 (hts : Sv w p ts) (hn : n = ts.length) (hb : n ≤ 1000)
 (ha : Ris Tim.id ts)
 : Calls Tryz.prog 78 #[.slice p n cap, .int .i64 k, .func (.func 79) #[] #[]] w fun e w' => e = .returned (.tuple #[.int .i64 (posK Tim.id ts k : Nat), .bool (hasK Tim.id ts k)]) ∧ Below w.heap.size w w' := by
 refine enter (Hs.start w) Tryz.func78 rfl Tryz.ntmps78 rfl (sq_ (ma0 [] [0, 1] (fun γ1 => [(5, .pointer (some ⟨γ1 0, 0, none⟩))]) (fun γ1 L => bx (γ1 0) (#[.func (.func 79) #[] #[]]) 110 :: L) (fun γ1 => ds_ (sq_ (ao_ (qo0 3 [] [] [(8, .slice p n cap), (9, .int .i64 k), (10, .func (.func 91) #[] #[.pointer (some ⟨γ1 0, 0, none⟩)])] (cD (.tuple #[.int .i64 ((posK Tim.id ts k : Nat)), .bool (hasK Tim.id ts k)]) (fun args w => Tryz.call90 args w) (fun w hw => bst 91 #[.pointer (some ⟨γ1 0, 0, none⟩)] p n cap ts Tim.id (fun x => cmpT x.id k) k w Tryz.call91 (hts.kept hw.below) hn (by omega) (fun x hx w' hb' => row1_t x k (γ1 0) w' (rd_oneT ((hb'.block _ (hs_lt (hw.row 0 rfl))).trans (hw.row 0 rfl)))) (fun x hx => cmpT_iff x.id k) ha.asc) (qo0 4 [] [] [(6, .int .i64 ((posK Tim.id ts k : Nat))), (7, .bool (hasK Tim.id ts k))] (on_ (ds_ (rt ([]) (.tuple #[.int .i64 ((posK Tim.id ts k : Nat)), .bool (hasK Tim.id ts k)]) ?_)))))))))))
 exact fun w' hw => ⟨rfl, hw.below⟩

set_option maxRecDepth 100000 in
theorem roww_t (p : Option Addr) (n cap : Nat) (ts : List Tim) (k : Int) (w : World)
 (hts : Sv w p ts) (hn : n = ts.length) (hb : n ≤ 1000)
 : Calls Tryz.prog 78 #[.slice p n cap, .int .i64 k, .func (.func 79) #[] #[]] w fun e w' => ∃ (i : Nat) (b : Bool), e = .returned (.tuple #[.int .i64 (i : Nat), .bool b]) ∧ i ≤ n ∧ (b = true → ∃ x, ts[i]? = some x ∧ x.id = k) ∧ Below w.heap.size w w' := by
 refine enter (Hs.start w) Tryz.func78 rfl Tryz.ntmps78 rfl (sq_ (ma0 [] [0, 1] (fun γ1 => [(5, .pointer (some ⟨γ1 0, 0, none⟩))]) (fun γ1 L => bx (γ1 0) (#[.func (.func 79) #[] #[]]) 110 :: L) (fun γ1 => ds_ (sq_ (ao_ (qo0 3 [] [] [(8, .slice p n cap), (9, .int .i64 k), (10, .func (.func 91) #[] #[.pointer (some ⟨γ1 0, 0, none⟩)])] (cP (fun v L' => ∃ (i : Nat) (b : Bool), v = .tuple #[.int .i64 (i : Nat), .bool b] ∧ L' = [bx (γ1 0) (#[.func (.func 79) #[] #[]]) 110] ∧ i ≤ n ∧ (b = true → ∃ x, ts[i]? = some x ∧ cmpT x.id k = 0)) (fun args w => Tryz.call90 args w) (fun w hw => (bswt 91 #[.pointer (some ⟨γ1 0, 0, none⟩)] p n cap ts (fun x => cmpT x.id k) k w Tryz.call91 (hts.kept hw.below) hn (by omega) (fun x hx w' hb' => row1_t x k (γ1 0) w' (rd_oneT ((hb'.block _ (hs_lt (hw.row 0 rfl))).trans (hw.row 0 rfl))))).mono (fun e w' ⟨i, b, he, h1, h2, h3⟩ => ⟨_, _, he, ⟨i, b, rfl, rfl, h1, h2⟩, hw.kept h3⟩)) ?_)))))))
 rintro v3 L3 ⟨i3, b3, rfl, rfl, hi3, hb3⟩
 refine qo0 4 [] [] [(6, .int .i64 ((i3 : Nat))), (7, .bool b3)] (on_ (ds_ (rt ([]) (.tuple #[.int .i64 ((i3 : Nat)), .bool b3]) ?_)))
 exact fun w' hw => ⟨i3, b3, rfl, hi3, fun h => by obtain ⟨x, hx, hc⟩ := hb3 h; exact ⟨x, hx, (cmpT_iff x.id k).2.1 hc⟩, hw.below⟩
end Go.Proofs.YtdbamgbgnpadjaaGreat

/-! Timers: which may be. -/
namespace Go.Proofs.YtdbamgbgnpadjaaGreat
open Go Go.RowKit

set_option maxRecDepth 100000 in
theorem wcheck_t (now : Int) (p : Option Addr) (n cap : Nat) (ts : List Tim) (w : World)
 (hts : Sv w p ts) (hn : n = ts.length) (hb : n ≤ 1000)
 : Calls Tryz.prog 68 #[.agg #[.int .i64 now, .slice p n cap]] w fun e w' => e = .returned (.int .i64 (if wheelB now ts = true then 0 else 250)) ∧ Below w.heap.size w w' := by
 refine enter (Hs.start w) Tryz.func68 rfl Tryz.ntmps68 rfl (sq_ (ma0 [] [] (fun γ1 => [(1, .pointer (some ⟨γ1 0, 0, none⟩))]) (fun γ1 L => bx (γ1 0) (#[.int .i64 now, .slice p n cap]) 24 :: L) (fun γ1 => ds_ (sq_ (sq_ ?_)))))
 by_cases q3 : (now : Int) < (0 : Int)
 ·
  refine qa [(1, .go (owns 0 0 1)), (2, .yes)] [1] [(12, .bool true)] ([(now : Int) < (0 : Int)]) (al1 q3) (ds_ (t_ (sq_ (qa0 [] [] [(2, .int .i64 250)] (ds_ (rt ([]) (.int .i64 250) ?_))))))
  exact fun w' hw => ⟨by rw [bad_now (by omega)]; rfl, hw.below⟩
 ·
  by_cases q7 : (now : Int) > (1125899906842624 : Int)
  ·
   refine qa [(1, .go (owns 0 0 1)), (2, .no), (5, .go (owns 0 0 1)), (6, .yes)] [1] [(12, .bool true)] ([¬ ((now : Int) < (0 : Int))] ++ ([(now : Int) > (1125899906842624 : Int)])) (alA (al1 q3) (al1 q7)) (ds_ (t_ (sq_ (qa0 [] [] [(2, .int .i64 250)] (ds_ (rt ([]) (.int .i64 250) ?_))))))
   exact fun w' hw => ⟨by rw [bad_now (by omega)]; rfl, hw.below⟩
  ·
   refine qa [(1, .go (owns 0 0 1)), (2, .no), (5, .go (owns 0 0 1)), (6, .no)] [1] [(12, .bool false)] ([¬ ((now : Int) < (0 : Int))] ++ ([¬ ((now : Int) > (1125899906842624 : Int))])) (alA (al1 q3) (al1 q7)) (ds_ (f_ (at_skip (ds_ (sq_ (sq_ (qa0 [(1, .go (owns 0 1 1))] [1] [(14, .slice p n cap), (15, .int .i64 ((n : Nat))), (16, .int .i64 0)] (ds_ (at_block (at_loop (α := Nat) [1, 14, 15, 16] (fun j => [(1, .pointer (some ⟨γ1 0, 0, none⟩)), (14, .slice p n cap), (15, .int .i64 ((n : Nat))), (16, .int .i64 ((j : Nat)))]) (fun j => [bx (γ1 0) (#[.int .i64 now, .slice p n cap]) 24]) (fun j => j ≤ n ∧ Ris Tim.id (ts.take j) ∧ ∀ y ∈ ts.take j, 0 ≤ y.id ∧ y.id < 32 ∧ now < y.due ∧ y.due ≤ 1125899906842624) (fun j => n - j) 0 (by kernel_rfl) rfl ⟨Nat.zero_le _, ris_take0T, all_take0T⟩ ?_))))))))))
   rintro j
   rintro ⟨hj, hR, hA⟩
   refine sq_ ?_
   by_cases q13 : ((j : Nat) : Int) < ((n : Nat) : Int)
   ·
    refine qa [(0, .yes)] [1, 14, 15, 16] [(17, .bool true)] ([((j : Nat) : Int) < ((n : Nat) : Int)]) (al1 q13) (ds_ (sq_ (t_ (at_skip (ds_ (sq_ (at_block (sq_ ?_))))))))
    obtain ⟨b16, o16, rfl⟩ := hts.pos (i := j) (by omega)
    obtain ⟨x18, hx18⟩ := get_some (l := ts) (m := j) (by omega)
    refine ma [(1, .at b16 o16 j), (2, .go (outs b16 (o16 + j * 2) [.int .i64 x18.id, .int .i64 x18.due])), (5, .go (owns 0 0 2))] [1, 14, 15, 16] (fun γ19 => [(3, .int .i64 ((j : Nat))), (4, .pointer (some ⟨γ19 0, 0, none⟩))]) (fun γ19 L => bx (γ19 0) (#[.int .i64 x18.id, .int .i64 x18.due]) 42 :: L) (fun γ19 => [(some ⟨b16, o16, none⟩ : Option Addr) = some ⟨b16, o16, none⟩, ((j : Nat)) = ((j : Nat) : Int), j < n] ++ (cellsP w b16 (o16 + j * 2) [.int .i64 x18.id, .int .i64 x18.due])) (fun γ19 => (alA (al2 rfl (al2 rfl (al1 (by omega)))) (rd_pre (hts.get hx18) _ rfl))) (fun γ19 => ds_ (sq_ ?_))
    rcases q20 : idB x18.id with _ | _
    ·
     refine at_calm rfl (by kernel_rfl) (by kernel_rfl) ?_
     refine cm 2 [(1, .go (owns 0 0 1))] [1, 3, 4, 14, 15, 16] [(22, .int .i64 x18.id)] ([]) (by kernel_rfl) rfl al0 ?_
     refine cK (.bool false) (fun args w => Tryz.call73 args w) (fun w hw => by have := may_t x18.id w; rw [q20] at this; exact this) ?_
     refine cm 29 [] [1, 14, 15, 16] [(52, .bool true)] ([]) (by kernel_rfl) rfl al0 ?_
     refine calm_nil' ?_
     refine ds_ (t_ (sq_ (qa0 [] [] [(2, .int .i64 250)] (ds_ (rt ([]) (.int .i64 250) ?_)))))
     have hid := of_decide_eq_false q20
     exact fun w' hw => ⟨by rw [bad_tim hx18 (by omega)]; rfl, hw.below⟩
    ·
     by_cases q24 : (x18.due : Int) ≤ (now : Int)
     ·
      refine at_calm rfl (by kernel_rfl) (by kernel_rfl) ?_
      refine cm 2 [(1, .go (owns 0 0 1))] [1, 3, 4, 14, 15, 16] [(22, .int .i64 x18.id)] ([]) (by kernel_rfl) rfl al0 ?_
      refine cK (.bool true) (fun args w => Tryz.call73 args w) (fun w hw => by have := may_t x18.id w; rw [q20] at this; exact this) ?_
      refine cm 29 [(6, .go (owns 0 1 1)), (8, .go (owns 1 0 1)), (9, .yes)] [1, 14, 15, 16] [(52, .bool true)] ([(x18.due : Int) ≤ (now : Int)]) (by kernel_rfl) rfl (al1 q24) ?_
      refine calm_nil' ?_
      refine ds_ (t_ (sq_ (qa0 [] [] [(2, .int .i64 250)] (ds_ (rt ([]) (.int .i64 250) ?_)))))
      exact fun w' hw => ⟨by rw [bad_tim hx18 (by omega)]; rfl, hw.below⟩
     ·
      by_cases q28 : (x18.due : Int) > (1125899906842624 : Int)
      ·
       refine at_calm rfl (by kernel_rfl) (by kernel_rfl) ?_
       refine cm 2 [(1, .go (owns 0 0 1))] [1, 3, 4, 14, 15, 16] [(22, .int .i64 x18.id)] ([]) (by kernel_rfl) rfl al0 ?_
       refine cK (.bool true) (fun args w => Tryz.call73 args w) (fun w hw => by have := may_t x18.id w; rw [q20] at this; exact this) ?_
       refine cm 29 [(6, .go (owns 0 1 1)), (8, .go (owns 1 0 1)), (9, .no), (13, .go (owns 0 1 1)), (14, .yes)] [1, 14, 15, 16] [(52, .bool true)] ([¬ ((x18.due : Int) ≤ (now : Int))] ++ ([(x18.due : Int) > (1125899906842624 : Int)])) (by kernel_rfl) rfl (alA (al1 q24) (al1 q28)) ?_
       refine calm_nil' ?_
       refine ds_ (t_ (sq_ (qa0 [] [] [(2, .int .i64 250)] (ds_ (rt ([]) (.int .i64 250) ?_)))))
       exact fun w' hw => ⟨by rw [bad_tim hx18 (by omega)]; rfl, hw.below⟩
      ·
       by_cases q32 : ((j : Nat) : Int) > (0 : Int)
       ·
        obtain ⟨x33, hx33⟩ := get_some (l := ts) (m := j - 1) (by omega)
        by_cases q34 : (x33.id : Int) ≥ (x18.id : Int)
        ·
         refine at_calm rfl (by kernel_rfl) (by kernel_rfl) ?_
         refine cm 2 [(1, .go (owns 0 0 1))] [1, 3, 4, 14, 15, 16] [(22, .int .i64 x18.id)] ([]) (by kernel_rfl) rfl al0 ?_
         refine cK (.bool true) (fun args w => Tryz.call73 args w) (fun w hw => by have := may_t x18.id w; rw [q20] at this; exact this) ?_
         refine cm 29 [(6, .go (owns 0 1 1)), (8, .go (owns 1 0 1)), (9, .no), (13, .go (owns 0 1 1)), (14, .no), (18, .yes), (21, .go (owns 1 1 1)), (23, .fit), (24, .at b16 o16 (j - 1)), (26, .go (outs b16 (o16 + (j - 1) * 2) [.int .i64 x33.id])), (28, .go (owns 0 0 1)), (29, .yes)] [1, 14, 15, 16] [(52, .bool true)] ([¬ ((x18.due : Int) ≤ (now : Int))] ++ ([¬ ((x18.due : Int) > (1125899906842624 : Int))] ++ ([((j : Nat) : Int) > (0 : Int)] ++ ([Fit .i64 (((j : Nat)) - 1)] ++ ([(some ⟨b16, o16, none⟩ : Option Addr) = some ⟨b16, o16, none⟩, (((j : Nat)) - 1) = ((j - 1 : Nat) : Int), j - 1 < n] ++ (cellsP w b16 (o16 + (j - 1) * 2) [.int .i64 x33.id] ++ ([(x33.id : Int) ≥ (x18.id : Int)]))))))) (by kernel_rfl) rfl (alA (al1 q24) (alA (al1 q28) (alA (al1 q32) (alA (al1 (fit64 (by omega) (by omega))) (alA (al2 rfl (al2 (by omega) (al1 (by omega)))) (alA (rd_pre (hts.get hx33) _ rfl) (al1 q34))))))) ?_
         refine calm_nil' ?_
         refine ds_ (t_ (sq_ (qa0 [] [] [(2, .int .i64 250)] (ds_ (rt ([]) (.int .i64 250) ?_)))))
         exact fun w' hw => ⟨by rw [bad_rise hx18 hx33 (by omega) (by omega)]; rfl, hw.below⟩
        ·
         refine at_calm rfl (by kernel_rfl) (by kernel_rfl) ?_
         refine cm 2 [(1, .go (owns 0 0 1))] [1, 3, 4, 14, 15, 16] [(22, .int .i64 x18.id)] ([]) (by kernel_rfl) rfl al0 ?_
         refine cK (.bool true) (fun args w => Tryz.call73 args w) (fun w hw => by have := may_t x18.id w; rw [q20] at this; exact this) ?_
         refine cm 29 [(6, .go (owns 0 1 1)), (8, .go (owns 1 0 1)), (9, .no), (13, .go (owns 0 1 1)), (14, .no), (18, .yes), (21, .go (owns 1 1 1)), (23, .fit), (24, .at b16 o16 (j - 1)), (26, .go (outs b16 (o16 + (j - 1) * 2) [.int .i64 x33.id])), (28, .go (owns 0 0 1)), (29, .no)] [1, 14, 15, 16] [(52, .bool false)] ([¬ ((x18.due : Int) ≤ (now : Int))] ++ ([¬ ((x18.due : Int) > (1125899906842624 : Int))] ++ ([((j : Nat) : Int) > (0 : Int)] ++ ([Fit .i64 (((j : Nat)) - 1)] ++ ([(some ⟨b16, o16, none⟩ : Option Addr) = some ⟨b16, o16, none⟩, (((j : Nat)) - 1) = ((j - 1 : Nat) : Int), j - 1 < n] ++ (cellsP w b16 (o16 + (j - 1) * 2) [.int .i64 x33.id] ++ ([¬ ((x33.id : Int) ≥ (x18.id : Int))]))))))) (by kernel_rfl) rfl (alA (al1 q24) (alA (al1 q28) (alA (al1 q32) (alA (al1 (fit64 (by omega) (by omega))) (alA (al2 rfl (al2 (by omega) (al1 (by omega)))) (alA (rd_pre (hts.get hx33) _ rfl) (al1 q34))))))) ?_
         refine calm_nil' ?_
         refine ds_ (f_ (at_skip (done_block (ds_ (qa [(0, .fit)] [1, 14, 15] [(16, .int .i64 ((j + 1 : Nat)))] ([Fit .i64 ((j + 1 : Nat))]) (al1 (fit64 (by omega) (by omega))) (Done.drop (L' := [bx (γ1 0) (#[.int .i64 now, .slice (some ⟨b16, o16, none⟩) n cap]) 24]) ?_ (List.Sublist.cons _ (List.Sublist.cons_cons _ (List.Sublist.refl _)))))))))
         have hid := of_decide_eq_true q20
         exact dr [1, 14, 15, 16] (j + 1) ⟨by omega, ris_take_onT hR hx18 (.inr ⟨x33, hx33, by omega⟩), all_onT hA hx18 ⟨by omega, by omega, by omega, by omega⟩⟩
       ·
        refine at_calm rfl (by kernel_rfl) (by kernel_rfl) ?_
        refine cm 2 [(1, .go (owns 0 0 1))] [1, 3, 4, 14, 15, 16] [(22, .int .i64 x18.id)] ([]) (by kernel_rfl) rfl al0 ?_
        refine cK (.bool true) (fun args w => Tryz.call73 args w) (fun w hw => by have := may_t x18.id w; rw [q20] at this; exact this) ?_
        refine cm 29 [(6, .go (owns 0 1 1)), (8, .go (owns 1 0 1)), (9, .no), (13, .go (owns 0 1 1)), (14, .no), (18, .no)] [1, 14, 15, 16] [(52, .bool false)] ([¬ ((x18.due : Int) ≤ (now : Int))] ++ ([¬ ((x18.due : Int) > (1125899906842624 : Int))] ++ ([¬ (((j : Nat) : Int) > (0 : Int))]))) (by kernel_rfl) rfl (alA (al1 q24) (alA (al1 q28) (al1 q32))) ?_
        refine calm_nil' ?_
        refine ds_ (f_ (at_skip (done_block (ds_ (qa [(0, .fit)] [1, 14, 15] [(16, .int .i64 ((j + 1 : Nat)))] ([Fit .i64 ((j + 1 : Nat))]) (al1 (fit64 (by omega) (by omega))) (Done.drop (L' := [bx (γ1 0) (#[.int .i64 now, .slice (some ⟨b16, o16, none⟩) n cap]) 24]) ?_ (List.Sublist.cons _ (List.Sublist.cons_cons _ (List.Sublist.refl _)))))))))
        have hid := of_decide_eq_true q20
        exact dr [1, 14, 15, 16] (j + 1) ⟨by omega, ris_take_onT hR hx18 (.inl (by omega)), all_onT hA hx18 ⟨by omega, by omega, by omega, by omega⟩⟩
   ·
    refine qa [(0, .no)] [1, 14, 15, 16] [(17, .bool false)] ([¬ (((j : Nat) : Int) < ((n : Nat) : Int))]) (al1 q13) (ds_ (sq_ (f_ (at_leave _ rfl (ds_ (sq_ (qa0 [] [] [(2, .int .i64 0)] (ds_ (rt ([]) (.int .i64 0) ?_)))))))))
    exact fun w' hw => ⟨by rw [good_tims (by omega) (by omega) hR (by omega) hA]; rfl, hw.below⟩

set_option maxRecDepth 100000 in
theorem rright_t (now : Int) (p : Option Addr) (n cap : Nat) (ts : List Tim) (w : World)
 (hts : Sv w p ts) (hn : n = ts.length) (hb : n ≤ 1000)
 : Calls Tryz.prog 45 #[.agg #[.int .i64 now, .slice p n cap]] w fun e w' => e = .returned (.bool (wheelB now ts)) ∧ Below w.heap.size w w' := by
 refine enter (Hs.start w) Tryz.func45 rfl Tryz.ntmps45 rfl (sq_ (ma0 [] [] (fun γ1 => [(1, .pointer (some ⟨γ1 0, 0, none⟩))]) (fun γ1 L => bx (γ1 0) (#[.int .i64 now, .slice p n cap]) 24 :: L) (fun γ1 => ds_ (sq_ (sq_ ?_)))))
 by_cases q3 : (now : Int) < (0 : Int)
 ·
  refine qa [(1, .go (owns 0 0 1)), (2, .yes)] [1] [(18, .bool true)] ([(now : Int) < (0 : Int)]) (al1 q3) (ds_ (t_ (sq_ (qa0 [] [] [(2, .bool false)] (ds_ (rt ([]) (.bool false) ?_))))))
  exact fun w' hw => ⟨by rw [bad_now (by omega)], hw.below⟩
 ·
  by_cases q7 : (now : Int) > (1125899906842624 : Int)
  ·
   refine qa [(1, .go (owns 0 0 1)), (2, .no), (5, .go (owns 0 0 1)), (6, .yes)] [1] [(18, .bool true)] ([¬ ((now : Int) < (0 : Int))] ++ ([(now : Int) > (1125899906842624 : Int)])) (alA (al1 q3) (al1 q7)) (ds_ (t_ (sq_ (qa0 [] [] [(2, .bool false)] (ds_ (rt ([]) (.bool false) ?_))))))
   exact fun w' hw => ⟨by rw [bad_now (by omega)], hw.below⟩
  ·
   by_cases q11 : ((n : Nat) : Int) > (32 : Int)
   ·
    refine qa [(1, .go (owns 0 0 1)), (2, .no), (5, .go (owns 0 0 1)), (6, .no), (10, .go (owns 0 1 1)), (12, .yes)] [1] [(18, .bool true)] ([¬ ((now : Int) < (0 : Int))] ++ ([¬ ((now : Int) > (1125899906842624 : Int))] ++ ([((n : Nat) : Int) > (32 : Int)]))) (alA (al1 q3) (alA (al1 q7) (al1 q11))) (ds_ (t_ (sq_ (qa0 [] [] [(2, .bool false)] (ds_ (rt ([]) (.bool false) ?_))))))
    exact fun w' hw => ⟨by rw [bad_len (by omega)], hw.below⟩
   ·
    refine qa [(1, .go (owns 0 0 1)), (2, .no), (5, .go (owns 0 0 1)), (6, .no), (10, .go (owns 0 1 1)), (12, .no)] [1] [(18, .bool false)] ([¬ ((now : Int) < (0 : Int))] ++ ([¬ ((now : Int) > (1125899906842624 : Int))] ++ ([¬ (((n : Nat) : Int) > (32 : Int))]))) (alA (al1 q3) (alA (al1 q7) (al1 q11))) (ds_ (f_ (at_skip (ds_ (sq_ (sq_ (qa0 [] [1] [(3, .int .i64 0)] (ds_ (at_block (at_loop (α := Nat) [1, 3] (fun j => [(1, .pointer (some ⟨γ1 0, 0, none⟩)), (3, .int .i64 ((j : Nat)))]) (fun j => [bx (γ1 0) (#[.int .i64 now, .slice p n cap]) 24]) (fun j => j ≤ n ∧ Ris Tim.id (ts.take j) ∧ ∀ y ∈ ts.take j, 0 ≤ y.id ∧ y.id < 32 ∧ now < y.due ∧ y.due ≤ 1125899906842624) (fun j => n - j) 0 (by kernel_rfl) rfl ⟨Nat.zero_le _, ris_take0T, all_take0T⟩ ?_))))))))))
    rintro j
    rintro ⟨hj, hR, hA⟩
    refine sq_ (sq_ ?_)
    by_cases q17 : ((j : Nat) : Int) < ((n : Nat) : Int)
    ·
     refine qa [(2, .go (owns 0 1 1)), (4, .yes)] [1, 3] [(23, .bool true)] ([((j : Nat) : Int) < ((n : Nat) : Int)]) (al1 q17) (ds_ (t_ (at_skip (ds_ (sq_ (at_block (sq_ ?_)))))))
     obtain ⟨b20, o20, rfl⟩ := hts.pos (i := j) (by omega)
     obtain ⟨x22, hx22⟩ := get_some (l := ts) (m := j) (by omega)
     refine ma [(1, .go (owns 0 1 1)), (3, .at b20 o20 j), (4, .go (outs b20 (o20 + j * 2) [.int .i64 x22.id, .int .i64 x22.due])), (6, .go (owns 0 0 2))] [1, 3] (fun γ23 => [(4, .pointer (some ⟨γ23 0, 0, none⟩))]) (fun γ23 L => bx (γ23 0) (#[.int .i64 x22.id, .int .i64 x22.due]) 42 :: L) (fun γ23 => [(some ⟨b20, o20, none⟩ : Option Addr) = some ⟨b20, o20, none⟩, ((j : Nat)) = ((j : Nat) : Int), j < n] ++ (cellsP w b20 (o20 + j * 2) [.int .i64 x22.id, .int .i64 x22.due])) (fun γ23 => (alA (al2 rfl (al2 rfl (al1 (by omega)))) (rd_pre (hts.get hx22) _ rfl))) (fun γ23 => ds_ (sq_ ?_))
     by_cases q24 : (x22.id : Int) < (0 : Int)
     ·
      refine at_calm rfl (by kernel_rfl) (by kernel_rfl) ?_
      refine cm 14 [(1, .go (owns 0 0 1)), (2, .yes)] [1, 3, 4] [(39, .bool true), (44, undef)] ([(x22.id : Int) < (0 : Int)]) (by kernel_rfl) rfl (al1 q24) ?_
      refine cm 14 [] [1, 3, 4] [(51, .bool true), (54, undef), (56, undef), (58, undef)] ([]) (by kernel_rfl) rfl al0 ?_
      refine cm 8 [] [1, 3] [(66, .bool true)] ([]) (by kernel_rfl) rfl al0 ?_
      refine calm_nil' ?_
      refine ds_ (t_ (sq_ (qa0 [] [] [(2, .bool false)] (ds_ (rt ([]) (.bool false) ?_)))))
      exact fun w' hw => ⟨by rw [bad_tim hx22 (by omega)], hw.below⟩
     ·
      by_cases q29 : (x22.id : Int) > (31 : Int)
      ·
       refine at_calm rfl (by kernel_rfl) (by kernel_rfl) ?_
       refine cm 14 [(1, .go (owns 0 0 1)), (2, .no), (5, .go (owns 0 0 1)), (6, .yes)] [1, 3, 4] [(39, .bool true), (44, undef)] ([¬ ((x22.id : Int) < (0 : Int))] ++ ([(x22.id : Int) > (31 : Int)])) (by kernel_rfl) rfl (alA (al1 q24) (al1 q29)) ?_
       refine cm 14 [] [1, 3, 4] [(51, .bool true), (54, undef), (56, undef), (58, undef)] ([]) (by kernel_rfl) rfl al0 ?_
       refine cm 8 [] [1, 3] [(66, .bool true)] ([]) (by kernel_rfl) rfl al0 ?_
       refine calm_nil' ?_
       refine ds_ (t_ (sq_ (qa0 [] [] [(2, .bool false)] (ds_ (rt ([]) (.bool false) ?_)))))
       exact fun w' hw => ⟨by rw [bad_tim hx22 (by omega)], hw.below⟩
      ·
       by_cases q34 : (x22.due : Int) ≤ (now : Int)
       ·
        refine at_calm rfl (by kernel_rfl) (by kernel_rfl) ?_
        refine cm 14 [(1, .go (owns 0 0 1)), (2, .no), (5, .go (owns 0 0 1)), (6, .no), (10, .go (owns 0 1 1)), (12, .go (owns 1 0 1)), (13, .yes)] [1, 3, 4] [(39, .bool false), (44, .bool true)] ([¬ ((x22.id : Int) < (0 : Int))] ++ ([¬ ((x22.id : Int) > (31 : Int))] ++ ([(x22.due : Int) ≤ (now : Int)]))) (by kernel_rfl) rfl (alA (al1 q24) (alA (al1 q29) (al1 q34))) ?_
        refine cm 14 [] [1, 3, 4] [(51, .bool true), (54, undef), (56, undef), (58, undef)] ([]) (by kernel_rfl) rfl al0 ?_
        refine cm 8 [] [1, 3] [(66, .bool true)] ([]) (by kernel_rfl) rfl al0 ?_
        refine calm_nil' ?_
        refine ds_ (t_ (sq_ (qa0 [] [] [(2, .bool false)] (ds_ (rt ([]) (.bool false) ?_)))))
        exact fun w' hw => ⟨by rw [bad_tim hx22 (by omega)], hw.below⟩
       ·
        by_cases q39 : (x22.due : Int) > (1125899906842624 : Int)
        ·
         refine at_calm rfl (by kernel_rfl) (by kernel_rfl) ?_
         refine cm 14 [(1, .go (owns 0 0 1)), (2, .no), (5, .go (owns 0 0 1)), (6, .no), (10, .go (owns 0 1 1)), (12, .go (owns 1 0 1)), (13, .no)] [1, 3, 4] [(39, .bool false), (44, .bool false)] ([¬ ((x22.id : Int) < (0 : Int))] ++ ([¬ ((x22.id : Int) > (31 : Int))] ++ ([¬ ((x22.due : Int) ≤ (now : Int))]))) (by kernel_rfl) rfl (alA (al1 q24) (alA (al1 q29) (al1 q34))) ?_
         refine cm 14 [(17, .go (owns 0 1 1)), (18, .yes)] [1, 3, 4] [(51, .bool true), (54, undef), (56, undef), (58, undef)] ([(x22.due : Int) > (1125899906842624 : Int)]) (by kernel_rfl) rfl (al1 q39) ?_
         refine cm 8 [] [1, 3] [(66, .bool true)] ([]) (by kernel_rfl) rfl al0 ?_
         refine calm_nil' ?_
         refine ds_ (t_ (sq_ (qa0 [] [] [(2, .bool false)] (ds_ (rt ([]) (.bool false) ?_)))))
         exact fun w' hw => ⟨by rw [bad_tim hx22 (by omega)], hw.below⟩
        ·
         by_cases q44 : ((j : Nat) : Int) > (0 : Int)
         ·
          obtain ⟨x45, hx45⟩ := get_some (l := ts) (m := j - 1) (by omega)
          by_cases q46 : (x45.id : Int) ≥ (x22.id : Int)
          ·
           refine at_calm rfl (by kernel_rfl) (by kernel_rfl) ?_
           refine cm 14 [(1, .go (owns 0 0 1)), (2, .no), (5, .go (owns 0 0 1)), (6, .no), (10, .go (owns 0 1 1)), (12, .go (owns 1 0 1)), (13, .no)] [1, 3, 4] [(39, .bool false), (44, .bool false)] ([¬ ((x22.id : Int) < (0 : Int))] ++ ([¬ ((x22.id : Int) > (31 : Int))] ++ ([¬ ((x22.due : Int) ≤ (now : Int))]))) (by kernel_rfl) rfl (alA (al1 q24) (alA (al1 q29) (al1 q34))) ?_
           refine cm 14 [(17, .go (owns 0 1 1)), (18, .no), (22, .yes), (25, .go (owns 1 1 1)), (27, .fit)] [1, 3, 4] [(51, .bool false), (54, .bool true), (56, .slice (some ⟨b20, o20, none⟩) n cap), (58, .int .i64 (((j : Nat)) - 1))] ([¬ ((x22.due : Int) > (1125899906842624 : Int))] ++ ([((j : Nat) : Int) > (0 : Int)] ++ ([Fit .i64 (((j : Nat)) - 1)]))) (by kernel_rfl) rfl (alA (al1 q39) (alA (al1 q44) (al1 (fit64 (by omega) (by omega))))) ?_
           refine cm 8 [(28, .at b20 o20 (j - 1)), (30, .go (outs b20 (o20 + (j - 1) * 2) [.int .i64 x45.id])), (32, .go (owns 0 0 1)), (33, .yes)] [1, 3] [(66, .bool true)] ([(some ⟨b20, o20, none⟩ : Option Addr) = some ⟨b20, o20, none⟩, (((j : Nat)) - 1) = ((j - 1 : Nat) : Int), j - 1 < n] ++ (cellsP w b20 (o20 + (j - 1) * 2) [.int .i64 x45.id] ++ ([(x45.id : Int) ≥ (x22.id : Int)]))) (by kernel_rfl) rfl (alA (al2 rfl (al2 (by omega) (al1 (by omega)))) (alA (rd_pre (hts.get hx45) _ rfl) (al1 q46))) ?_
           refine calm_nil' ?_
           refine ds_ (t_ (sq_ (qa0 [] [] [(2, .bool false)] (ds_ (rt ([]) (.bool false) ?_)))))
           exact fun w' hw => ⟨by rw [bad_rise hx22 hx45 (by omega) (by omega)], hw.below⟩
          ·
           refine at_calm rfl (by kernel_rfl) (by kernel_rfl) ?_
           refine cm 14 [(1, .go (owns 0 0 1)), (2, .no), (5, .go (owns 0 0 1)), (6, .no), (10, .go (owns 0 1 1)), (12, .go (owns 1 0 1)), (13, .no)] [1, 3, 4] [(39, .bool false), (44, .bool false)] ([¬ ((x22.id : Int) < (0 : Int))] ++ ([¬ ((x22.id : Int) > (31 : Int))] ++ ([¬ ((x22.due : Int) ≤ (now : Int))]))) (by kernel_rfl) rfl (alA (al1 q24) (alA (al1 q29) (al1 q34))) ?_
           refine cm 14 [(17, .go (owns 0 1 1)), (18, .no), (22, .yes), (25, .go (owns 1 1 1)), (27, .fit)] [1, 3, 4] [(51, .bool false), (54, .bool true), (56, .slice (some ⟨b20, o20, none⟩) n cap), (58, .int .i64 (((j : Nat)) - 1))] ([¬ ((x22.due : Int) > (1125899906842624 : Int))] ++ ([((j : Nat) : Int) > (0 : Int)] ++ ([Fit .i64 (((j : Nat)) - 1)]))) (by kernel_rfl) rfl (alA (al1 q39) (alA (al1 q44) (al1 (fit64 (by omega) (by omega))))) ?_
           refine cm 8 [(28, .at b20 o20 (j - 1)), (30, .go (outs b20 (o20 + (j - 1) * 2) [.int .i64 x45.id])), (32, .go (owns 0 0 1)), (33, .no)] [1, 3] [(66, .bool false)] ([(some ⟨b20, o20, none⟩ : Option Addr) = some ⟨b20, o20, none⟩, (((j : Nat)) - 1) = ((j - 1 : Nat) : Int), j - 1 < n] ++ (cellsP w b20 (o20 + (j - 1) * 2) [.int .i64 x45.id] ++ ([¬ ((x45.id : Int) ≥ (x22.id : Int))]))) (by kernel_rfl) rfl (alA (al2 rfl (al2 (by omega) (al1 (by omega)))) (alA (rd_pre (hts.get hx45) _ rfl) (al1 q46))) ?_
           refine calm_nil' ?_
           refine ds_ (f_ (at_skip (done_block (ds_ (qa [(1, .fit)] [1] [(3, .int .i64 ((j + 1 : Nat)))] ([Fit .i64 ((j + 1 : Nat))]) (al1 (fit64 (by omega) (by omega))) (Done.drop (L' := [bx (γ1 0) (#[.int .i64 now, .slice (some ⟨b20, o20, none⟩) n cap]) 24]) ?_ (List.Sublist.cons _ (List.Sublist.cons_cons _ (List.Sublist.refl _)))))))))
           exact dr [1, 3] (j + 1) ⟨by omega, ris_take_onT hR hx22 (.inr ⟨x45, hx45, by omega⟩), all_onT hA hx22 ⟨by omega, by omega, by omega, by omega⟩⟩
         ·
          refine at_calm rfl (by kernel_rfl) (by kernel_rfl) ?_
          refine cm 14 [(1, .go (owns 0 0 1)), (2, .no), (5, .go (owns 0 0 1)), (6, .no), (10, .go (owns 0 1 1)), (12, .go (owns 1 0 1)), (13, .no)] [1, 3, 4] [(39, .bool false), (44, .bool false)] ([¬ ((x22.id : Int) < (0 : Int))] ++ ([¬ ((x22.id : Int) > (31 : Int))] ++ ([¬ ((x22.due : Int) ≤ (now : Int))]))) (by kernel_rfl) rfl (alA (al1 q24) (alA (al1 q29) (al1 q34))) ?_
          refine cm 14 [(17, .go (owns 0 1 1)), (18, .no), (22, .no)] [1, 3, 4] [(51, .bool false), (54, .bool false), (56, undef), (58, undef)] ([¬ ((x22.due : Int) > (1125899906842624 : Int))] ++ ([¬ (((j : Nat) : Int) > (0 : Int))])) (by kernel_rfl) rfl (alA (al1 q39) (al1 q44)) ?_
          refine cm 8 [] [1, 3] [(66, .bool false)] ([]) (by kernel_rfl) rfl al0 ?_
          refine calm_nil' ?_
          refine ds_ (f_ (at_skip (done_block (ds_ (qa [(1, .fit)] [1] [(3, .int .i64 ((j + 1 : Nat)))] ([Fit .i64 ((j + 1 : Nat))]) (al1 (fit64 (by omega) (by omega))) (Done.drop (L' := [bx (γ1 0) (#[.int .i64 now, .slice (some ⟨b20, o20, none⟩) n cap]) 24]) ?_ (List.Sublist.cons _ (List.Sublist.cons_cons _ (List.Sublist.refl _)))))))))
          exact dr [1, 3] (j + 1) ⟨by omega, ris_take_onT hR hx22 (.inl (by omega)), all_onT hA hx22 ⟨by omega, by omega, by omega, by omega⟩⟩
    ·
     refine qa [(2, .go (owns 0 1 1)), (4, .no)] [1, 3] [(23, .bool false)] ([¬ (((j : Nat) : Int) < ((n : Nat) : Int))]) (al1 q17) (ds_ (f_ (at_leave _ rfl (ds_ (sq_ (qa0 [] [] [(2, .bool true)] (ds_ (rt ([]) (.bool true) ?_))))))))
     exact fun w' hw => ⟨by rw [good_tims (by omega) (by omega) hR (by omega) hA], hw.below⟩
end Go.Proofs.YtdbamgbgnpadjaaGreat

/-! Timers: where one is, when it is due, which wheels are the same. -/
namespace Go.Proofs.YtdbamgbgnpadjaaGreat
open Go Go.RowKit
theorem tim_eqRun (op : BinOp) (hop : op = .eql ∨ op = .neq) (x y : Operand) (a b : Tim) (r : Bool) (hr : r = (if op = .eql then decide (a = b) else !decide (a = b))) : EqRun Tryz.prog op 42 x y (.agg #[.int .i64 a.id, .int .i64 a.due]) (.agg #[.int .i64 b.id, .int .i64 b.due]) r := by
 intro w
 subst hr
 have hS : Tryz.prog.underlying 42 = some (.struct (Tryz.prog.fieldsOf 42)) := by kernel_rfl
 have hp : Tryz.prog.stoodInHeld 42 = false := by kernel_rfl
 have hg : Tryz.prog.eqGuardType Tryz.prog.depth 42 = false := by kernel_rfl
 have key : (Op.equal 42 (.agg #[.int .i64 a.id, .int .i64 a.due]) (.agg #[.int .i64 b.id, .int .i64 b.due])).run Tryz.prog w = .ok (decide (a = b)) w := by
  unfold Op.equal
  rw [show Op.maxDepth = 9999 + 1 from rfl, run_equalIn_struct w 9999 42 _ _ hS hp]
  simp only [Program.fieldsOf, Tryz.underlying42]
  go_simp
  obtain ⟨a0, a1⟩ := a
  obtain ⟨b0, b1⟩ := b
  simp only [Tim.mk.injEq]
  by_cases h0 : a0 = b0 <;> by_cases h1 : a1 = b1 <;> simp [h0, h1]
 have guard : (eqGuard op 42 x y (.agg #[.int .i64 a.id, .int .i64 a.due]) (.agg #[.int .i64 b.id, .int .i64 b.due])).run Tryz.prog w = .ok () w := by
  unfold eqGuard
  rcases hop with rfl | rfl <;> simp [hg]
 rw [Sem.run_bind, guard]
 simp only [Result.andThen_ok]
 rcases hop with rfl | rfl <;> simp [binOp, Sem.run_bind, key]
theorem tim_ne_t {x y : Operand} {a b : Tim} (h : a = b) : EqRun Tryz.prog .neq 42 x y (.agg #[.int .i64 a.id, .int .i64 a.due]) (.agg #[.int .i64 b.id, .int .i64 b.due]) false := tim_eqRun _ (.inr rfl) x y a b _ (by simp [h])
theorem tim_ne_f {x y : Operand} {a b : Tim} (h : ¬ a = b) : EqRun Tryz.prog .neq 42 x y (.agg #[.int .i64 a.id, .int .i64 a.due]) (.agg #[.int .i64 b.id, .int .i64 b.due]) true := tim_eqRun _ (.inr rfl) x y a b _ (by simp [h])

set_option maxRecDepth 100000 in
theorem find_t (now : Int) (p : Option Addr) (n cap : Nat) (ts : List Tim) (k : Int) (w : World)
 (hts : Sv w p ts) (hn : n = ts.length) (hb : n ≤ 1000)
 (hgd : wheelB now ts = true)
 : Calls Tryz.prog 69 #[.agg #[.int .i64 now, .slice p n cap], .int .i64 k] w fun e w' => e = .returned (.tuple #[.int .i64 (posK Tim.id ts k : Nat), .bool (hasK Tim.id ts k)]) ∧ Below w.heap.size w w' := by
 refine enter (Hs.start w) Tryz.func69 rfl Tryz.ntmps69 rfl (sq_ (ma0 [] [1] (fun γ1 => [(2, .pointer (some ⟨γ1 0, 0, none⟩))]) (fun γ1 L => bx (γ1 0) (#[.int .i64 now, .slice p n cap]) 24 :: L) (fun γ1 => ds_ (sq_ (ao_ (qo0 3 [(1, .go (owns 0 1 1))] [2] [(10, .slice p n cap), (11, .int .i64 k)] (cD (.tuple #[.int .i64 ((posK Tim.id ts k : Nat)), .bool (hasK Tim.id ts k)]) (fun args w => Tryz.call78 args w) (fun w hw => row_t p n cap ts k w (hts.kept hw.below) hn (by omega) ((wheel_iff.1 hgd).rs)) (qo0 5 [] [2] [(6, .int .i64 ((posK Tim.id ts k : Nat))), (7, .bool (hasK Tim.id ts k))] (on_ (ds_ (sq_ ?_)))))))))))
 rcases q5 : hasK Tim.id ts k with _ | _
 ·
  refine qa0 [] [] [(4, .int .i64 ((posK Tim.id ts k : Nat))), (5, .bool false)] (ds_ (rt ([]) (.tuple #[.int .i64 ((posK Tim.id ts k : Nat)), .bool false]) ?_))
  exact fun w' hw => ⟨rfl, hw.below⟩
 ·
  refine ao_ (qo0 4 [(3, .go (owns 0 0 2))] [] [(15, .int .i64 ((posK Tim.id ts k : Nat))), (17, .bool true), (18, .agg #[.int .i64 now, .slice p n cap])] (cD (.int .i64 0) (fun args w => Tryz.call68 args w) (fun w hw => by have := wcheck_t now p n cap ts w (hts.kept hw.below) hn (by omega); rw [hgd] at this; exact this) (qo0 4 [] [] [(4, .int .i64 ((posK Tim.id ts k : Nat))), (5, .bool true)] (on_ (ds_ (rt ([]) (.tuple #[.int .i64 ((posK Tim.id ts k : Nat)), .bool true]) ?_))))))
  exact fun w' hw => ⟨rfl, hw.below⟩

set_option maxRecDepth 100000 in
theorem findw_t (now : Int) (p : Option Addr) (n cap : Nat) (ts : List Tim) (k : Int) (w : World)
 (hts : Sv w p ts) (hn : n = ts.length) (hb : n ≤ 1000)
 (hgd : wheelB now ts = false)
 : Calls Tryz.prog 69 #[.agg #[.int .i64 now, .slice p n cap], .int .i64 k] w fun e w' => ∃ (i : Nat), e = .returned (.tuple #[.int .i64 (i : Nat), .bool false]) ∧ Below w.heap.size w w' := by
 refine enter (Hs.start w) Tryz.func69 rfl Tryz.ntmps69 rfl (sq_ (ma0 [] [1] (fun γ1 => [(2, .pointer (some ⟨γ1 0, 0, none⟩))]) (fun γ1 L => bx (γ1 0) (#[.int .i64 now, .slice p n cap]) 24 :: L) (fun γ1 => ds_ (sq_ (ao_ (qo0 3 [(1, .go (owns 0 1 1))] [2] [(10, .slice p n cap), (11, .int .i64 k)] (cP (fun v L' => ∃ (i : Nat) (b : Bool), v = .tuple #[.int .i64 (i : Nat), .bool b] ∧ L' = [bx (γ1 0) (#[.int .i64 now, .slice p n cap]) 24]) (fun args w => Tryz.call78 args w) (fun w hw => (roww_t p n cap ts k w (hts.kept hw.below) hn (by omega)).mono (fun e w' ⟨i, b, he, h1, h2, h3⟩ => ⟨_, _, he, ⟨i, b, rfl, rfl⟩, hw.kept h3⟩)) ?_)))))))
 rintro v3 L3 ⟨i3, b3, rfl, rfl⟩
 refine qo0 5 [] [2] [(6, .int .i64 ((i3 : Nat))), (7, .bool b3)] (on_ (ds_ (sq_ ?_)))
 rcases q6 : b3 with _ | _
 ·
  refine qa0 [] [] [(4, .int .i64 ((i3 : Nat))), (5, .bool false)] (ds_ (rt ([]) (.tuple #[.int .i64 ((i3 : Nat)), .bool false]) ?_))
  exact fun w' hw => ⟨_, rfl, hw.below⟩
 ·
  refine ao_ (qo0 4 [(3, .go (owns 0 0 2))] [] [(15, .int .i64 ((i3 : Nat))), (17, .bool true), (18, .agg #[.int .i64 now, .slice p n cap])] (cD (.int .i64 250) (fun args w => Tryz.call68 args w) (fun w hw => by have := wcheck_t now p n cap ts w (hts.kept hw.below) hn (by omega); rw [hgd] at this; exact this) (qo0 4 [] [] [(4, .int .i64 ((i3 : Nat))), (5, .bool false)] (on_ (ds_ (rt ([]) (.tuple #[.int .i64 ((i3 : Nat)), .bool false]) ?_))))))
  exact fun w' hw => ⟨_, rfl, hw.below⟩

set_option maxRecDepth 100000 in
theorem at_t (now : Int) (p : Option Addr) (n cap : Nat) (ts : List Tim) (k : Int) (w : World)
 (hts : Sv w p ts) (hn : n = ts.length) (hb : n ≤ 1000)
 : Calls Tryz.prog 37 #[.agg #[.int .i64 now, .slice p n cap], .int .i64 k] w fun e w' => e = .returned (atV (atO now ts k)) ∧ Below w.heap.size w w' := by
 refine enter (Hs.start w) Tryz.func37 rfl Tryz.ntmps37 rfl (sq_ (ma0 [] [1] (fun γ1 => [(2, .pointer (some ⟨γ1 0, 0, none⟩))]) (fun γ1 L => bx (γ1 0) (#[.int .i64 now, .slice p n cap]) 24 :: L) (fun γ1 => ds_ (sq_ (ao_ (qo0 2 [(0, .go (owns 0 0 2))] [2] [(9, .agg #[.int .i64 now, .slice p n cap]), (10, .int .i64 k)] ?_))))))
 rcases q3 : wheelB now ts with _ | _
 ·
  refine cP (fun v L' => ∃ (i : Nat), v = .tuple #[.int .i64 (i : Nat), .bool false] ∧ L' = [bx (γ1 0) (#[.int .i64 now, .slice p n cap]) 24]) (fun args w => Tryz.call69 args w) (fun w hw => (findw_t now p n cap ts k w (hts.kept hw.below) hn (by omega) q3).mono (fun e w' ⟨i, he, h3⟩ => ⟨_, _, he, ⟨i, rfl, rfl⟩, hw.kept h3⟩)) ?_
  rintro v4 L4 ⟨i4, rfl, rfl⟩
  refine qo0 5 [] [2] [(6, .int .i64 ((i4 : Nat))), (7, .bool false)] (on_ (ds_ (sq_ (sq_ (qa0 [] [2, 6] [(15, .bool true)] (ds_ (t_ (sq_ (qa0 [] [] [(4, .int .i64 0), (5, .bool false)] (ds_ (rt ([]) (.tuple #[.int .i64 0, .bool false]) ?_)))))))))))
  exact fun w' hw => ⟨by rw [atO_bad q3]; rfl, hw.below⟩
 ·
  rcases hg8 : getK Tim.id ts k with _ | y8
  ·
   have hpl8 := (pos_cut (k := k) (wheel_iff.1 q3).rs).2.2
   refine cD (.tuple #[.int .i64 ((posK Tim.id ts k : Nat)), .bool false]) (fun args w => Tryz.call69 args w) (fun w hw => by have := find_t now p n cap ts k w (hts.kept hw.below) hn (by omega) q3; rw [hasK_none hg8] at this; exact this) (qo0 5 [] [2] [(6, .int .i64 ((posK Tim.id ts k : Nat))), (7, .bool false)] (on_ (ds_ (sq_ (sq_ (qa0 [] [2, 6] [(15, .bool true)] (ds_ (t_ (sq_ (qa0 [] [] [(4, .int .i64 0), (5, .bool false)] (ds_ (rt ([]) (.tuple #[.int .i64 0, .bool false]) ?_))))))))))))
   exact fun w' hw => ⟨by rw [atO_ok q3, hg8]; rfl, hw.below⟩
  ·
   have hp_y8 := pos_getK (wheel_iff.1 q3).rs hg8
   have hl_y8 := (List.getElem?_eq_some_iff.1 hp_y8).1
   refine cD (.tuple #[.int .i64 ((posK Tim.id ts k : Nat)), .bool true]) (fun args w => Tryz.call69 args w) (fun w hw => by have := find_t now p n cap ts k w (hts.kept hw.below) hn (by omega) q3; rw [hasK_some hg8] at this; exact this) (qo0 5 [] [2] [(6, .int .i64 ((posK Tim.id ts k : Nat))), (7, .bool true)] (on_ (ds_ (sq_ (sq_ (qa0 [] [2, 6] [(15, .bool false)] (ds_ (f_ (at_skip (ds_ (sq_ ?_)))))))))))
   obtain ⟨b15, o15, rfl⟩ := hts.pos (i := posK Tim.id ts k) (by omega)
   refine qa [(1, .go (owns 0 1 1)), (3, .at b15 o15 (posK Tim.id ts k)), (5, .go (outs b15 (o15 + (posK Tim.id ts k) * 2 + 1) [.int .i64 y8.due]))] [] [(4, .int .i64 y8.due), (5, .bool true)] ([(some ⟨b15, o15, none⟩ : Option Addr) = some ⟨b15, o15, none⟩, ((posK Tim.id ts k : Nat)) = ((posK Tim.id ts k : Nat) : Int), posK Tim.id ts k < n] ++ (cellsP w b15 (o15 + (posK Tim.id ts k) * 2 + 1) [.int .i64 y8.due])) (alA (al2 rfl (al2 rfl (al1 (by omega)))) (rd_part (hts.get hp_y8) 1 _ rfl)) (ds_ (rt ([]) (.tuple #[.int .i64 y8.due, .bool true]) ?_))
   exact fun w' hw => ⟨by rw [atO_ok q3, hg8]; rfl, hw.below⟩

set_option maxRecDepth 100000 in
theorem stimers_t (p : Option Addr) (n cap : Nat) (ts : List Tim) (p2 : Option Addr) (n2 cap2 : Nat) (ts2 : List Tim) (w : World)
 (hts : Sv w p ts) (hn : n = ts.length) (hb : n ≤ 1000)
 (hts2 : Sv w p2 ts2) (hn2 : n2 = ts2.length) (hb2 : n2 ≤ 1000)
 : Calls Tryz.prog 55 #[.slice p n cap, .slice p2 n2 cap2] w fun e w' => e = .returned (.bool (decide (ts = ts2))) ∧ Below w.heap.size w w' := by
 refine enter (Hs.start w) Tryz.func55 rfl Tryz.ntmps55 rfl (sq_ (qa0 [] [0, 1] [] (ds_ (sq_ (sq_ ?_)))))
 by_cases q3 : ((n : Nat) : Int) ≠ ((n2 : Nat) : Int)
 ·
  refine qa [(4, .yes)] [0, 1] [(10, .bool true)] ([((n : Nat) : Int) ≠ ((n2 : Nat) : Int)]) (al1 q3) (ds_ (t_ (sq_ (qa0 [] [] [(4, .bool false)] (ds_ (rt ([]) (.bool false) ?_))))))
  exact fun w' hw => ⟨by rw [dsame_len (l := ts) (l2 := ts2) (by omega)], hw.below⟩
 ·
  refine qa [(4, .no)] [0, 1] [(10, .bool false)] ([¬ (((n : Nat) : Int) ≠ ((n2 : Nat) : Int))]) (al1 q3) (ds_ (f_ (at_skip (ds_ (sq_ (sq_ (qa0 [] [0, 1] [(5, .int .i64 0)] (ds_ (at_block (at_loop (α := Nat) [0, 1, 5] (fun j => [(0, .slice p n cap), (1, .slice p2 n2 cap2), (5, .int .i64 ((j : Nat)))]) (fun j => []) (fun j => j ≤ n ∧ ts.take j = ts2.take j) (fun j => n - j) 0 (by kernel_rfl) rfl ⟨Nat.zero_le _, rfl⟩ ?_))))))))))
  rintro j
  rintro ⟨hj, hIj⟩
  refine sq_ (sq_ ?_)
  by_cases q9 : ((j : Nat) : Int) < ((n : Nat) : Int)
  ·
   refine qa [(3, .yes)] [0, 1, 5] [(14, .bool true)] ([((j : Nat) : Int) < ((n : Nat) : Int)]) (al1 q9) (ds_ (t_ (at_skip (ds_ (sq_ (at_block (sq_ ?_)))))))
   obtain ⟨b12, o12, rfl⟩ := hts.pos (i := j) (by omega)
   obtain ⟨x14, hx14⟩ := get_some (l := ts) (m := j) (by omega)
   obtain ⟨b16, o16, rfl⟩ := hts2.pos (i := j) (by omega)
   obtain ⟨x18, hx18⟩ := get_some (l := ts2) (m := j) (by omega)
   by_cases q20 : x14 = x18
   ·
    refine cq [(2, .at b12 o12 j), (3, .go (outs b12 (o12 + j * 2) [.int .i64 x14.id, .int .i64 x14.due])), (6, .at b16 o16 j), (7, .go (outs b16 (o16 + j * 2) [.int .i64 x18.id, .int .i64 x18.due])), (8, .eqs false)] [0, 1, 5] [(25, .bool false)] ([(some ⟨b12, o12, none⟩ : Option Addr) = some ⟨b12, o12, none⟩, ((j : Nat)) = ((j : Nat) : Int), j < n] ++ (cellsP w b12 (o12 + j * 2) [.int .i64 x14.id, .int .i64 x14.due] ++ ([(some ⟨b16, o16, none⟩ : Option Addr) = some ⟨b16, o16, none⟩, ((j : Nat)) = ((j : Nat) : Int), j < n2] ++ (cellsP w b16 (o16 + j * 2) [.int .i64 x18.id, .int .i64 x18.due] ++ ([EqRun Tryz.prog .neq 42 (.tmp 20) (.tmp 24) (.agg #[.int .i64 x14.id, .int .i64 x14.due]) (.agg #[.int .i64 x18.id, .int .i64 x18.due]) false]))))) rfl (by kernel_rfl) (by kernel_rfl) (by kernel_rfl) (alA (al2 rfl (al2 rfl (al1 (by omega)))) (alA (rd_pre (hts.get hx14) _ rfl) (alA (al2 rfl (al2 rfl (al1 (by omega)))) (alA (rd_pre (hts2.get hx18) _ rfl) (al1 (tim_ne_t (a := x14) (b := x18) q20)))))) (ds_ (f_ (at_skip (done_block (ds_ (qa [(1, .fit)] [0, 1] [(5, .int .i64 ((j + 1 : Nat)))] ([Fit .i64 ((j + 1 : Nat))]) (al1 (fit64 (by omega) (by omega))) ?_))))))
    exact dr [0, 1, 5] (j + 1) ⟨by omega, dsame_on hIj hx14 hx18 (by first | assumption | omega)⟩
   ·
    refine cq [(2, .at b12 o12 j), (3, .go (outs b12 (o12 + j * 2) [.int .i64 x14.id, .int .i64 x14.due])), (6, .at b16 o16 j), (7, .go (outs b16 (o16 + j * 2) [.int .i64 x18.id, .int .i64 x18.due])), (8, .eqs true)] [0, 1, 5] [(25, .bool true)] ([(some ⟨b12, o12, none⟩ : Option Addr) = some ⟨b12, o12, none⟩, ((j : Nat)) = ((j : Nat) : Int), j < n] ++ (cellsP w b12 (o12 + j * 2) [.int .i64 x14.id, .int .i64 x14.due] ++ ([(some ⟨b16, o16, none⟩ : Option Addr) = some ⟨b16, o16, none⟩, ((j : Nat)) = ((j : Nat) : Int), j < n2] ++ (cellsP w b16 (o16 + j * 2) [.int .i64 x18.id, .int .i64 x18.due] ++ ([EqRun Tryz.prog .neq 42 (.tmp 20) (.tmp 24) (.agg #[.int .i64 x14.id, .int .i64 x14.due]) (.agg #[.int .i64 x18.id, .int .i64 x18.due]) true]))))) rfl (by kernel_rfl) (by kernel_rfl) (by kernel_rfl) (alA (al2 rfl (al2 rfl (al1 (by omega)))) (alA (rd_pre (hts.get hx14) _ rfl) (alA (al2 rfl (al2 rfl (al1 (by omega)))) (alA (rd_pre (hts2.get hx18) _ rfl) (al1 (tim_ne_f (a := x14) (b := x18) q20)))))) (ds_ (t_ (sq_ (qa0 [] [] [(4, .bool false)] (ds_ (rt ([]) (.bool false) ?_))))))
    exact fun w' hw => ⟨by rw [dsame_no hx14 hx18 (by assumption)], hw.below⟩
  ·
   refine qa [(3, .no)] [0, 1, 5] [(14, .bool false)] ([¬ (((j : Nat) : Int) < ((n : Nat) : Int))]) (al1 q9) (ds_ (f_ (at_leave _ rfl (ds_ (sq_ (qa0 [] [] [(4, .bool true)] (ds_ (rt ([]) (.bool true) ?_))))))))
   exact fun w' hw => ⟨by rw [dsame_yes hIj (by omega) (by omega)], hw.below⟩

set_option maxRecDepth 100000 in
theorem rsame_t (now : Int) (p : Option Addr) (n cap : Nat) (ts : List Tim) (now2 : Int) (p2 : Option Addr) (n2 cap2 : Nat) (ts2 : List Tim) (w : World)
 (hts : Sv w p ts) (hn : n = ts.length) (hb : n ≤ 1000)
 (hts2 : Sv w p2 ts2) (hn2 : n2 = ts2.length) (hb2 : n2 ≤ 1000)
 : Calls Tryz.prog 24 #[.agg #[.int .i64 now, .slice p n cap], .agg #[.int .i64 now2, .slice p2 n2 cap2]] w fun e w' => e = .returned (.bool (sameW now ts now2 ts2)) ∧ Below w.heap.size w w' := by
 refine enter (Hs.start w) Tryz.func24 rfl Tryz.ntmps24 rfl (sq_ (ma0 [] [] (fun γ1 => [(2, .pointer (some ⟨γ1 0, 0, none⟩)), (3, .pointer (some ⟨γ1 1, 0, none⟩))]) (fun γ1 L => bx (γ1 1) (#[.int .i64 now2, .slice p2 n2 cap2]) 24 :: bx (γ1 0) (#[.int .i64 now, .slice p n cap]) 24 :: L) (fun γ1 => ds_ (sq_ ?_))))
 by_cases q3 : (now : Int) = (now2 : Int)
 ·
  refine ao_ (qo 10 [(1, .go (owns 1 0 1)), (3, .go (owns 0 0 1)), (4, .yes), (7, .go (owns 1 1 1)), (9, .go (owns 0 1 1))] [] [(10, .bool true), (12, .slice p n cap), (14, .slice p2 n2 cap2)] ([(now : Int) = (now2 : Int)]) (al1 q3) (cD (.bool (decide (ts = ts2))) (fun args w => Tryz.call55 args w) (fun w hw => by have := stimers_t p n cap ts p2 n2 cap2 ts2 w (hts.kept hw.below) hn (by omega) (hts2.kept hw.below) hn2 (by omega); exact this) (qo0 2 [] [] [(4, .bool (decide (ts = ts2)))] (on_ (ds_ (rt ([]) (.bool (decide (ts = ts2))) ?_))))))
  exact fun w' hw => ⟨by rw [sameW_now q3], hw.below⟩
 ·
  refine qa [(1, .go (owns 1 0 1)), (3, .go (owns 0 0 1)), (4, .no)] [] [(4, .bool false)] ([¬ ((now : Int) = (now2 : Int))]) (al1 q3) (ds_ (rt ([]) (.bool false) ?_))
  exact fun w' hw => ⟨by rw [sameW_no q3], hw.below⟩

set_option maxRecDepth 100000 in
theorem rat_t (now : Int) (p : Option Addr) (n cap : Nat) (ts : List Tim) (k : Int) (w : World)
 (hts : Sv w p ts) (hn : n = ts.length) (hb : n ≤ 1000)
 : Calls Tryz.prog 46 #[.agg #[.int .i64 now, .slice p n cap], .int .i64 k] w fun e w' => e = .returned (.int .i64 (atR ts k)) ∧ Below w.heap.size w w' := by
 refine enter (Hs.start w) Tryz.func46 rfl Tryz.ntmps46 rfl (sq_ (ma0 [] [1] (fun γ1 => [(2, .pointer (some ⟨γ1 0, 0, none⟩))]) (fun γ1 L => bx (γ1 0) (#[.int .i64 now, .slice p n cap]) 24 :: L) (fun γ1 => ds_ (sq_ (sq_ (qa0 [] [1, 2] [(5, .int .i64 0)] (ds_ (at_block (at_loop (α := Nat) [1, 2, 5] (fun j => [(1, .int .i64 k), (2, .pointer (some ⟨γ1 0, 0, none⟩)), (5, .int .i64 ((j : Nat)))]) (fun j => [bx (γ1 0) (#[.int .i64 now, .slice p n cap]) 24]) (fun j => j ≤ n ∧ getK Tim.id (ts.drop j) k = getK Tim.id ts k) (fun j => n - j) 0 (by kernel_rfl) rfl ⟨Nat.zero_le _, by rw [List.drop_zero]⟩ ?_)))))))))
 rintro j
 rintro ⟨hj, hI⟩
 refine sq_ (sq_ ?_)
 by_cases q4 : ((j : Nat) : Int) < ((n : Nat) : Int)
 ·
  refine qa [(2, .go (owns 0 1 1)), (4, .yes)] [1, 2, 5] [(10, .bool true)] ([((j : Nat) : Int) < ((n : Nat) : Int)]) (al1 q4) (ds_ (t_ (at_skip (ds_ (sq_ (at_block (sq_ ?_)))))))
  obtain ⟨b7, o7, rfl⟩ := hts.pos (i := j) (by omega)
  obtain ⟨x9, hx9⟩ := get_some (l := ts) (m := j) (by omega)
  by_cases q11 : (x9.id : Int) = (k : Int)
  ·
   refine qa [(1, .go (owns 0 1 1)), (3, .at b7 o7 j), (5, .go (outs b7 (o7 + j * 2) [.int .i64 x9.id])), (7, .yes)] [1, 2, 5] [(20, .bool true)] ([(some ⟨b7, o7, none⟩ : Option Addr) = some ⟨b7, o7, none⟩, ((j : Nat)) = ((j : Nat) : Int), j < n] ++ (cellsP w b7 (o7 + j * 2) [.int .i64 x9.id] ++ ([(x9.id : Int) = (k : Int)]))) (alA (al2 rfl (al2 rfl (al1 (by omega)))) (alA (rd_pre (hts.get hx9) _ rfl) (al1 q11))) (ds_ (t_ (sq_ (qa [(1, .go (owns 0 1 1)), (3, .at b7 o7 j), (5, .go (outs b7 (o7 + j * 2 + 1) [.int .i64 x9.due]))] [] [(4, .int .i64 x9.due)] ([(some ⟨b7, o7, none⟩ : Option Addr) = some ⟨b7, o7, none⟩, ((j : Nat)) = ((j : Nat) : Int), j < n] ++ (cellsP w b7 (o7 + j * 2 + 1) [.int .i64 x9.due])) (alA (al2 rfl (al2 rfl (al1 (by omega)))) (rd_part (hts.get hx9) 1 _ rfl)) (ds_ (rt ([]) (.int .i64 x9.due) ?_))))))
   exact fun w' hw => ⟨by rw [atR, getK_at hI hx9 (by omega)], hw.below⟩
  ·
   refine qa [(1, .go (owns 0 1 1)), (3, .at b7 o7 j), (5, .go (outs b7 (o7 + j * 2) [.int .i64 x9.id])), (7, .no)] [1, 2, 5] [(20, .bool false)] ([(some ⟨b7, o7, none⟩ : Option Addr) = some ⟨b7, o7, none⟩, ((j : Nat)) = ((j : Nat) : Int), j < n] ++ (cellsP w b7 (o7 + j * 2) [.int .i64 x9.id] ++ ([¬ ((x9.id : Int) = (k : Int))]))) (alA (al2 rfl (al2 rfl (al1 (by omega)))) (alA (rd_pre (hts.get hx9) _ rfl) (al1 q11))) (ds_ (f_ (at_skip (done_block (ds_ (qa [(1, .fit)] [1, 2] [(5, .int .i64 ((j + 1 : Nat)))] ([Fit .i64 ((j + 1 : Nat))]) (al1 (fit64 (by omega) (by omega))) ?_))))))
   exact dr [1, 2, 5] (j + 1) ⟨by omega, getK_on hI hx9 (by omega)⟩
 ·
  refine qa [(2, .go (owns 0 1 1)), (4, .no)] [1, 2, 5] [(10, .bool false)] ([¬ (((j : Nat) : Int) < ((n : Nat) : Int))]) (al1 q4) (ds_ (f_ (at_leave _ rfl (ds_ (sq_ (qa0 [] [] [(4, .int .i64 0)] (ds_ (rt ([]) (.int .i64 0) ?_))))))))
  exact fun w' hw => ⟨by rw [atR, getK_end hI (by omega)], hw.below⟩
end Go.Proofs.YtdbamgbgnpadjaaGreat

/-! Alarms: the small ones. -/
namespace Go.Proofs.YtdbamgbgnpadjaaGreat
open Go Go.RowKit

set_option maxRecDepth 100000 in
theorem vc_t (k : Int) (w : World)
 : Calls Tryz.prog 56 #[.int .i64 k] w fun e w' => e = .returned (.bool (vcB k)) ∧ Below w.heap.size w w' := by
 refine enter (Hs.start w) Tryz.func56 rfl Tryz.ntmps56 rfl (sq_ (qa0 [] [0] [] (ds_ (sq_ ?_))))
 by_cases q3 : (k : Int) ≥ (1 : Int)
 ·
  by_cases q5 : (k : Int) ≤ (16 : Int)
  ·
   refine qa [(1, .yes), (4, .yes)] [] [(2, .bool true)] ([(k : Int) ≥ (1 : Int)] ++ ([(k : Int) ≤ (16 : Int)])) (alA (al1 q3) (al1 q5)) (ds_ (rt ([]) (.bool true) ?_))
   exact fun w' hw => ⟨by rw [show vcB k = true from by simp only [vcB, decide_eq_true_eq]; omega], hw.below⟩
  ·
   refine qa [(1, .yes), (4, .no)] [] [(2, .bool false)] ([(k : Int) ≥ (1 : Int)] ++ ([¬ ((k : Int) ≤ (16 : Int))])) (alA (al1 q3) (al1 q5)) (ds_ (rt ([]) (.bool false) ?_))
   exact fun w' hw => ⟨by rw [show vcB k = false from by simp only [vcB, decide_eq_false_iff_not]; omega], hw.below⟩
 ·
  refine qa [(1, .no)] [] [(2, .bool false)] ([¬ ((k : Int) ≥ (1 : Int))]) (al1 q3) (ds_ (rt ([]) (.bool false) ?_))
  exact fun w' hw => ⟨by rw [show vcB k = false from by simp only [vcB, decide_eq_false_iff_not]; omega], hw.below⟩

set_option maxRecDepth 100000 in
theorem rvc_t (k : Int) (w : World)
 : Calls Tryz.prog 50 #[.int .i64 k] w fun e w' => e = .returned (.bool (vcB k)) ∧ Below w.heap.size w w' := by
 refine enter (Hs.start w) Tryz.func50 rfl Tryz.ntmps50 rfl (sq_ (qa0 [] [0] [] (ds_ (sq_ ?_))))
 by_cases q3 : (k : Int) ≥ (1 : Int)
 ·
  by_cases q5 : (k : Int) ≤ (16 : Int)
  ·
   refine qa [(1, .yes), (4, .yes)] [] [(2, .bool true)] ([(k : Int) ≥ (1 : Int)] ++ ([(k : Int) ≤ (16 : Int)])) (alA (al1 q3) (al1 q5)) (ds_ (rt ([]) (.bool true) ?_))
   exact fun w' hw => ⟨by rw [show vcB k = true from by simp only [vcB, decide_eq_true_eq]; omega], hw.below⟩
  ·
   refine qa [(1, .yes), (4, .no)] [] [(2, .bool false)] ([(k : Int) ≥ (1 : Int)] ++ ([¬ ((k : Int) ≤ (16 : Int))])) (alA (al1 q3) (al1 q5)) (ds_ (rt ([]) (.bool false) ?_))
   exact fun w' hw => ⟨by rw [show vcB k = false from by simp only [vcB, decide_eq_false_iff_not]; omega], hw.below⟩
 ·
  refine qa [(1, .no)] [] [(2, .bool false)] ([¬ ((k : Int) ≥ (1 : Int))]) (al1 q3) (ds_ (rt ([]) (.bool false) ?_))
  exact fun w' hw => ⟨by rw [show vcB k = false from by simp only [vcB, decide_eq_false_iff_not]; omega], hw.below⟩

set_option maxRecDepth 100000 in
theorem alarmed_t (k : Int) (w : World)
 (h1 : -1000 ≤ k) (h2 : k ≤ 1000)
 : Calls Tryz.prog 29 #[.int .i64 k] w fun e w' => e = .returned (.int .i64 (k - 1)) ∧ Below w.heap.size w w' := by
 refine enter (Hs.start w) Tryz.func29 rfl Tryz.ntmps29 rfl (sq_ (qa0 [] [0] [] (ds_ (sq_ (qa [(1, .fit)] [] [(2, .int .i64 (k - 1))] ([Fit .i64 (k - 1)]) (al1 (fit64 (by omega) (by omega))) (ds_ (rt ([]) (.int .i64 (k - 1)) ?_)))))))
 exact fun w' hw => ⟨rfl, hw.below⟩

set_option maxRecDepth 100000 in
theorem asleep_t (k : Int) (w : World)
 (h1 : -1000 ≤ k) (h2 : k ≤ 1000)
 : Calls Tryz.prog 42 #[.int .i64 k] w fun e w' => e = .returned (.int .i64 (15 + k)) ∧ Below w.heap.size w w' := by
 refine enter (Hs.start w) Tryz.func42 rfl Tryz.ntmps42 rfl (sq_ (qa0 [] [0] [] (ds_ (sq_ (qa [(1, .fit), (2, .fit)] [] [(2, .int .i64 ((16 + k) - 1))] ([Fit .i64 (16 + k)] ++ ([Fit .i64 ((16 + k) - 1)])) (alA (al1 (fit64 (by omega) (by omega))) (al1 (fit64 (by omega) (by omega)))) (ds_ (rt ([]) (.int .i64 ((16 + k) - 1)) ?_)))))))
 exact fun w' hw => ⟨by rw [show 15 + k = 16 + k - 1 from by omega], hw.below⟩

set_option maxRecDepth 100000 in
theorem alm_t (x : Alm) (w : World)
 : Calls Tryz.prog 27 #[.agg #[.int .i64 x.vcpu, .int .i64 x.port, .int .i64 x.every]] w fun e w' => e = .returned (.bool (almB x)) ∧ Below w.heap.size w w' := by
 refine enter (Hs.start w) Tryz.func27 rfl Tryz.ntmps27 rfl (sq_ (ma0 [] [] (fun γ1 => [(1, .pointer (some ⟨γ1 0, 0, none⟩))]) (fun γ1 L => bx (γ1 0) (#[.int .i64 x.vcpu, .int .i64 x.port, .int .i64 x.every]) 32 :: L) (fun γ1 => ds_ (sq_ ?_))))
 by_cases q3 : (x.every : Int) = (0 : Int)
 ·
  refine qa [(1, .go (owns 0 2 1)), (2, .yes)] [1] [(3, .bool true)] ([(x.every : Int) = (0 : Int)]) (al1 q3) (ds_ (sq_ (ao_ (qo0 2 [(1, .go (owns 0 0 1))] [1, 3] [(18, .int .i64 x.vcpu)] ?_))))
  rcases q6 : vcB x.vcpu with _ | _
  ·
   refine cD (.bool false) (fun args w => Tryz.call56 args w) (fun w hw => by have := vc_t x.vcpu w; rw [q6] at this; exact this) (qo0 14 [] [] [(2, .bool false)] (on_ (ds_ (rt ([]) (.bool false) ?_))))
   have hv := of_decide_eq_false q6
   exact fun w' hw => ⟨by rw [show almB x = false from by simp only [almB, decide_eq_false_iff_not]; omega], hw.below⟩
  ·
   refine cD (.bool true) (fun args w => Tryz.call56 args w) (fun w hw => by have := vc_t x.vcpu w; rw [q6] at this; exact this) ?_
   by_cases q9 : (x.port : Int) ≥ (1 : Int)
   ·
    by_cases q11 : (x.port : Int) ≤ (32 : Int)
    ·
     refine qo 14 [(5, .go (owns 0 1 1)), (6, .yes), (10, .go (owns 0 1 1)), (11, .yes)] [] [(2, .bool true)] ([(x.port : Int) ≥ (1 : Int)] ++ ([(x.port : Int) ≤ (32 : Int)])) (alA (al1 q9) (al1 q11)) (on_ (ds_ (rt ([]) (.bool true) ?_)))
     have hv := of_decide_eq_true q6
     exact fun w' hw => ⟨by rw [show almB x = true from by simp only [almB, decide_eq_true_eq]; omega], hw.below⟩
    ·
     refine qo 14 [(5, .go (owns 0 1 1)), (6, .yes), (10, .go (owns 0 1 1)), (11, .no)] [] [(2, .bool false)] ([(x.port : Int) ≥ (1 : Int)] ++ ([¬ ((x.port : Int) ≤ (32 : Int))])) (alA (al1 q9) (al1 q11)) (on_ (ds_ (rt ([]) (.bool false) ?_)))
     have hv := of_decide_eq_true q6
     exact fun w' hw => ⟨by rw [show almB x = false from by simp only [almB, decide_eq_false_iff_not]; omega], hw.below⟩
   ·
    refine qo 14 [(5, .go (owns 0 1 1)), (6, .no)] [] [(2, .bool false)] ([¬ ((x.port : Int) ≥ (1 : Int))]) (al1 q9) (on_ (ds_ (rt ([]) (.bool false) ?_)))
    have hv := of_decide_eq_true q6
    exact fun w' hw => ⟨by rw [show almB x = false from by simp only [almB, decide_eq_false_iff_not]; omega], hw.below⟩
 ·
  by_cases q16 : (x.every : Int) ≥ (1000 : Int)
  ·
   by_cases q18 : (x.every : Int) ≤ (1125899906842624 : Int)
   ·
    refine qa [(1, .go (owns 0 2 1)), (2, .no), (5, .go (owns 0 2 1)), (6, .yes), (9, .go (owns 0 2 1)), (10, .yes)] [1] [(3, .bool true)] ([¬ ((x.every : Int) = (0 : Int))] ++ ([(x.every : Int) ≥ (1000 : Int)] ++ ([(x.every : Int) ≤ (1125899906842624 : Int)]))) (alA (al1 q3) (alA (al1 q16) (al1 q18))) (ds_ (sq_ (ao_ (qo0 2 [(1, .go (owns 0 0 1))] [1, 3] [(18, .int .i64 x.vcpu)] ?_))))
    rcases q21 : vcB x.vcpu with _ | _
    ·
     refine cD (.bool false) (fun args w => Tryz.call56 args w) (fun w hw => by have := vc_t x.vcpu w; rw [q21] at this; exact this) (qo0 14 [] [] [(2, .bool false)] (on_ (ds_ (rt ([]) (.bool false) ?_))))
     have hv := of_decide_eq_false q21
     exact fun w' hw => ⟨by rw [show almB x = false from by simp only [almB, decide_eq_false_iff_not]; omega], hw.below⟩
    ·
     refine cD (.bool true) (fun args w => Tryz.call56 args w) (fun w hw => by have := vc_t x.vcpu w; rw [q21] at this; exact this) ?_
     by_cases q24 : (x.port : Int) ≥ (1 : Int)
     ·
      by_cases q26 : (x.port : Int) ≤ (32 : Int)
      ·
       refine qo 14 [(5, .go (owns 0 1 1)), (6, .yes), (10, .go (owns 0 1 1)), (11, .yes)] [] [(2, .bool true)] ([(x.port : Int) ≥ (1 : Int)] ++ ([(x.port : Int) ≤ (32 : Int)])) (alA (al1 q24) (al1 q26)) (on_ (ds_ (rt ([]) (.bool true) ?_)))
       have hv := of_decide_eq_true q21
       exact fun w' hw => ⟨by rw [show almB x = true from by simp only [almB, decide_eq_true_eq]; omega], hw.below⟩
      ·
       refine qo 14 [(5, .go (owns 0 1 1)), (6, .yes), (10, .go (owns 0 1 1)), (11, .no)] [] [(2, .bool false)] ([(x.port : Int) ≥ (1 : Int)] ++ ([¬ ((x.port : Int) ≤ (32 : Int))])) (alA (al1 q24) (al1 q26)) (on_ (ds_ (rt ([]) (.bool false) ?_)))
       have hv := of_decide_eq_true q21
       exact fun w' hw => ⟨by rw [show almB x = false from by simp only [almB, decide_eq_false_iff_not]; omega], hw.below⟩
     ·
      refine qo 14 [(5, .go (owns 0 1 1)), (6, .no)] [] [(2, .bool false)] ([¬ ((x.port : Int) ≥ (1 : Int))]) (al1 q24) (on_ (ds_ (rt ([]) (.bool false) ?_)))
      have hv := of_decide_eq_true q21
      exact fun w' hw => ⟨by rw [show almB x = false from by simp only [almB, decide_eq_false_iff_not]; omega], hw.below⟩
   ·
    refine qa [(1, .go (owns 0 2 1)), (2, .no), (5, .go (owns 0 2 1)), (6, .yes), (9, .go (owns 0 2 1)), (10, .no)] [1] [(3, .bool false)] ([¬ ((x.every : Int) = (0 : Int))] ++ ([(x.every : Int) ≥ (1000 : Int)] ++ ([¬ ((x.every : Int) ≤ (1125899906842624 : Int))]))) (alA (al1 q3) (alA (al1 q16) (al1 q18))) (ds_ (sq_ (ao_ (qo0 2 [(1, .go (owns 0 0 1))] [1, 3] [(18, .int .i64 x.vcpu)] ?_))))
    rcases q32 : vcB x.vcpu with _ | _
    ·
     refine cD (.bool false) (fun args w => Tryz.call56 args w) (fun w hw => by have := vc_t x.vcpu w; rw [q32] at this; exact this) (qo0 14 [] [] [(2, .bool false)] (on_ (ds_ (rt ([]) (.bool false) ?_))))
     have hv := of_decide_eq_false q32
     exact fun w' hw => ⟨by rw [show almB x = false from by simp only [almB, decide_eq_false_iff_not]; omega], hw.below⟩
    ·
     refine cD (.bool true) (fun args w => Tryz.call56 args w) (fun w hw => by have := vc_t x.vcpu w; rw [q32] at this; exact this) ?_
     by_cases q35 : (x.port : Int) ≥ (1 : Int)
     ·
      by_cases q37 : (x.port : Int) ≤ (32 : Int)
      ·
       refine qo 14 [(5, .go (owns 0 1 1)), (6, .yes), (10, .go (owns 0 1 1)), (11, .yes)] [] [(2, .bool false)] ([(x.port : Int) ≥ (1 : Int)] ++ ([(x.port : Int) ≤ (32 : Int)])) (alA (al1 q35) (al1 q37)) (on_ (ds_ (rt ([]) (.bool false) ?_)))
       have hv := of_decide_eq_true q32
       exact fun w' hw => ⟨by rw [show almB x = false from by simp only [almB, decide_eq_false_iff_not]; omega], hw.below⟩
      ·
       refine qo 14 [(5, .go (owns 0 1 1)), (6, .yes), (10, .go (owns 0 1 1)), (11, .no)] [] [(2, .bool false)] ([(x.port : Int) ≥ (1 : Int)] ++ ([¬ ((x.port : Int) ≤ (32 : Int))])) (alA (al1 q35) (al1 q37)) (on_ (ds_ (rt ([]) (.bool false) ?_)))
       have hv := of_decide_eq_true q32
       exact fun w' hw => ⟨by rw [show almB x = false from by simp only [almB, decide_eq_false_iff_not]; omega], hw.below⟩
     ·
      refine qo 14 [(5, .go (owns 0 1 1)), (6, .no)] [] [(2, .bool false)] ([¬ ((x.port : Int) ≥ (1 : Int))]) (al1 q35) (on_ (ds_ (rt ([]) (.bool false) ?_)))
      have hv := of_decide_eq_true q32
      exact fun w' hw => ⟨by rw [show almB x = false from by simp only [almB, decide_eq_false_iff_not]; omega], hw.below⟩
  ·
   refine qa [(1, .go (owns 0 2 1)), (2, .no), (5, .go (owns 0 2 1)), (6, .no)] [1] [(3, .bool false)] ([¬ ((x.every : Int) = (0 : Int))] ++ ([¬ ((x.every : Int) ≥ (1000 : Int))])) (alA (al1 q3) (al1 q16)) (ds_ (sq_ (ao_ (qo0 2 [(1, .go (owns 0 0 1))] [1, 3] [(18, .int .i64 x.vcpu)] ?_))))
   rcases q43 : vcB x.vcpu with _ | _
   ·
    refine cD (.bool false) (fun args w => Tryz.call56 args w) (fun w hw => by have := vc_t x.vcpu w; rw [q43] at this; exact this) (qo0 14 [] [] [(2, .bool false)] (on_ (ds_ (rt ([]) (.bool false) ?_))))
    have hv := of_decide_eq_false q43
    exact fun w' hw => ⟨by rw [show almB x = false from by simp only [almB, decide_eq_false_iff_not]; omega], hw.below⟩
   ·
    refine cD (.bool true) (fun args w => Tryz.call56 args w) (fun w hw => by have := vc_t x.vcpu w; rw [q43] at this; exact this) ?_
    by_cases q46 : (x.port : Int) ≥ (1 : Int)
    ·
     by_cases q48 : (x.port : Int) ≤ (32 : Int)
     ·
      refine qo 14 [(5, .go (owns 0 1 1)), (6, .yes), (10, .go (owns 0 1 1)), (11, .yes)] [] [(2, .bool false)] ([(x.port : Int) ≥ (1 : Int)] ++ ([(x.port : Int) ≤ (32 : Int)])) (alA (al1 q46) (al1 q48)) (on_ (ds_ (rt ([]) (.bool false) ?_)))
      have hv := of_decide_eq_true q43
      exact fun w' hw => ⟨by rw [show almB x = false from by simp only [almB, decide_eq_false_iff_not]; omega], hw.below⟩
     ·
      refine qo 14 [(5, .go (owns 0 1 1)), (6, .yes), (10, .go (owns 0 1 1)), (11, .no)] [] [(2, .bool false)] ([(x.port : Int) ≥ (1 : Int)] ++ ([¬ ((x.port : Int) ≤ (32 : Int))])) (alA (al1 q46) (al1 q48)) (on_ (ds_ (rt ([]) (.bool false) ?_)))
      have hv := of_decide_eq_true q43
      exact fun w' hw => ⟨by rw [show almB x = false from by simp only [almB, decide_eq_false_iff_not]; omega], hw.below⟩
    ·
     refine qo 14 [(5, .go (owns 0 1 1)), (6, .no)] [] [(2, .bool false)] ([¬ ((x.port : Int) ≥ (1 : Int))]) (al1 q46) (on_ (ds_ (rt ([]) (.bool false) ?_)))
     have hv := of_decide_eq_true q43
     exact fun w' hw => ⟨by rw [show almB x = false from by simp only [almB, decide_eq_false_iff_not]; omega], hw.below⟩

set_option maxRecDepth 100000 in
theorem ralm_t (x : Alm) (w : World)
 : Calls Tryz.prog 44 #[.agg #[.int .i64 x.vcpu, .int .i64 x.port, .int .i64 x.every]] w fun e w' => e = .returned (.bool (almB x)) ∧ Below w.heap.size w w' := by
 refine enter (Hs.start w) Tryz.func44 rfl Tryz.ntmps44 rfl (sq_ (ma0 [] [] (fun γ1 => [(1, .pointer (some ⟨γ1 0, 0, none⟩))]) (fun γ1 L => bx (γ1 0) (#[.int .i64 x.vcpu, .int .i64 x.port, .int .i64 x.every]) 32 :: L) (fun γ1 => ds_ (sq_ ?_))))
 by_cases q3 : (x.every : Int) = (0 : Int)
 ·
  refine qa [(1, .go (owns 0 2 1)), (2, .yes)] [1] [(3, .bool true)] ([(x.every : Int) = (0 : Int)]) (al1 q3) (ds_ (sq_ (ao_ (qo0 2 [(1, .go (owns 0 0 1))] [1, 3] [(18, .int .i64 x.vcpu)] ?_))))
  rcases q6 : vcB x.vcpu with _ | _
  ·
   refine cD (.bool false) (fun args w => Tryz.call50 args w) (fun w hw => by have := rvc_t x.vcpu w; rw [q6] at this; exact this) (qo0 14 [] [] [(2, .bool false)] (on_ (ds_ (rt ([]) (.bool false) ?_))))
   have hv := of_decide_eq_false q6
   exact fun w' hw => ⟨by rw [show almB x = false from by simp only [almB, decide_eq_false_iff_not]; omega], hw.below⟩
  ·
   refine cD (.bool true) (fun args w => Tryz.call50 args w) (fun w hw => by have := rvc_t x.vcpu w; rw [q6] at this; exact this) ?_
   by_cases q9 : (x.port : Int) ≥ (1 : Int)
   ·
    by_cases q11 : (x.port : Int) ≤ (32 : Int)
    ·
     refine qo 14 [(5, .go (owns 0 1 1)), (6, .yes), (10, .go (owns 0 1 1)), (11, .yes)] [] [(2, .bool true)] ([(x.port : Int) ≥ (1 : Int)] ++ ([(x.port : Int) ≤ (32 : Int)])) (alA (al1 q9) (al1 q11)) (on_ (ds_ (rt ([]) (.bool true) ?_)))
     have hv := of_decide_eq_true q6
     exact fun w' hw => ⟨by rw [show almB x = true from by simp only [almB, decide_eq_true_eq]; omega], hw.below⟩
    ·
     refine qo 14 [(5, .go (owns 0 1 1)), (6, .yes), (10, .go (owns 0 1 1)), (11, .no)] [] [(2, .bool false)] ([(x.port : Int) ≥ (1 : Int)] ++ ([¬ ((x.port : Int) ≤ (32 : Int))])) (alA (al1 q9) (al1 q11)) (on_ (ds_ (rt ([]) (.bool false) ?_)))
     have hv := of_decide_eq_true q6
     exact fun w' hw => ⟨by rw [show almB x = false from by simp only [almB, decide_eq_false_iff_not]; omega], hw.below⟩
   ·
    refine qo 14 [(5, .go (owns 0 1 1)), (6, .no)] [] [(2, .bool false)] ([¬ ((x.port : Int) ≥ (1 : Int))]) (al1 q9) (on_ (ds_ (rt ([]) (.bool false) ?_)))
    have hv := of_decide_eq_true q6
    exact fun w' hw => ⟨by rw [show almB x = false from by simp only [almB, decide_eq_false_iff_not]; omega], hw.below⟩
 ·
  by_cases q16 : (x.every : Int) ≥ (1000 : Int)
  ·
   by_cases q18 : (x.every : Int) ≤ (1125899906842624 : Int)
   ·
    refine qa [(1, .go (owns 0 2 1)), (2, .no), (5, .go (owns 0 2 1)), (6, .yes), (9, .go (owns 0 2 1)), (10, .yes)] [1] [(3, .bool true)] ([¬ ((x.every : Int) = (0 : Int))] ++ ([(x.every : Int) ≥ (1000 : Int)] ++ ([(x.every : Int) ≤ (1125899906842624 : Int)]))) (alA (al1 q3) (alA (al1 q16) (al1 q18))) (ds_ (sq_ (ao_ (qo0 2 [(1, .go (owns 0 0 1))] [1, 3] [(18, .int .i64 x.vcpu)] ?_))))
    rcases q21 : vcB x.vcpu with _ | _
    ·
     refine cD (.bool false) (fun args w => Tryz.call50 args w) (fun w hw => by have := rvc_t x.vcpu w; rw [q21] at this; exact this) (qo0 14 [] [] [(2, .bool false)] (on_ (ds_ (rt ([]) (.bool false) ?_))))
     have hv := of_decide_eq_false q21
     exact fun w' hw => ⟨by rw [show almB x = false from by simp only [almB, decide_eq_false_iff_not]; omega], hw.below⟩
    ·
     refine cD (.bool true) (fun args w => Tryz.call50 args w) (fun w hw => by have := rvc_t x.vcpu w; rw [q21] at this; exact this) ?_
     by_cases q24 : (x.port : Int) ≥ (1 : Int)
     ·
      by_cases q26 : (x.port : Int) ≤ (32 : Int)
      ·
       refine qo 14 [(5, .go (owns 0 1 1)), (6, .yes), (10, .go (owns 0 1 1)), (11, .yes)] [] [(2, .bool true)] ([(x.port : Int) ≥ (1 : Int)] ++ ([(x.port : Int) ≤ (32 : Int)])) (alA (al1 q24) (al1 q26)) (on_ (ds_ (rt ([]) (.bool true) ?_)))
       have hv := of_decide_eq_true q21
       exact fun w' hw => ⟨by rw [show almB x = true from by simp only [almB, decide_eq_true_eq]; omega], hw.below⟩
      ·
       refine qo 14 [(5, .go (owns 0 1 1)), (6, .yes), (10, .go (owns 0 1 1)), (11, .no)] [] [(2, .bool false)] ([(x.port : Int) ≥ (1 : Int)] ++ ([¬ ((x.port : Int) ≤ (32 : Int))])) (alA (al1 q24) (al1 q26)) (on_ (ds_ (rt ([]) (.bool false) ?_)))
       have hv := of_decide_eq_true q21
       exact fun w' hw => ⟨by rw [show almB x = false from by simp only [almB, decide_eq_false_iff_not]; omega], hw.below⟩
     ·
      refine qo 14 [(5, .go (owns 0 1 1)), (6, .no)] [] [(2, .bool false)] ([¬ ((x.port : Int) ≥ (1 : Int))]) (al1 q24) (on_ (ds_ (rt ([]) (.bool false) ?_)))
      have hv := of_decide_eq_true q21
      exact fun w' hw => ⟨by rw [show almB x = false from by simp only [almB, decide_eq_false_iff_not]; omega], hw.below⟩
   ·
    refine qa [(1, .go (owns 0 2 1)), (2, .no), (5, .go (owns 0 2 1)), (6, .yes), (9, .go (owns 0 2 1)), (10, .no)] [1] [(3, .bool false)] ([¬ ((x.every : Int) = (0 : Int))] ++ ([(x.every : Int) ≥ (1000 : Int)] ++ ([¬ ((x.every : Int) ≤ (1125899906842624 : Int))]))) (alA (al1 q3) (alA (al1 q16) (al1 q18))) (ds_ (sq_ (ao_ (qo0 2 [(1, .go (owns 0 0 1))] [1, 3] [(18, .int .i64 x.vcpu)] ?_))))
    rcases q32 : vcB x.vcpu with _ | _
    ·
     refine cD (.bool false) (fun args w => Tryz.call50 args w) (fun w hw => by have := rvc_t x.vcpu w; rw [q32] at this; exact this) (qo0 14 [] [] [(2, .bool false)] (on_ (ds_ (rt ([]) (.bool false) ?_))))
     have hv := of_decide_eq_false q32
     exact fun w' hw => ⟨by rw [show almB x = false from by simp only [almB, decide_eq_false_iff_not]; omega], hw.below⟩
    ·
     refine cD (.bool true) (fun args w => Tryz.call50 args w) (fun w hw => by have := rvc_t x.vcpu w; rw [q32] at this; exact this) ?_
     by_cases q35 : (x.port : Int) ≥ (1 : Int)
     ·
      by_cases q37 : (x.port : Int) ≤ (32 : Int)
      ·
       refine qo 14 [(5, .go (owns 0 1 1)), (6, .yes), (10, .go (owns 0 1 1)), (11, .yes)] [] [(2, .bool false)] ([(x.port : Int) ≥ (1 : Int)] ++ ([(x.port : Int) ≤ (32 : Int)])) (alA (al1 q35) (al1 q37)) (on_ (ds_ (rt ([]) (.bool false) ?_)))
       have hv := of_decide_eq_true q32
       exact fun w' hw => ⟨by rw [show almB x = false from by simp only [almB, decide_eq_false_iff_not]; omega], hw.below⟩
      ·
       refine qo 14 [(5, .go (owns 0 1 1)), (6, .yes), (10, .go (owns 0 1 1)), (11, .no)] [] [(2, .bool false)] ([(x.port : Int) ≥ (1 : Int)] ++ ([¬ ((x.port : Int) ≤ (32 : Int))])) (alA (al1 q35) (al1 q37)) (on_ (ds_ (rt ([]) (.bool false) ?_)))
       have hv := of_decide_eq_true q32
       exact fun w' hw => ⟨by rw [show almB x = false from by simp only [almB, decide_eq_false_iff_not]; omega], hw.below⟩
     ·
      refine qo 14 [(5, .go (owns 0 1 1)), (6, .no)] [] [(2, .bool false)] ([¬ ((x.port : Int) ≥ (1 : Int))]) (al1 q35) (on_ (ds_ (rt ([]) (.bool false) ?_)))
      have hv := of_decide_eq_true q32
      exact fun w' hw => ⟨by rw [show almB x = false from by simp only [almB, decide_eq_false_iff_not]; omega], hw.below⟩
  ·
   refine qa [(1, .go (owns 0 2 1)), (2, .no), (5, .go (owns 0 2 1)), (6, .no)] [1] [(3, .bool false)] ([¬ ((x.every : Int) = (0 : Int))] ++ ([¬ ((x.every : Int) ≥ (1000 : Int))])) (alA (al1 q3) (al1 q16)) (ds_ (sq_ (ao_ (qo0 2 [(1, .go (owns 0 0 1))] [1, 3] [(18, .int .i64 x.vcpu)] ?_))))
   rcases q43 : vcB x.vcpu with _ | _
   ·
    refine cD (.bool false) (fun args w => Tryz.call50 args w) (fun w hw => by have := rvc_t x.vcpu w; rw [q43] at this; exact this) (qo0 14 [] [] [(2, .bool false)] (on_ (ds_ (rt ([]) (.bool false) ?_))))
    have hv := of_decide_eq_false q43
    exact fun w' hw => ⟨by rw [show almB x = false from by simp only [almB, decide_eq_false_iff_not]; omega], hw.below⟩
   ·
    refine cD (.bool true) (fun args w => Tryz.call50 args w) (fun w hw => by have := rvc_t x.vcpu w; rw [q43] at this; exact this) ?_
    by_cases q46 : (x.port : Int) ≥ (1 : Int)
    ·
     by_cases q48 : (x.port : Int) ≤ (32 : Int)
     ·
      refine qo 14 [(5, .go (owns 0 1 1)), (6, .yes), (10, .go (owns 0 1 1)), (11, .yes)] [] [(2, .bool false)] ([(x.port : Int) ≥ (1 : Int)] ++ ([(x.port : Int) ≤ (32 : Int)])) (alA (al1 q46) (al1 q48)) (on_ (ds_ (rt ([]) (.bool false) ?_)))
      have hv := of_decide_eq_true q43
      exact fun w' hw => ⟨by rw [show almB x = false from by simp only [almB, decide_eq_false_iff_not]; omega], hw.below⟩
     ·
      refine qo 14 [(5, .go (owns 0 1 1)), (6, .yes), (10, .go (owns 0 1 1)), (11, .no)] [] [(2, .bool false)] ([(x.port : Int) ≥ (1 : Int)] ++ ([¬ ((x.port : Int) ≤ (32 : Int))])) (alA (al1 q46) (al1 q48)) (on_ (ds_ (rt ([]) (.bool false) ?_)))
      have hv := of_decide_eq_true q43
      exact fun w' hw => ⟨by rw [show almB x = false from by simp only [almB, decide_eq_false_iff_not]; omega], hw.below⟩
    ·
     refine qo 14 [(5, .go (owns 0 1 1)), (6, .no)] [] [(2, .bool false)] ([¬ ((x.port : Int) ≥ (1 : Int))]) (al1 q46) (on_ (ds_ (rt ([]) (.bool false) ?_)))
     have hv := of_decide_eq_true q43
     exact fun w' hw => ⟨by rw [show almB x = false from by simp only [almB, decide_eq_false_iff_not]; omega], hw.below⟩

set_option maxRecDepth 100000 in
theorem at1_t (x : Alm) (k : Int) (w : World)
 : Calls Tryz.prog 61 #[.agg #[.int .i64 x.vcpu, .int .i64 x.port, .int .i64 x.every], .int .i64 k] w fun e w' => e = .returned (.int .i64 (IntKind.i64.wrap (x.vcpu - k))) ∧ Below w.heap.size w w' := by
 refine enter (Hs.start w) Tryz.func61 rfl Tryz.ntmps61 rfl (sq_ (ma0 [] [1] (fun γ1 => [(2, .pointer (some ⟨γ1 0, 0, none⟩))]) (fun γ1 L => bx (γ1 0) (#[.int .i64 x.vcpu, .int .i64 x.port, .int .i64 x.every]) 32 :: L) (fun γ1 => ds_ (sq_ (qa [(1, .go (owns 0 0 1)), (3, .is [] (.int .i64 ((IntKind.i64.wrap (x.vcpu - k)))))] [] [(4, .int .i64 ((IntKind.i64.wrap (x.vcpu - k))))] ([Value.int .i64 (IntKind.i64.wrap (x.vcpu - k)) = .int .i64 ((IntKind.i64.wrap (x.vcpu - k)))]) (al1 rfl) (ds_ (rt ([]) (.int .i64 ((IntKind.i64.wrap (x.vcpu - k)))) ?_)))))))
 exact fun w' hw => ⟨rfl, hw.below⟩

set_option maxRecDepth 100000 in
theorem bsa (g : FuncId) (cb : Array Value) (p : Option Addr) (n cap : Nat) (l : List Alm) (f c : Alm → Int) (k : Int) (w : World)
 (hg : ∀ args w, (callFunc g args).run Tryz.prog w = .ok (.enter g args) w)
 (hsl : Sv w p l) (hn : n = l.length) (hb : n ≤ 4611686018427387903)
 (hc : ∀ x ∈ l, ∀ w', Below w.heap.size w w' → Calls Tryz.prog g (#[.agg #[.int .i64 x.vcpu, .int .i64 x.port, .int .i64 x.every], .int .i64 k] ++ cb) w' fun e w1 => e = .returned (.int .i64 (c x)) ∧ Below w'.heap.size w' w1)
 (hs : ∀ x ∈ l, (c x < 0 ↔ f x < k) ∧ (c x = 0 ↔ f x = k)) (ha : AscK f l)
 : Calls Tryz.prog 60 #[.slice p n cap, .int .i64 k, .func (.func g) #[] cb] w fun e w' => e = .returned (.tuple #[.int .i64 (posK f l k : Nat), .bool (hasK f l k)]) ∧ Below w.heap.size w w' := by
 refine enter (Hs.start w) Tryz.func60 rfl Tryz.ntmps60 rfl (sq_ (qa0 [] [0, 1, 2] [] (ds_ (sq_ (qa0 [] [0, 1, 2] [(8, .int .i64 ((n : Nat)))] (ds_ (sq_ (qa0 [] [0, 1, 2, 8] [(9, .int .i64 0), (10, .int .i64 ((n : Nat)))] (ds_ (sq_ (at_block (at_loop (α := Nat × Nat) [0, 1, 2, 8, 9, 10] (fun ⟨lo, hi⟩ => [(0, .slice p n cap), (1, .int .i64 k), (2, .func (.func g) #[] cb), (8, .int .i64 ((n : Nat))), (9, .int .i64 ((lo : Nat))), (10, .int .i64 ((hi : Nat)))]) (fun ⟨lo, hi⟩ => []) (fun ⟨lo, hi⟩ => lo ≤ hi ∧ hi ≤ n ∧ BsK f l k lo hi) (fun ⟨lo, hi⟩ => hi - lo) (0, n) (by kernel_rfl) rfl ⟨Nat.zero_le _, Nat.le_refl _, by subst hn; exact bsk_start⟩ ?_))))))))))))
 rintro ⟨lo, hi⟩
 rintro ⟨h1, h2, hI⟩
 refine sq_ (sq_ ?_)
 by_cases q5 : ((lo : Nat) : Int) < ((hi : Nat) : Int)
 ·
  refine qa [(2, .yes)] [0, 1, 2, 8, 9, 10] [(17, .bool true)] ([((lo : Nat) : Int) < ((hi : Nat) : Int)]) (al1 q5) (ds_ (t_ (at_skip (ds_ (at_block (sq_ (qa [(2, .fit), (3, .fit), (4, .is [] (.int .u64 ((lo + hi) / 2 : Nat))), (5, .fit)] [0, 1, 2, 8, 9, 10] [(11, .int .i64 (((lo + hi) / 2 : Nat)))] ([Fit .i64 ((lo + hi : Nat))] ++ ([Fit .u64 ((lo + hi : Nat))] ++ ([Value.int .u64 (Int.fdiv ((lo : Nat) + (hi : Nat)) (2 ^ 1)) = .int .u64 (((lo + hi) / 2 : Nat) : Int)] ++ ([Fit .i64 (((lo + hi) / 2 : Nat))])))) (alA (al1 (fit64 (by omega) (by omega))) (alA (al1 (fitU (by omega) (by omega))) (alA (al1 (half lo hi)) (al1 (fit64 (by omega) (by omega)))))) (ds_ (sq_ ?_)))))))))
  obtain ⟨b9, o9, rfl⟩ := hsl.pos (i := (lo + hi) / 2) (by omega)
  obtain ⟨x11, hx11⟩ := get_some (l := l) (m := (lo + hi) / 2) (by omega)
  refine ao_ (qo 6 [(3, .at b9 o9 ((lo + hi) / 2)), (4, .go (outs b9 (o9 + ((lo + hi) / 2) * 3) [.int .i64 x11.vcpu, .int .i64 x11.port, .int .i64 x11.every]))] [0, 1, 2, 8, 9, 10, 11] [(24, .func (.func g) #[] cb), (28, .agg #[.int .i64 x11.vcpu, .int .i64 x11.port, .int .i64 x11.every]), (29, .int .i64 k)] ([(some ⟨b9, o9, none⟩ : Option Addr) = some ⟨b9, o9, none⟩, (((lo + hi) / 2 : Nat)) = (((lo + hi) / 2 : Nat) : Int), (lo + hi) / 2 < n] ++ (cellsP w b9 (o9 + ((lo + hi) / 2) * 3) [.int .i64 x11.vcpu, .int .i64 x11.port, .int .i64 x11.every])) (alA (al2 rfl (al2 rfl (al1 (by omega)))) (rd_pre (hsl.get hx11) _ rfl)) (cD (.int .i64 (c x11)) hg (fun w hw => hc x11 (List.mem_of_getElem? hx11) w hw.below) ?_))
  by_cases q14 : (c x11 : Int) < (0 : Int)
  ·
   refine qo 1 [(7, .yes)] [0, 1, 2, 8, 9, 10, 11] [(31, .bool true)] ([(c x11 : Int) < (0 : Int)]) (al1 q14) (on_ (ds_ (t_ (qa [(1, .fit)] [0, 1, 2, 8, 10] [(9, .int .i64 (((lo + hi) / 2 + 1 : Nat)))] ([Fit .i64 (((lo + hi) / 2 + 1 : Nat))]) (al1 (fit64 (by omega) (by omega))) (done_block ?_)))))
   exact dr [0, 1, 2, 8, 9, 10] ((lo + hi) / 2 + 1, hi) ⟨by omega, by omega, bsk_low hI ha hx11 ((hs x11 (List.mem_of_getElem? hx11)).1.1 q14)⟩
  ·
   refine qo 1 [(7, .no)] [0, 1, 2, 8, 9, 10, 11] [(31, .bool false)] ([¬ ((c x11 : Int) < (0 : Int))]) (al1 q14) (on_ (ds_ (f_ (qa0 [] [0, 1, 2, 8, 9] [(10, .int .i64 (((lo + hi) / 2 : Nat)))] (done_block ?_)))))
   exact dr [0, 1, 2, 8, 9, 10] (lo, (lo + hi) / 2) ⟨by omega, by omega, bsk_high hI ha hx11 (fun h => q14 ((hs x11 (List.mem_of_getElem? hx11)).1.2 h))⟩
 ·
  refine qa [(2, .no)] [0, 1, 2, 8, 9, 10] [(17, .bool false)] ([¬ (((lo : Nat) : Int) < ((hi : Nat) : Int))]) (al1 q5) (ds_ (f_ (at_leave _ rfl (ds_ (sq_ ?_)))))
  by_cases q21 : ((lo : Nat) : Int) < ((n : Nat) : Int)
  ·
   obtain ⟨b23, o23, rfl⟩ := hsl.pos (i := lo) (by omega)
   obtain ⟨x25, hx25⟩ := get_some (l := l) (m := lo) (by omega)
   refine ao_ (qo 11 [(3, .yes), (8, .at b23 o23 lo), (9, .go (outs b23 (o23 + lo * 3) [.int .i64 x25.vcpu, .int .i64 x25.port, .int .i64 x25.every]))] [] [(35, .int .i64 ((lo : Nat))), (39, .bool true), (40, .func (.func g) #[] cb), (44, .agg #[.int .i64 x25.vcpu, .int .i64 x25.port, .int .i64 x25.every]), (45, .int .i64 k)] ([((lo : Nat) : Int) < ((n : Nat) : Int)] ++ ([(some ⟨b23, o23, none⟩ : Option Addr) = some ⟨b23, o23, none⟩, ((lo : Nat)) = ((lo : Nat) : Int), lo < n] ++ (cellsP w b23 (o23 + lo * 3) [.int .i64 x25.vcpu, .int .i64 x25.port, .int .i64 x25.every]))) (alA (al1 q21) (alA (al2 rfl (al2 rfl (al1 (by omega)))) (rd_pre (hsl.get hx25) _ rfl))) (cD (.int .i64 (c x25)) hg (fun w hw => hc x25 (List.mem_of_getElem? hx25) w hw.below) ?_))
   by_cases q28 : (c x25 : Int) = (0 : Int)
   ·
    refine qo 4 [(12, .yes)] [] [(6, .int .i64 ((lo : Nat))), (7, .bool true)] ([(c x25 : Int) = (0 : Int)]) (al1 q28) (on_ (ds_ (rt ([]) (.tuple #[.int .i64 ((lo : Nat)), .bool true]) ?_)))
    exact fun w' hw => ⟨by rw [bsk_end hI (by omega) h1 (by omega), hask_found hx25 ((hs x25 (List.mem_of_getElem? hx25)).2.1 q28)], hw.below⟩
   ·
    refine qo 4 [(12, .no)] [] [(6, .int .i64 ((lo : Nat))), (7, .bool false)] ([¬ ((c x25 : Int) = (0 : Int))]) (al1 q28) (on_ (ds_ (rt ([]) (.tuple #[.int .i64 ((lo : Nat)), .bool false]) ?_)))
    exact fun w' hw => ⟨by rw [bsk_end hI (by omega) h1 (by omega), hask_other hI (by omega) h1 ha hx25 (fun h => q28 ((hs x25 (List.mem_of_getElem? hx25)).2.2 h))], hw.below⟩
  ·
   refine qa [(3, .no)] [] [(6, .int .i64 ((lo : Nat))), (7, .bool false)] ([¬ (((lo : Nat) : Int) < ((n : Nat) : Int))]) (al1 q21) (ds_ (rt ([]) (.tuple #[.int .i64 ((lo : Nat)), .bool false]) ?_))
   exact fun w' hw => ⟨by rw [bsk_end hI (by omega) h1 (by omega), hask_none hI (by omega) h1 (by omega)], hw.below⟩

set_option maxRecDepth 100000 in
theorem bsaw (g : FuncId) (cb : Array Value) (p : Option Addr) (n cap : Nat) (l : List Alm) (c : Alm → Int) (k : Int) (w : World)
 (hg : ∀ args w, (callFunc g args).run Tryz.prog w = .ok (.enter g args) w)
 (hsl : Sv w p l) (hn : n = l.length) (hb : n ≤ 4611686018427387903)
 (hc : ∀ x ∈ l, ∀ w', Below w.heap.size w w' → Calls Tryz.prog g (#[.agg #[.int .i64 x.vcpu, .int .i64 x.port, .int .i64 x.every], .int .i64 k] ++ cb) w' fun e w1 => e = .returned (.int .i64 (c x)) ∧ Below w'.heap.size w' w1)
 : Calls Tryz.prog 60 #[.slice p n cap, .int .i64 k, .func (.func g) #[] cb] w fun e w' => ∃ (i : Nat) (b : Bool), e = .returned (.tuple #[.int .i64 (i : Nat), .bool b]) ∧ i ≤ n ∧ (b = true → ∃ x, l[i]? = some x ∧ c x = 0) ∧ Below w.heap.size w w' := by
 refine enter (Hs.start w) Tryz.func60 rfl Tryz.ntmps60 rfl (sq_ (qa0 [] [0, 1, 2] [] (ds_ (sq_ (qa0 [] [0, 1, 2] [(8, .int .i64 ((n : Nat)))] (ds_ (sq_ (qa0 [] [0, 1, 2, 8] [(9, .int .i64 0), (10, .int .i64 ((n : Nat)))] (ds_ (sq_ (at_block (at_loop (α := Nat × Nat) [0, 1, 2, 8, 9, 10] (fun ⟨lo, hi⟩ => [(0, .slice p n cap), (1, .int .i64 k), (2, .func (.func g) #[] cb), (8, .int .i64 ((n : Nat))), (9, .int .i64 ((lo : Nat))), (10, .int .i64 ((hi : Nat)))]) (fun ⟨lo, hi⟩ => []) (fun ⟨lo, hi⟩ => lo ≤ hi ∧ hi ≤ n) (fun ⟨lo, hi⟩ => hi - lo) (0, n) (by kernel_rfl) rfl ⟨Nat.zero_le _, Nat.le_refl _⟩ ?_))))))))))))
 rintro ⟨lo, hi⟩
 rintro ⟨h1, h2⟩
 refine sq_ (sq_ ?_)
 by_cases q5 : ((lo : Nat) : Int) < ((hi : Nat) : Int)
 ·
  refine qa [(2, .yes)] [0, 1, 2, 8, 9, 10] [(17, .bool true)] ([((lo : Nat) : Int) < ((hi : Nat) : Int)]) (al1 q5) (ds_ (t_ (at_skip (ds_ (at_block (sq_ (qa [(2, .fit), (3, .fit), (4, .is [] (.int .u64 ((lo + hi) / 2 : Nat))), (5, .fit)] [0, 1, 2, 8, 9, 10] [(11, .int .i64 (((lo + hi) / 2 : Nat)))] ([Fit .i64 ((lo + hi : Nat))] ++ ([Fit .u64 ((lo + hi : Nat))] ++ ([Value.int .u64 (Int.fdiv ((lo : Nat) + (hi : Nat)) (2 ^ 1)) = .int .u64 (((lo + hi) / 2 : Nat) : Int)] ++ ([Fit .i64 (((lo + hi) / 2 : Nat))])))) (alA (al1 (fit64 (by omega) (by omega))) (alA (al1 (fitU (by omega) (by omega))) (alA (al1 (half lo hi)) (al1 (fit64 (by omega) (by omega)))))) (ds_ (sq_ ?_)))))))))
  obtain ⟨b9, o9, rfl⟩ := hsl.pos (i := (lo + hi) / 2) (by omega)
  obtain ⟨x11, hx11⟩ := get_some (l := l) (m := (lo + hi) / 2) (by omega)
  refine ao_ (qo 6 [(3, .at b9 o9 ((lo + hi) / 2)), (4, .go (outs b9 (o9 + ((lo + hi) / 2) * 3) [.int .i64 x11.vcpu, .int .i64 x11.port, .int .i64 x11.every]))] [0, 1, 2, 8, 9, 10, 11] [(24, .func (.func g) #[] cb), (28, .agg #[.int .i64 x11.vcpu, .int .i64 x11.port, .int .i64 x11.every]), (29, .int .i64 k)] ([(some ⟨b9, o9, none⟩ : Option Addr) = some ⟨b9, o9, none⟩, (((lo + hi) / 2 : Nat)) = (((lo + hi) / 2 : Nat) : Int), (lo + hi) / 2 < n] ++ (cellsP w b9 (o9 + ((lo + hi) / 2) * 3) [.int .i64 x11.vcpu, .int .i64 x11.port, .int .i64 x11.every])) (alA (al2 rfl (al2 rfl (al1 (by omega)))) (rd_pre (hsl.get hx11) _ rfl)) (cD (.int .i64 (c x11)) hg (fun w hw => hc x11 (List.mem_of_getElem? hx11) w hw.below) ?_))
  by_cases q14 : (c x11 : Int) < (0 : Int)
  ·
   refine qo 1 [(7, .yes)] [0, 1, 2, 8, 9, 10, 11] [(31, .bool true)] ([(c x11 : Int) < (0 : Int)]) (al1 q14) (on_ (ds_ (t_ (qa [(1, .fit)] [0, 1, 2, 8, 10] [(9, .int .i64 (((lo + hi) / 2 + 1 : Nat)))] ([Fit .i64 (((lo + hi) / 2 + 1 : Nat))]) (al1 (fit64 (by omega) (by omega))) (done_block ?_)))))
   exact dr [0, 1, 2, 8, 9, 10] ((lo + hi) / 2 + 1, hi) ⟨by omega, by omega⟩
  ·
   refine qo 1 [(7, .no)] [0, 1, 2, 8, 9, 10, 11] [(31, .bool false)] ([¬ ((c x11 : Int) < (0 : Int))]) (al1 q14) (on_ (ds_ (f_ (qa0 [] [0, 1, 2, 8, 9] [(10, .int .i64 (((lo + hi) / 2 : Nat)))] (done_block ?_)))))
   exact dr [0, 1, 2, 8, 9, 10] (lo, (lo + hi) / 2) ⟨by omega, by omega⟩
 ·
  refine qa [(2, .no)] [0, 1, 2, 8, 9, 10] [(17, .bool false)] ([¬ (((lo : Nat) : Int) < ((hi : Nat) : Int))]) (al1 q5) (ds_ (f_ (at_leave _ rfl (ds_ (sq_ ?_)))))
  by_cases q21 : ((lo : Nat) : Int) < ((n : Nat) : Int)
  ·
   obtain ⟨b23, o23, rfl⟩ := hsl.pos (i := lo) (by omega)
   obtain ⟨x25, hx25⟩ := get_some (l := l) (m := lo) (by omega)
   refine ao_ (qo 11 [(3, .yes), (8, .at b23 o23 lo), (9, .go (outs b23 (o23 + lo * 3) [.int .i64 x25.vcpu, .int .i64 x25.port, .int .i64 x25.every]))] [] [(35, .int .i64 ((lo : Nat))), (39, .bool true), (40, .func (.func g) #[] cb), (44, .agg #[.int .i64 x25.vcpu, .int .i64 x25.port, .int .i64 x25.every]), (45, .int .i64 k)] ([((lo : Nat) : Int) < ((n : Nat) : Int)] ++ ([(some ⟨b23, o23, none⟩ : Option Addr) = some ⟨b23, o23, none⟩, ((lo : Nat)) = ((lo : Nat) : Int), lo < n] ++ (cellsP w b23 (o23 + lo * 3) [.int .i64 x25.vcpu, .int .i64 x25.port, .int .i64 x25.every]))) (alA (al1 q21) (alA (al2 rfl (al2 rfl (al1 (by omega)))) (rd_pre (hsl.get hx25) _ rfl))) (cD (.int .i64 (c x25)) hg (fun w hw => hc x25 (List.mem_of_getElem? hx25) w hw.below) ?_))
   by_cases q28 : (c x25 : Int) = (0 : Int)
   ·
    refine qo 4 [(12, .yes)] [] [(6, .int .i64 ((lo : Nat))), (7, .bool true)] ([(c x25 : Int) = (0 : Int)]) (al1 q28) (on_ (ds_ (rt ([]) (.tuple #[.int .i64 ((lo : Nat)), .bool true]) ?_)))
    exact fun w' hw => ⟨lo, true, rfl, by omega, fun _ => ⟨x25, hx25, q28⟩, hw.below⟩
   ·
    refine qo 4 [(12, .no)] [] [(6, .int .i64 ((lo : Nat))), (7, .bool false)] ([¬ ((c x25 : Int) = (0 : Int))]) (al1 q28) (on_ (ds_ (rt ([]) (.tuple #[.int .i64 ((lo : Nat)), .bool false]) ?_)))
    exact fun w' hw => ⟨lo, false, rfl, by omega, fun h => (by cases h), hw.below⟩
  ·
   refine qa [(3, .no)] [] [(6, .int .i64 ((lo : Nat))), (7, .bool false)] ([¬ (((lo : Nat) : Int) < ((n : Nat) : Int))]) (al1 q21) (ds_ (rt ([]) (.tuple #[.int .i64 ((lo : Nat)), .bool false]) ?_))
   exact fun w' hw => ⟨lo, false, rfl, by omega, fun h => (by cases h), hw.below⟩

set_option maxRecDepth 100000 in
theorem atg_t (pa : Option Addr) (na ca : Nat) (rs : List Alm) (k : Int) (w : World)
 (hrs : Sv w pa rs) (hna : na = rs.length) (hba : na ≤ 1000)
 (hr : Ris Alm.vcpu rs) (hal : ∀ x ∈ rs, almB x = true) (h1 : -1000 ≤ k) (h2 : k ≤ 1000)
 : Calls Tryz.prog 30 #[.slice pa na ca, .int .i64 k] w fun e w' => e = .returned (.tuple #[.int .i64 (posK Alm.vcpu rs k : Nat), .bool (hasK Alm.vcpu rs k)]) ∧ Below w.heap.size w w' := by
 refine enter (Hs.start w) Tryz.func30 rfl Tryz.ntmps30 rfl (sq_ (qa0 [] [0, 1] [] (ds_ (sq_ (ao_ (qo0 2 [] [] [(6, .slice pa na ca), (7, .int .i64 k)] (cD (.tuple #[.int .i64 ((posK Alm.vcpu rs k : Nat)), .bool (hasK Alm.vcpu rs k)]) (fun args w => Tryz.call60 args w) (fun w hw => bsa 61 #[] pa na ca rs Alm.vcpu (fun x => IntKind.i64.wrap (x.vcpu - k)) k w Tryz.call61 (hrs.kept hw.below) hna (by omega) (fun x hx w' hb' => at1_t x k w') (fun x hx => by have := alm_id (hal x hx); rw [wrap_fit (fit64 (by omega) (by omega))]; constructor <;> constructor <;> intro h <;> omega) hr.asc) (qo0 4 [] [] [(4, .int .i64 ((posK Alm.vcpu rs k : Nat))), (5, .bool (hasK Alm.vcpu rs k))] (on_ (ds_ (rt ([]) (.tuple #[.int .i64 ((posK Alm.vcpu rs k : Nat)), .bool (hasK Alm.vcpu rs k)]) ?_)))))))))))
 exact fun w' hw => ⟨rfl, hw.below⟩

set_option maxRecDepth 100000 in
theorem atw_t (pa : Option Addr) (na ca : Nat) (rs : List Alm) (k : Int) (w : World)
 (hrs : Sv w pa rs) (hna : na = rs.length) (hba : na ≤ 1000)
 : Calls Tryz.prog 30 #[.slice pa na ca, .int .i64 k] w fun e w' => ∃ (i : Nat) (b : Bool), e = .returned (.tuple #[.int .i64 (i : Nat), .bool b]) ∧ Below w.heap.size w w' := by
 refine enter (Hs.start w) Tryz.func30 rfl Tryz.ntmps30 rfl (sq_ (qa0 [] [0, 1] [] (ds_ (sq_ (ao_ (qo0 2 [] [] [(6, .slice pa na ca), (7, .int .i64 k)] (cP (fun v L' => ∃ (i : Nat) (b : Bool), v = .tuple #[.int .i64 (i : Nat), .bool b] ∧ L' = []) (fun args w => Tryz.call60 args w) (fun w hw => (bsaw 61 #[] pa na ca rs (fun x => IntKind.i64.wrap (x.vcpu - k)) k w Tryz.call61 (hrs.kept hw.below) hna (by omega) (fun x hx w' hb' => at1_t x k w')).mono (fun e w' ⟨i, b, he, h1, h2, h3⟩ => ⟨_, _, he, ⟨i, b, rfl, rfl⟩, hw.kept h3⟩)) ?_)))))))
 rintro v3 L3 ⟨i3, b3, rfl, rfl⟩
 refine qo0 4 [] [] [(4, .int .i64 ((i3 : Nat))), (5, .bool b3)] (on_ (ds_ (rt ([]) (.tuple #[.int .i64 ((i3 : Nat)), .bool b3]) ?_)))
 exact fun w' hw => ⟨_, _, rfl, hw.below⟩
theorem bool_eqRun (op : BinOp) (hop : op = .eql ∨ op = .neq) (x y : Operand) (a b r : Bool) (hr : r = (if op = .eql then a == b else !(a == b))) : EqRun Tryz.prog op 4 x y (.bool a) (.bool b) r := by
 intro w
 subst hr
 have hg : Tryz.prog.eqGuardType Tryz.prog.depth 4 = false := by kernel_rfl
 have key : (Op.equal 4 (.bool a) (.bool b)).run Tryz.prog w = .ok (a == b) w := by
  unfold Op.equal
  rw [show Op.maxDepth = 9999 + 1 from rfl]
  exact run_equalIn_bool' w 9999 4 a b Tryz.underlying4
 have guard : (eqGuard op 4 x y (.bool a) (.bool b)).run Tryz.prog w = .ok () w := by
  unfold eqGuard
  rcases hop with rfl | rfl <;> simp [hg]
 rw [Sem.run_bind, guard]
 simp only [Result.andThen_ok]
 rcases hop with rfl | rfl <;> simp [binOp, Sem.run_bind, key]
theorem bool_ne {x y : Operand} (a b : Bool) : EqRun Tryz.prog .neq 4 x y (.bool a) (.bool b) (!(a == b)) := bool_eqRun _ (.inr rfl) x y a b _ (by simp)
end Go.Proofs.YtdbamgbgnpadjaaGreat

/-! Timers: the next one. -/
namespace Go.Proofs.YtdbamgbgnpadjaaGreat
open Go Go.RowKit
set_option maxRecDepth 100000 in
theorem passes_t (now : Int) (p : Option Addr) (n cap : Nat) (ts : List Tim) (to : Int) (w : World)
 (hts : Sv w p ts) (hn : n = ts.length) (hb : n ≤ 1000)
 : Calls Tryz.prog 64 #[.agg #[.int .i64 now, .slice p n cap], .int .i64 to] w fun e w' => e = .returned (.int .i64 (passE now ts to)) ∧ Below w.heap.size w w' := by
 refine enter (Hs.start w) Tryz.func64 rfl Tryz.ntmps64 rfl (sq_ (ma0 [] [1] (fun γ1 => [(2, .pointer (some ⟨γ1 0, 0, none⟩))]) (fun γ1 L => bx (γ1 0) (#[.int .i64 now, .slice p n cap]) 24 :: L) (fun γ1 => ds_ (sq_ (sq_ (ao_ (qo0 1 [(0, .go (owns 0 0 2))] [1, 2] [(6, .agg #[.int .i64 now, .slice p n cap])] ?_)))))))
 rcases q3 : wheelB now ts with _ | _
 ·
  refine cD (.int .i64 250) (fun args w => Tryz.call68 args w) (fun w hw => by have := wcheck_t now p n cap ts w (hts.kept hw.below) hn (by omega); rw [q3] at this; exact this) (qo0 1 [] [1, 2] [(5, .int .i64 250)] (on_ (ds_ (sq_ (qa0 [] [1, 2, 5] [(9, .bool true)] (ds_ (t_ (sq_ (qa0 [] [] [(4, .int .i64 250)] (ds_ (rt ([]) (.int .i64 250) ?_)))))))))))
  exact fun w' hw => ⟨by rw [passE_bad q3], hw.below⟩
 ·
  refine cD (.int .i64 0) (fun args w => Tryz.call68 args w) (fun w hw => by have := wcheck_t now p n cap ts w (hts.kept hw.below) hn (by omega); rw [q3] at this; exact this) (qo0 1 [] [1, 2] [(5, .int .i64 0)] (on_ (ds_ (sq_ (qa0 [] [1, 2, 5] [(9, .bool false)] (ds_ (f_ (at_skip (ds_ (sq_ (sq_ ?_)))))))))))
  by_cases q10 : (to : Int) < (now : Int)
  ·
   refine qa [(2, .go (owns 0 0 1)), (3, .yes)] [] [(18, .bool true)] ([(to : Int) < (now : Int)]) (al1 q10) (ds_ (t_ (sq_ (qa0 [] [] [(4, .int .i64 2)] (ds_ (rt ([]) (.int .i64 2) ?_))))))
   exact fun w' hw => ⟨by rw [passE_arg q3 (by omega)], hw.below⟩
  ·
   by_cases q14 : (to : Int) > (1125899906842624 : Int)
   ·
    refine qa [(2, .go (owns 0 0 1)), (3, .no), (6, .yes)] [] [(18, .bool true)] ([¬ ((to : Int) < (now : Int))] ++ ([(to : Int) > (1125899906842624 : Int)])) (alA (al1 q10) (al1 q14)) (ds_ (t_ (sq_ (qa0 [] [] [(4, .int .i64 2)] (ds_ (rt ([]) (.int .i64 2) ?_))))))
    exact fun w' hw => ⟨by rw [passE_arg q3 (by omega)], hw.below⟩
   ·
    refine qa [(2, .go (owns 0 0 1)), (3, .no), (6, .no)] [] [(18, .bool false)] ([¬ ((to : Int) < (now : Int))] ++ ([¬ ((to : Int) > (1125899906842624 : Int))])) (alA (al1 q10) (al1 q14)) (ds_ (f_ (at_skip (ds_ (sq_ (qa0 [] [] [(4, .int .i64 0)] (ds_ (rt ([]) (.int .i64 0) ?_))))))))
    exact fun w' hw => ⟨by rw [passE_ok q3 (by omega)], hw.below⟩
end Go.Proofs.YtdbamgbgnpadjaaGreat

/-! Alarms: more of what they are; plain. -/
namespace Go.Proofs.YtdbamgbgnpadjaaGreat
open Go Go.RowKit

section
variable {now k v c : Int} {ts : List Tim} {rs : List Alm} {x y : Alm} {j : Nat}
theorem last_rise (hL : (j = 0 ∧ c = 0) ∨ (0 < j ∧ ∃ y, rs[j - 1]? = some y ∧ c = y.vcpu)) (h : ¬ x.vcpu ≤ c) : j = 0 ∨ ∃ y, rs[j - 1]? = some y ∧ y.vcpu < x.vcpu := by
  rcases hL with ⟨h1, _⟩ | ⟨_, y, hy, e⟩
  · exact .inl h1
  · exact .inr ⟨y, hy, by omega⟩
theorem last_on (hx : rs[j]? = some x) : (j + 1 = 0 ∧ x.vcpu = 0) ∨ (0 < j + 1 ∧ ∃ y, rs[j + 1 - 1]? = some y ∧ x.vcpu = y.vcpu) := .inr ⟨by omega, x, by rw [Nat.add_sub_cancel]; exact hx, rfl⟩
theorem al_bad_last (hL : (j = 0 ∧ c = 0) ∨ (0 < j ∧ ∃ y, rs[j - 1]? = some y ∧ c = y.vcpu)) (hx : rs[j]? = some x) (ha : almB x = true) (h : x.vcpu ≤ c) : alB now ts rs = false := by
  rcases hL with ⟨_, h1⟩ | ⟨h0, y, hy, e⟩
  · have := alm_id ha; omega
  · exact al_bad_rise hx hy (by omega) (by omega)
theorem links_on {P Q : Int → Bool} (h : ∀ u : Int, 1 ≤ u → u < v → P u = Q u) (e : P v = Q v) : ∀ u : Int, 1 ≤ u → u < v + 1 → P u = Q u := by
  intro u h1 h2
  by_cases hu : u = v
  · rw [hu]; exact e
  · exact h u h1 (by omega)
theorem al_good' (hr : Ris Alm.vcpu rs) (ha : ∀ x ∈ rs, almB x = true) (hw : wheelB now ts = true) (hl : ∀ u : Int, 1 ≤ u → u < v → (getK Tim.id ts (u - 1)).isSome = (getK Alm.vcpu rs u).isSome) (h : 16 < v) : alB now ts rs = true :=
  al_iff.2 ⟨hr, ha, hw, fun u h1 h2 => hl u h1 (by omega)⟩
theorem lk_some (g : alB now ts rs = true) (h : getK Alm.vcpu rs v = some x) : ∃ t, getK Tim.id ts (v - 1) = some t := by
  have hg := al_iff.1 g
  have hm := getK_mem h
  have hv := alm_id (hg.al x hm.1)
  have := hg.lk v (by omega) (by omega)
  rw [h] at this
  exact Option.isSome_iff_exists.1 this
theorem lk_none (g : alB now ts rs = true) (h1 : 1 ≤ v) (h2 : v ≤ 16) (h : getK Alm.vcpu rs v = none) : getK Tim.id ts (v - 1) = none := by
  have := (al_iff.1 g).lk v h1 h2
  rw [h] at this
  exact Option.isNone_iff_eq_none.1 (by cases e : getK Tim.id ts (v - 1) with
    | none => rfl
    | some t => rw [e] at this; cases this)
/-- What they tell. -/
def sameA (now : Int) (ts : List Tim) (rs : List Alm) (now2 : Int) (ts2 : List Tim) (rs2 : List Alm) : Bool := sameW now ts now2 ts2 && decide (rs = rs2)
theorem sameA_no {now2 : Int} {ts2 : List Tim} {rs2 : List Alm} (h : sameW now ts now2 ts2 = false) : sameA now ts rs now2 ts2 rs2 = false := by simp [sameA, h]
theorem sameA_yes {now2 : Int} {ts2 : List Tim} {rs2 : List Alm} (h : sameW now ts now2 ts2 = true) : sameA now ts rs now2 ts2 rs2 = decide (rs = rs2) := by simp [sameA, h]
theorem sameA_refl : sameA now ts rs now ts rs = true := by simp [sameA, sameW_refl]
def getA (now : Int) (ts : List Tim) (rs : List Alm) (v : Int) : Option (Alm × Int) := if alB now ts rs = true then match getK Alm.vcpu rs v with
  | some x => some (x, ((getK Tim.id ts (v - 1)).map Tim.due).getD 0)
  | none => none
  else none
def gaV : Option (Alm × Int) → Value
  | some (x, d) => .tuple #[.agg #[.int .i64 x.vcpu, .int .i64 x.port, .int .i64 x.every], .int .i64 d, .bool true]
  | none => .tuple #[.agg #[.int .i64 0, .int .i64 0, .int .i64 0], .int .i64 0, .bool false]
theorem getA_bad (g : alB now ts rs = false) : getA now ts rs v = none := by simp [getA, g]
theorem getA_none (g : alB now ts rs = true) (h : getK Alm.vcpu rs v = none) : getA now ts rs v = none := by simp [getA, g, h]
theorem getA_some {t : Tim} (g : alB now ts rs = true) (h : getK Alm.vcpu rs v = some x) (ht : getK Tim.id ts (v - 1) = some t) : getA now ts rs v = some (x, t.due) := by simp [getA, g, h, ht]
def slpO (now : Int) (ts : List Tim) (rs : List Alm) (v : Int) : Option Tim := if alB now ts rs = true ∧ vcB v = true then getK Tim.id ts (15 + v) else none
def nextAV (now : Int) (ts : List Tim) (rs : List Alm) : Value := if alB now ts rs = true then nextV now ts else .tuple #[.int .i64 0, .bool false]
end
end Go.Proofs.YtdbamgbgnpadjaaGreat

/-! Alarms: which may be. -/
namespace Go.Proofs.YtdbamgbgnpadjaaGreat
open Go Go.RowKit

set_option maxRecDepth 100000 in
theorem acheck_t (now : Int) (p : Option Addr) (n cap : Nat) (ts : List Tim) (pa : Option Addr) (na ca : Nat) (rs : List Alm) (w : World)
 (hts : Sv w p ts) (hn : n = ts.length) (hb : n ≤ 1000)
 (hrs : Sv w pa rs) (hna : na = rs.length) (hba : na ≤ 1000)
 : Calls Tryz.prog 36 #[.agg #[.int .i64 now, .slice p n cap, .slice pa na ca]] w fun e w' => e = .returned (.int .i64 (if alB now ts rs = true then 0 else 280)) ∧ Below w.heap.size w w' := by
 refine enter (Hs.start w) Tryz.func36 rfl Tryz.ntmps36 rfl (sq_ (ma0 [] [] (fun γ1 => [(1, .pointer (some ⟨γ1 0, 0, none⟩))]) (fun γ1 L => bx (γ1 0) (#[.int .i64 now, .slice p n cap, .slice pa na ca]) 27 :: L) (fun γ1 => ds_ (sq_ (qa0 [] [1] [(3, .int .i64 0)] (ds_ (sq_ (sq_ (qa0 [(1, .go (owns 0 2 1))] [1, 3] [(12, .slice pa na ca), (13, .int .i64 ((na : Nat))), (14, .int .i64 0)] (ds_ (at_block (at_loop (α := Nat × Int) [1, 3, 12, 13, 14] (fun ⟨j, c⟩ => [(1, .pointer (some ⟨γ1 0, 0, none⟩)), (3, .int .i64 c), (12, .slice pa na ca), (13, .int .i64 ((na : Nat))), (14, .int .i64 ((j : Nat)))]) (fun ⟨j, c⟩ => [bx (γ1 0) (#[.int .i64 now, .slice p n cap, .slice pa na ca]) 27]) (fun ⟨j, c⟩ => j ≤ na ∧ Ris Alm.vcpu (rs.take j) ∧ (∀ y ∈ rs.take j, almB y = true) ∧ ((j = 0 ∧ c = 0) ∨ (0 < j ∧ ∃ y, rs[j - 1]? = some y ∧ c = y.vcpu))) (fun ⟨j, c⟩ => na - j) (0, 0) (by kernel_rfl) rfl ⟨Nat.zero_le _, ris_take0T, all_take0T, .inl ⟨rfl, rfl⟩⟩ ?_))))))))))))
 rintro ⟨j, c⟩
 rintro ⟨hj, hR, hA, hL⟩
 refine sq_ ?_
 by_cases q5 : ((j : Nat) : Int) < ((na : Nat) : Int)
 ·
  refine qa [(0, .yes)] [1, 3, 12, 13, 14] [(15, .bool true)] ([((j : Nat) : Int) < ((na : Nat) : Int)]) (al1 q5) (ds_ (sq_ (t_ (at_skip (ds_ (sq_ (at_block (sq_ ?_))))))))
  obtain ⟨b8, o8, rfl⟩ := hrs.pos (i := j) (by omega)
  obtain ⟨x10, hx10⟩ := get_some (l := rs) (m := j) (by omega)
  refine ma [(0, .at b8 o8 j), (1, .go (outs b8 (o8 + j * 3) [.int .i64 x10.vcpu, .int .i64 x10.port, .int .i64 x10.every])), (3, .go (owns 0 0 3))] [1, 3, 12, 13, 14] (fun γ11 => [(5, .pointer (some ⟨γ11 0, 0, none⟩))]) (fun γ11 L => bx (γ11 0) (#[.int .i64 x10.vcpu, .int .i64 x10.port, .int .i64 x10.every]) 32 :: L) (fun γ11 => [(some ⟨b8, o8, none⟩ : Option Addr) = some ⟨b8, o8, none⟩, ((j : Nat)) = ((j : Nat) : Int), j < na] ++ (cellsP w b8 (o8 + j * 3) [.int .i64 x10.vcpu, .int .i64 x10.port, .int .i64 x10.every])) (fun γ11 => (alA (al2 rfl (al2 rfl (al1 (by omega)))) (rd_pre (hrs.get hx10) _ rfl))) (fun γ11 => ds_ (sq_ (sq_ (ao_ (qo0 1 [(0, .go (owns 0 0 3))] [1, 3, 5, 12, 13, 14] [(18, .agg #[.int .i64 x10.vcpu, .int .i64 x10.port, .int .i64 x10.every])] ?_)))))
  rcases q13 : almB x10 with _ | _
  ·
   refine cD (.bool false) (fun args w => Tryz.call27 args w) (fun w hw => by have := alm_t x10 w; rw [q13] at this; exact this) (qo0 7 [] [1, 5, 12, 13, 14] [(26, .bool true)] (on_ (ds_ (t_ (sq_ (qa0 [] [] [(2, .int .i64 280)] (ds_ (rt ([]) (.int .i64 280) ?_))))))))
   exact fun w' hw => ⟨by rw [al_bad_row hx10 q13]; rfl, hw.below⟩
  ·
   refine cD (.bool true) (fun args w => Tryz.call27 args w) (fun w hw => by have := alm_t x10 w; rw [q13] at this; exact this) ?_
   by_cases q17 : (x10.vcpu : Int) ≤ (c : Int)
   ·
    refine qo 7 [(5, .go (owns 0 0 1)), (7, .yes)] [1, 5, 12, 13, 14] [(26, .bool true)] ([(x10.vcpu : Int) ≤ (c : Int)]) (al1 q17) (on_ (ds_ (t_ (sq_ (qa0 [] [] [(2, .int .i64 280)] (ds_ (rt ([]) (.int .i64 280) ?_)))))))
    exact fun w' hw => ⟨by rw [al_bad_last hL hx10 q13 (by omega)]; rfl, hw.below⟩
   ·
    refine qo 7 [(5, .go (owns 0 0 1)), (7, .no)] [1, 5, 12, 13, 14] [(26, .bool false)] ([¬ ((x10.vcpu : Int) ≤ (c : Int))]) (al1 q17) (on_ (ds_ (f_ (at_skip (ds_ (qa0 [(1, .go (owns 0 0 1))] [1, 12, 13, 14] [(3, .int .i64 x10.vcpu)] (done_block (ds_ (qa [(0, .fit)] [1, 3, 12, 13] [(14, .int .i64 ((j + 1 : Nat)))] ([Fit .i64 ((j + 1 : Nat))]) (al1 (fit64 (by omega) (by omega))) (Done.drop (L' := [bx (γ1 0) (#[.int .i64 now, .slice p n cap, .slice (some ⟨b8, o8, none⟩) na ca]) 27]) ?_ (List.Sublist.cons _ (List.Sublist.cons_cons _ (List.Sublist.refl _)))))))))))))
    exact dr [1, 3, 12, 13, 14] (j + 1, x10.vcpu) ⟨by omega, ris_take_onT hR hx10 (last_rise hL (by omega)), all_onT hA hx10 q13, last_on hx10⟩
 ·
  refine qa [(0, .no)] [1, 3, 12, 13, 14] [(15, .bool false)] ([¬ (((j : Nat) : Int) < ((na : Nat) : Int))]) (al1 q5) (ds_ (sq_ (f_ (at_leave _ rfl (ds_ (sq_ (sq_ ?_)))))))
  rw [List.take_of_length_le (by omega)] at hR hA
  refine ao_ (qo0 2 [(1, .go (owns 0 0 2))] [1] [(31, .agg #[.int .i64 now, .slice p n cap])] ?_)
  rcases q25 : wheelB now ts with _ | _
  ·
   refine cD (.int .i64 250) (fun args w => Tryz.call68 args w) (fun w hw => by have := wcheck_t now p n cap ts w (hts.kept hw.below) hn (by omega); rw [q25] at this; exact this) (qo0 1 [] [1] [(33, .bool true)] (on_ (ds_ (t_ (sq_ (qa0 [] [] [(2, .int .i64 280)] (ds_ (rt ([]) (.int .i64 280) ?_))))))))
   exact fun w' hw => ⟨by rw [al_bad_wheel q25]; rfl, hw.below⟩
  ·
   refine cD (.int .i64 0) (fun args w => Tryz.call68 args w) (fun w hw => by have := wcheck_t now p n cap ts w (hts.kept hw.below) hn (by omega); rw [q25] at this; exact this) (qo0 1 [] [1] [(33, .bool false)] (on_ (ds_ (f_ (at_skip (ds_ (sq_ (sq_ (qa0 [] [1] [(6, .int .i64 1)] (ds_ (at_block (at_loop (α := Int) [1, 6] (fun v => [(1, .pointer (some ⟨γ1 0, 0, none⟩)), (6, .int .i64 v)]) (fun v => [bx (γ1 0) (#[.int .i64 now, .slice p n cap, .slice pa na ca]) 27]) (fun v => 1 ≤ v ∧ v ≤ 17 ∧ ∀ u : Int, 1 ≤ u → u < v → (getK Tim.id ts (u - 1)).isSome = (getK Alm.vcpu rs u).isSome) (fun v => (17 - v).toNat) 1 (by kernel_rfl) rfl ⟨by omega, by omega, fun u h1 h2 => by omega⟩ ?_))))))))))))
   rintro v
   rintro ⟨hv1, hv2, hI⟩
   refine sq_ (sq_ ?_)
   by_cases q31 : (v : Int) ≤ (16 : Int)
   ·
    refine qa [(1, .yes)] [1, 6] [(35, .bool true)] ([(v : Int) ≤ (16 : Int)]) (al1 q31) (ds_ (t_ (at_skip (ds_ (sq_ (at_block (sq_ (ao_ (qo0 3 [(1, .go (owns 0 2 1))] [1, 6] [(40, .slice pa na ca), (41, .int .i64 v)] ?_)))))))))
    rcases ha34 : getK Alm.vcpu rs v with _ | z34
    ·
     have hpl34 := (pos_cut (k := v) hR).2.2
     refine cD (.tuple #[.int .i64 ((posK Alm.vcpu rs v : Nat)), .bool false]) (fun args w => Tryz.call30 args w) (fun w hw => by have := atg_t pa na ca rs v w (hrs.kept hw.below) hna (by omega) hR hA (by omega) (by omega); rw [hasK_none ha34] at this; exact this) (qo0 5 [] [1, 6] [(8, .bool false)] (on_ (ds_ (sq_ ?_))))
     refine at_calm rfl (by kernel_rfl) (by kernel_rfl) ?_
     refine cm 3 [(1, .go (owns 0 0 2))] [1, 6, 8] [(47, .agg #[.int .i64 now, .slice p n cap]), (48, .int .i64 v)] ([]) (by kernel_rfl) rfl al0 ?_
     refine cK (.int .i64 (v - 1)) (fun args w => Tryz.call29 args w) (fun w hw => alarmed_t v w (by omega) (by omega)) ?_
     rcases hg38 : getK Tim.id ts (v - 1) with _ | y38
     ·
      refine cK (.tuple #[.int .i64 0, .bool false]) (fun args w => Tryz.call37 args w) (fun w hw => by have := at_t now p n cap ts (v - 1) w (hts.kept hw.below) hn (by omega); rw [atO_ok q25, hg38] at this; exact this) ?_
      refine cm 5 [] [1, 6, 8] [(10, .bool false)] ([]) (by kernel_rfl) rfl al0 ?_
      refine calm_nil' ?_
      refine ds_ (sq_ (qa [(2, .eqs false)] [1, 6] [(55, .bool false)] ([EqRun Tryz.prog .neq 4 (.tmp 53) (.tmp 54) (.bool false) (.bool false) false]) (al1 (bool_ne false false)) (ds_ (f_ (at_skip (done_block (ds_ (qa [(1, .fit)] [1] [(6, .int .i64 (v + 1))] ([Fit .i64 (v + 1)]) (al1 (fit64 (by omega) (by omega))) ?_))))))))
      exact dr [1, 6] (v + 1) ⟨by omega, by omega, links_on hI (by rw [hg38, ha34]; rfl)⟩
     ·
      have hymy38 := (wheel_iff.1 q25).tm y38 (getK_mem hg38).1
      refine cK (.tuple #[.int .i64 y38.due, .bool true]) (fun args w => Tryz.call37 args w) (fun w hw => by have := at_t now p n cap ts (v - 1) w (hts.kept hw.below) hn (by omega); rw [atO_ok q25, hg38] at this; exact this) ?_
      refine cm 5 [] [1, 6, 8] [(10, .bool true)] ([]) (by kernel_rfl) rfl al0 ?_
      refine calm_nil' ?_
      refine ds_ (sq_ (qa [(2, .eqs true)] [1, 6] [(55, .bool true)] ([EqRun Tryz.prog .neq 4 (.tmp 53) (.tmp 54) (.bool true) (.bool false) true]) (al1 (bool_ne true false)) (ds_ (t_ (sq_ (qa0 [] [] [(2, .int .i64 280)] (ds_ (rt ([]) (.int .i64 280) ?_))))))))
      exact fun w' hw => ⟨by rw [al_bad_link (v := v) (by omega) (by omega) (by rw [hg38, ha34]; simp)]; rfl, hw.below⟩
    ·
     have hp_z34 := pos_getK hR ha34
     have hl_z34 := (List.getElem?_eq_some_iff.1 hp_z34).1
     have hz_z34 := getK_mem ha34
     refine cD (.tuple #[.int .i64 ((posK Alm.vcpu rs v : Nat)), .bool true]) (fun args w => Tryz.call30 args w) (fun w hw => by have := atg_t pa na ca rs v w (hrs.kept hw.below) hna (by omega) hR hA (by omega) (by omega); rw [hasK_some ha34] at this; exact this) (qo0 5 [] [1, 6] [(8, .bool true)] (on_ (ds_ (sq_ ?_))))
     refine at_calm rfl (by kernel_rfl) (by kernel_rfl) ?_
     refine cm 3 [(1, .go (owns 0 0 2))] [1, 6, 8] [(47, .agg #[.int .i64 now, .slice p n cap]), (48, .int .i64 v)] ([]) (by kernel_rfl) rfl al0 ?_
     refine cK (.int .i64 (v - 1)) (fun args w => Tryz.call29 args w) (fun w hw => alarmed_t v w (by omega) (by omega)) ?_
     rcases hg48 : getK Tim.id ts (v - 1) with _ | y48
     ·
      refine cK (.tuple #[.int .i64 0, .bool false]) (fun args w => Tryz.call37 args w) (fun w hw => by have := at_t now p n cap ts (v - 1) w (hts.kept hw.below) hn (by omega); rw [atO_ok q25, hg48] at this; exact this) ?_
      refine cm 5 [] [1, 6, 8] [(10, .bool false)] ([]) (by kernel_rfl) rfl al0 ?_
      refine calm_nil' ?_
      refine ds_ (sq_ (qa [(2, .eqs true)] [1, 6] [(55, .bool true)] ([EqRun Tryz.prog .neq 4 (.tmp 53) (.tmp 54) (.bool false) (.bool true) true]) (al1 (bool_ne false true)) (ds_ (t_ (sq_ (qa0 [] [] [(2, .int .i64 280)] (ds_ (rt ([]) (.int .i64 280) ?_))))))))
      exact fun w' hw => ⟨by rw [al_bad_link (v := v) (by omega) (by omega) (by rw [hg48, ha34]; simp)]; rfl, hw.below⟩
     ·
      have hymy48 := (wheel_iff.1 q25).tm y48 (getK_mem hg48).1
      refine cK (.tuple #[.int .i64 y48.due, .bool true]) (fun args w => Tryz.call37 args w) (fun w hw => by have := at_t now p n cap ts (v - 1) w (hts.kept hw.below) hn (by omega); rw [atO_ok q25, hg48] at this; exact this) ?_
      refine cm 5 [] [1, 6, 8] [(10, .bool true)] ([]) (by kernel_rfl) rfl al0 ?_
      refine calm_nil' ?_
      refine ds_ (sq_ (qa [(2, .eqs false)] [1, 6] [(55, .bool false)] ([EqRun Tryz.prog .neq 4 (.tmp 53) (.tmp 54) (.bool true) (.bool true) false]) (al1 (bool_ne true true)) (ds_ (f_ (at_skip (done_block (ds_ (qa [(1, .fit)] [1] [(6, .int .i64 (v + 1))] ([Fit .i64 (v + 1)]) (al1 (fit64 (by omega) (by omega))) ?_))))))))
      exact dr [1, 6] (v + 1) ⟨by omega, by omega, links_on hI (by rw [hg48, ha34]; rfl)⟩
   ·
    refine qa [(1, .no)] [1, 6] [(35, .bool false)] ([¬ ((v : Int) ≤ (16 : Int))]) (al1 q31) (ds_ (f_ (at_leave _ rfl (ds_ (sq_ (qa0 [] [] [(2, .int .i64 0)] (ds_ (rt ([]) (.int .i64 0) ?_))))))))
    exact fun w' hw => ⟨by rw [al_good' hR hA q25 hI (by omega)]; rfl, hw.below⟩
end Go.Proofs.YtdbamgbgnpadjaaGreat

/-! Timers: ahead of the next one none fires; plain. -/
namespace Go.Proofs.YtdbamgbgnpadjaaGreat
open Go Go.RowKit

section
variable {now to : Int} {ts : List Tim} {x : Tim} {i : Nat}
/-- How much those that are left move. -/
def mvL (now to : Int) (l : List Tim) : Int := (l.map fun t => (placeV now t.due).1 - (placeV to t.due).1).sum
end
end Go.Proofs.YtdbamgbgnpadjaaGreat

/-! Alarms: which are the same, what they tell. -/
namespace Go.Proofs.YtdbamgbgnpadjaaGreat
open Go Go.RowKit
theorem alm_eqRun (op : BinOp) (hop : op = .eql ∨ op = .neq) (x y : Operand) (a b : Alm) (r : Bool) (hr : r = (if op = .eql then decide (a = b) else !decide (a = b))) : EqRun Tryz.prog op 32 x y (.agg #[.int .i64 a.vcpu, .int .i64 a.port, .int .i64 a.every]) (.agg #[.int .i64 b.vcpu, .int .i64 b.port, .int .i64 b.every]) r := by
 intro w
 subst hr
 have hS : Tryz.prog.underlying 32 = some (.struct (Tryz.prog.fieldsOf 32)) := by kernel_rfl
 have hp : Tryz.prog.stoodInHeld 32 = false := by kernel_rfl
 have hg : Tryz.prog.eqGuardType Tryz.prog.depth 32 = false := by kernel_rfl
 have key : (Op.equal 32 (.agg #[.int .i64 a.vcpu, .int .i64 a.port, .int .i64 a.every]) (.agg #[.int .i64 b.vcpu, .int .i64 b.port, .int .i64 b.every])).run Tryz.prog w = .ok (decide (a = b)) w := by
  unfold Op.equal
  rw [show Op.maxDepth = 9999 + 1 from rfl, run_equalIn_struct w 9999 32 _ _ hS hp]
  simp only [Program.fieldsOf, Tryz.underlying32]
  go_simp
  obtain ⟨a0, a1, a2⟩ := a
  obtain ⟨b0, b1, b2⟩ := b
  simp only [Alm.mk.injEq]
  by_cases h0 : a0 = b0 <;> by_cases h1 : a1 = b1 <;> by_cases h2 : a2 = b2 <;> simp [h0, h1, h2]
 have guard : (eqGuard op 32 x y (.agg #[.int .i64 a.vcpu, .int .i64 a.port, .int .i64 a.every]) (.agg #[.int .i64 b.vcpu, .int .i64 b.port, .int .i64 b.every])).run Tryz.prog w = .ok () w := by
  unfold eqGuard
  rcases hop with rfl | rfl <;> simp [hg]
 rw [Sem.run_bind, guard]
 simp only [Result.andThen_ok]
 rcases hop with rfl | rfl <;> simp [binOp, Sem.run_bind, key]
theorem alm_ne_t {x y : Operand} {a b : Alm} (h : a = b) : EqRun Tryz.prog .neq 32 x y (.agg #[.int .i64 a.vcpu, .int .i64 a.port, .int .i64 a.every]) (.agg #[.int .i64 b.vcpu, .int .i64 b.port, .int .i64 b.every]) false := alm_eqRun _ (.inr rfl) x y a b _ (by simp [h])
theorem alm_ne_f {x y : Operand} {a b : Alm} (h : ¬ a = b) : EqRun Tryz.prog .neq 32 x y (.agg #[.int .i64 a.vcpu, .int .i64 a.port, .int .i64 a.every]) (.agg #[.int .i64 b.vcpu, .int .i64 b.port, .int .i64 b.every]) true := alm_eqRun _ (.inr rfl) x y a b _ (by simp [h])

set_option maxRecDepth 100000 in
theorem aget_t (now : Int) (p : Option Addr) (n cap : Nat) (ts : List Tim) (pa : Option Addr) (na ca : Nat) (rs : List Alm) (k : Int) (w : World)
 (hts : Sv w p ts) (hn : n = ts.length) (hb : n ≤ 1000)
 (hrs : Sv w pa rs) (hna : na = rs.length) (hba : na ≤ 1000)
 (hk1 : -1000 ≤ k) (hk2 : k ≤ 1000)
 : Calls Tryz.prog 13 #[.agg #[.int .i64 now, .slice p n cap, .slice pa na ca], .int .i64 k] w fun e w' => e = .returned (gaV (getA now ts rs k)) ∧ Below w.heap.size w w' := by
 refine enter (Hs.start w) Tryz.func13 rfl Tryz.ntmps13 rfl (sq_ (ma0 [] [1] (fun γ1 => [(2, .pointer (some ⟨γ1 0, 0, none⟩)), (4, .pointer (some ⟨γ1 1, 0, none⟩))]) (fun γ1 L => bx (γ1 1) (#[.int .i64 0, .int .i64 0, .int .i64 0]) 32 :: bx (γ1 0) (#[.int .i64 now, .slice p n cap, .slice pa na ca]) 27 :: L) (fun γ1 => ds_ (sq_ (ao_ (qo0 3 [(1, .go (owns 1 2 1))] [1, 2, 4] [(13, .slice pa na ca), (14, .int .i64 k)] ?_))))))
 rcases q3 : alB now ts rs with _ | _
 ·
  refine cP (fun v L' => ∃ (i : Nat) (b : Bool), v = .tuple #[.int .i64 (i : Nat), .bool b] ∧ L' = [bx (γ1 1) (#[.int .i64 0, .int .i64 0, .int .i64 0]) 32, bx (γ1 0) (#[.int .i64 now, .slice p n cap, .slice pa na ca]) 27]) (fun args w => Tryz.call30 args w) (fun w hw => (atw_t pa na ca rs k w (hrs.kept hw.below) hna (by omega)).mono (fun e w' ⟨i, b, he, h3⟩ => ⟨_, _, he, ⟨i, b, rfl, rfl⟩, hw.kept h3⟩)) ?_
  rintro v4 L4 ⟨i4, b4, rfl, rfl⟩
  refine qo0 5 [] [1, 2, 4] [(7, .int .i64 ((i4 : Nat))), (8, .bool b4)] (on_ (ds_ (sq_ (sq_ (ao_ (qo0 1 [(0, .go (owns 1 0 3))] [1, 2, 4, 7, 8] [(18, .agg #[.int .i64 now, .slice p n cap, .slice pa na ca])] (cD (.int .i64 280) (fun args w => Tryz.call36 args w) (fun w hw => by have := acheck_t now p n cap ts pa na ca rs w (hts.kept hw.below) hn (by omega) (hrs.kept hw.below) hna (by omega); rw [q3] at this; exact this) (qo0 5 [] [1, 2, 4, 7] [(24, .bool true)] (on_ (ds_ (t_ (sq_ (qa0 [(1, .go (owns 0 0 3))] [4] [(5, .int .i64 0), (6, .bool false)] (ds_ (rt (owns 0 0 3) (.tuple #[.agg #[.int .i64 0, .int .i64 0, .int .i64 0], .int .i64 0, .bool false]) ?_)))))))))))))))
  exact fun w' hw => ⟨by rw [getA_bad q3]; rfl, hw.below⟩
 ·
  rcases ha9 : getK Alm.vcpu rs k with _ | z9
  ·
   have hpl9 := (pos_cut (k := k) (al_iff.1 q3).rr).2.2
   refine cD (.tuple #[.int .i64 ((posK Alm.vcpu rs k : Nat)), .bool false]) (fun args w => Tryz.call30 args w) (fun w hw => by have := atg_t pa na ca rs k w (hrs.kept hw.below) hna (by omega) (al_iff.1 q3).rr (al_iff.1 q3).al (by omega) (by omega); rw [hasK_none ha9] at this; exact this) (qo0 5 [] [1, 2, 4] [(7, .int .i64 ((posK Alm.vcpu rs k : Nat))), (8, .bool false)] (on_ (ds_ (sq_ (sq_ (ao_ (qo0 1 [(0, .go (owns 1 0 3))] [1, 2, 4, 7, 8] [(18, .agg #[.int .i64 now, .slice p n cap, .slice pa na ca])] (cD (.int .i64 0) (fun args w => Tryz.call36 args w) (fun w hw => by have := acheck_t now p n cap ts pa na ca rs w (hts.kept hw.below) hn (by omega) (hrs.kept hw.below) hna (by omega); rw [q3] at this; exact this) (qo0 5 [] [1, 2, 4, 7] [(24, .bool true)] (on_ (ds_ (t_ (sq_ (qa0 [(1, .go (owns 0 0 3))] [4] [(5, .int .i64 0), (6, .bool false)] (ds_ (rt (owns 0 0 3) (.tuple #[.agg #[.int .i64 0, .int .i64 0, .int .i64 0], .int .i64 0, .bool false]) ?_))))))))))))))))
   exact fun w' hw => ⟨by rw [getA_none q3 ha9]; rfl, hw.below⟩
  ·
   have hp_z9 := pos_getK (al_iff.1 q3).rr ha9
   have hl_z9 := (List.getElem?_eq_some_iff.1 hp_z9).1
   have hz_z9 := getK_mem ha9
   refine cD (.tuple #[.int .i64 ((posK Alm.vcpu rs k : Nat)), .bool true]) (fun args w => Tryz.call30 args w) (fun w hw => by have := atg_t pa na ca rs k w (hrs.kept hw.below) hna (by omega) (al_iff.1 q3).rr (al_iff.1 q3).al (by omega) (by omega); rw [hasK_some ha9] at this; exact this) (qo0 5 [] [1, 2, 4] [(7, .int .i64 ((posK Alm.vcpu rs k : Nat))), (8, .bool true)] (on_ (ds_ (sq_ (sq_ (ao_ (qo0 1 [(0, .go (owns 1 0 3))] [1, 2, 4, 7, 8] [(18, .agg #[.int .i64 now, .slice p n cap, .slice pa na ca])] (cD (.int .i64 0) (fun args w => Tryz.call36 args w) (fun w hw => by have := acheck_t now p n cap ts pa na ca rs w (hts.kept hw.below) hn (by omega) (hrs.kept hw.below) hna (by omega); rw [q3] at this; exact this) (qo0 5 [] [1, 2, 4, 7] [(24, .bool false)] (on_ (ds_ (f_ (at_skip (ds_ (sq_ ?_)))))))))))))))
   obtain ⟨y0, hy0⟩ := lk_some q3 ha9
   refine at_calm rfl (by kernel_rfl) (by kernel_rfl) ?_
   refine cm 3 [(1, .go (owns 1 0 2))] [2, 4, 7] [(28, .agg #[.int .i64 now, .slice p n cap]), (29, .int .i64 k)] ([]) (by kernel_rfl) rfl al0 ?_
   refine cK (.int .i64 (k - 1)) (fun args w => Tryz.call29 args w) (fun w hw => alarmed_t k w (by omega) (by omega)) ?_
   refine cK (.tuple #[.int .i64 y0.due, .bool true]) (fun args w => Tryz.call37 args w) (fun w hw => by have := at_t now p n cap ts (k - 1) w (hts.kept hw.below) hn (by omega); rw [atO_ok (al_iff.1 q3).wh, hy0] at this; exact this) ?_
   refine cm 5 [] [2, 4, 7] [(9, .int .i64 y0.due)] ([]) (by kernel_rfl) rfl al0 ?_
   refine calm_nil' ?_
   refine ds_ (sq_ ?_)
   obtain ⟨b21, o21, rfl⟩ := hrs.pos (i := posK Alm.vcpu rs k) (by omega)
   refine ma [(1, .go (owns 1 2 1)), (3, .at b21 o21 (posK Alm.vcpu rs k)), (4, .go (outs b21 (o21 + (posK Alm.vcpu rs k) * 3) [.int .i64 z9.vcpu, .int .i64 z9.port, .int .i64 z9.every])), (6, .go (owns 0 0 3))] [4] (fun _ => [(5, .int .i64 y0.due), (6, .bool true)]) (fun _ L => (L.set 0 (bx (γ1 1) (#[.int .i64 z9.vcpu, .int .i64 z9.port, .int .i64 z9.every]) 32))) (fun _ => [(some ⟨b21, o21, none⟩ : Option Addr) = some ⟨b21, o21, none⟩, ((posK Alm.vcpu rs k : Nat)) = ((posK Alm.vcpu rs k : Nat) : Int), posK Alm.vcpu rs k < na] ++ (cellsP w b21 (o21 + (posK Alm.vcpu rs k) * 3) [.int .i64 z9.vcpu, .int .i64 z9.port, .int .i64 z9.every])) (fun _ => (alA (al2 rfl (al2 rfl (al1 (by omega)))) (rd_pre (hrs.get hp_z9) _ rfl))) (fun _ => ds_ (rt (owns 0 0 3) (.tuple #[.agg #[.int .i64 z9.vcpu, .int .i64 z9.port, .int .i64 z9.every], .int .i64 y0.due, .bool true]) ?_))
   exact fun w' hw => ⟨by rw [getA_some q3 ha9 hy0]; rfl, hw.below⟩
end Go.Proofs.YtdbamgbgnpadjaaGreat

/-! The walker: maps of one's own with whole numbers for keys. -/
namespace Go.Proofs.YtdbamgbgnpadjaaGreat
open Go Go.RowKit

/-- What a map holds: its entries, the oldest first. -/
def mget {β : Type} : List (Int × β) → Int → Option β
  | [], _ => none
  | p :: D, k => if p.1 = k then some p.2 else mget D k
def mupd {β : Type} : List (Int × β) → Int → β → List (Int × β)
  | [], k, v => [(k, v)]
  | p :: D, k, v => if p.1 = k then (k, v) :: D else p :: mupd D k v
structure MapIs {β : Type} (ik : IntKind) (enc : β → Value) (es : Array MapEntry) (D : List (Int × β)) : Prop where
  keys : es.toList.map (fun e => (e.key, e.val)) = D.map fun p => (.int ik p.1, enc p.2)
section
variable {β : Type} {ik : IntKind} {enc : β → Value} {es : Array MapEntry} {D : List (Int × β)} {k : Int} {v : β} {ck : Nat}
theorem MapIs.nil : MapIs ik enc #[] ([] : List (Int × β)) := ⟨rfl⟩
theorem MapIs.size (h : MapIs ik enc es D) : es.size = D.length := by
  have := congrArg List.length h.keys
  simpa using this
variable {P : Program} {w : World} {t kt et : TypeId} {r : Nat}
end

section
variable {E : Env} {k : List Fr} {l : Sl} {L : List Ob} {all os : List Oper} {o : Oper} {i : Nat}
/-- A map's type, asked by the kernel. -/
def mapB (P : Program) (t : TypeId) (ik : IntKind) (z : Value) : Prop := ∃ kt et, P.underlying t = some (.map kt et) ∧ P.underlying kt = some (.int ik) ∧ (P.info? et).bind (fun i => i.zero) = some z
end
end Go.Proofs.YtdbamgbgnpadjaaGreat

/-! The walker: make; append within one's own row; what a deletion of a stretch leaves; m[k]++. -/
namespace Go.Proofs.YtdbamgbgnpadjaaGreat
open Go Go.RowKit

section
variable {E : Env} {k : List Fr} {l : Sl} {L : List Ob} {all os : List Oper} {o : Oper} {i : Nat}
/-- append onto a prefix of one's own row, where there is room. -/
theorem ops_appendR (j : Nat) {x y : Operand} {t tx T T' : TypeId} {ks by_ : Nat} (ho : o.op = .call { callee := .builtin .append, args := #[x, y], argTypes := #[t, tx] }) (hw : wantL all l o = some true) (hd : (okD E.n o.dst && knownO l o) = true)
    {g n cap m : Nat} {c : Array Value} {yv : Value} (news : List Value) (hx : look l x = .slice (some ⟨g, 0, none⟩) n cap) (hy : look l y = yv) (hE : elemB E.P t T ks by_ = true) (hj : L[j]? = some (bx g c T')) (hroom : n + m ≤ cap)
    (hs : ∀ w, Hs E.w0 L w → Go.Src E.P ks tx yv m news w) (hsz : 0 + n * ks + news.length ≤ c.size) (h : Ops E k all os (i + 1) (putL o.dst (.slice (some ⟨g, 0, none⟩) (n + m) cap) l) (L.set j (bx g (sets c (0 + n * ks) news) T'))) : Ops E k all (o :: os) i l L := by
  refine ⟨fun a w ha hw' => ?_⟩
  simp only [Bool.and_eq_true] at hd
  have hg := wantL_spec ha hw
  refine wpListIn_step fun K hK => ?_
  rw [if_pos hg]
  have hrow : w.heap[g]? = some (.cells c T' (0, 0)) := hw'.row j hj
  refine ⟨fun _ _ => trivial, ?_⟩
  rw [Oper.semAt_eq _ _ _ (fun c e => by rw [ho] at e; cases e), look_exec ha hd.2]
  obtain ⟨ht, inf, z, hi, _, _, hks, _⟩ := elemB_spec hE
  subst hks
  have hr := run_append_room_src w t tx o.type T inf ht hi g 0 n cap yv m news (hs w hw') hroom (fun j hj => by rw [cell_own hrow, Array.getElem?_eq_getElem (by omega)]; rfl) (fun j hj => froz_own hrow _)
  have e : (execOp (look l) o).run E.P w = .ok (.value (.slice (some ⟨g, 0, none⟩) (n + m) cap)) (w.setCells g (0 + n * inf.size) news) := by
    simp only [execOp, ho, resolve, invoke, builtin, hx, hy, List.map_toArray, List.map_cons, List.map_nil, Sem.run_bind, Sem.run_pure, Result.andThen_ok]
    simp [hr, hx, hy]
  rw [e]
  exact hK _ _ (h.out _ _ (ha.put hd.1 _) (hw'.turn j hj (turn_sets g T' news _ w c hrow hsz)))
end
section
variable {α : Type} [Enc α] {l : List α} {i i2 n cap : Nat} {cs c2 : Array Value}
/-- The cells of a stretch of one's own row, as a source. -/
theorem src_own {P : Program} {tx e : TypeId} {w : World} {g cap : Nat} {T : TypeId} (hu : P.underlying tx = some (.slice e)) (hg : w.heap[g]? = some (.cells cs T (0, 0))) (h : OwnS (Enc.k α) (l.flatMap Enc.enc) n cap cs) (hi : i ≤ n) :
    Go.Src P (Enc.k α) tx (.slice (some ⟨g, 0 + i * Enc.k α, none⟩) (n - i) (cap - i)) (n - i) ((cs.toList.drop (0 + i * Enc.k α)).take ((n - i) * Enc.k α)) w := by
  refine Go.Src.ofSlice _ hu _ _ _ _ (row_len h hi) (fun j u hj => ?_) (row_one h hi)
  rw [addr_add, cell_own hg]
  rw [List.getElem?_take] at hj
  split at hj
  · rw [List.getElem?_drop] at hj; simpa using hj
  · cases hj
/-- A stretch struck out: what stood behind it is moved down, the rest is cleared. -/
theorem OwnS.strike (h : OwnS (Enc.k α) (l.flatMap Enc.enc) n cap cs) (hn : n = l.length) (hi : i ≤ i2) (hi2 : i2 ≤ n) (hsz : c2.size = cs.size)
    (hc : ∀ j, j < 0 + (i + (n - i2)) * Enc.k α → c2[j]? = (sets cs (0 + i * Enc.k α) ((cs.toList.drop (0 + i2 * Enc.k α)).take ((n - i2) * Enc.k α)))[j]?) :
    OwnS (Enc.k α) ((l.take i ++ l.drop i2).flatMap Enc.enc) (i + (n - i2)) cap c2 := by
  have hlen : (l.take i ++ l.drop i2).length = i + (n - i2) := by simp; omega
  have a0 : i * Enc.k α ≤ i2 * Enc.k α := Nat.mul_le_mul_right _ hi
  have a1 : i2 * Enc.k α ≤ n * Enc.k α := Nat.mul_le_mul_right _ hi2
  have a2 : (n - i2) * Enc.k α = n * Enc.k α - i2 * Enc.k α := Nat.sub_mul ..
  have a3 : (i + (n - i2)) * Enc.k α = i * Enc.k α + (n - i2) * Enc.k α := Nat.add_mul ..
  have a4 : n * Enc.k α ≤ cap * Enc.k α := Nat.mul_le_mul_right _ h.le
  have hcs := h.csz
  have lt3 : (l.flatMap Enc.enc).length = n * Enc.k α := by rw [flat_len, hn]
  have lt1 : ((l.flatMap Enc.enc).take (i * Enc.k α)).length = i * Enc.k α := by rw [List.length_take, lt3]; omega
  have ln := row_len h hi2
  have e1 : (l.take i ++ l.drop i2).flatMap Enc.enc = (l.flatMap Enc.enc).take (i * Enc.k α) ++ (l.flatMap Enc.enc).drop (i2 * Enc.k α) := by rw [List.flatMap_append, flat_take, flat_drop]
  refine ⟨by rw [flat_len, hlen], by have := h.le; omega, h.max, by rw [hsz]; exact h.csz, ?_⟩
  rw [e1]
  apply List.ext_getElem?
  intro j
  rw [List.getElem?_take]
  by_cases hj : j < (i + (n - i2)) * Enc.k α
  · rw [if_pos hj, Array.getElem?_toList, hc j (by omega), sets_get _ _ _ _ (by rw [ln]; omega), ln]
    by_cases j1 : j < i * Enc.k α
    · rw [if_neg (by omega), h.get j (by omega), List.getElem?_append_left (by omega), List.getElem?_take, if_pos j1]
    · rw [if_pos (by omega), List.getElem?_take, if_pos (by omega), List.getElem?_drop, Array.getElem?_toList, h.get _ (by omega), List.getElem?_append_right (by omega), lt1, List.getElem?_drop]
      congr 1; omega
  · rw [if_neg hj, List.getElem?_eq_none (by simp only [List.length_append, List.length_drop, lt1, lt3]; omega)]
end
/-! ### m[k]++ -/
section
variable {β : Type} {ik : IntKind} {enc : β → Value} {es : Array MapEntry} {D : List (Int × β)} {k : Int} {ck : Nat} {P : Program} {w : World} {t kt et : TypeId} {r : Nat}
/-- The entries' stamps: all apart, below the clock. -/
def Stamps (es : Array MapEntry) (ck : Nat) : Prop := (es.toList.map (·.born)).Nodup ∧ ∀ e ∈ es.toList, e.born < ck
theorem Stamps.nil : Stamps #[] 0 := ⟨by simp, fun _ h => by simp at h⟩
end
end Go.Proofs.YtdbamgbgnpadjaaGreat

/-! The walker: a drawn region that acts, whose first operations only look and come up ahead of all others: they are walked once, in the order of the text. -/
namespace Go.Proofs.YtdbamgbgnpadjaaGreat
open Go Go.RowKit

section
variable {P : Program} {ops : Array Oper} {C : (Nat → Bool) → World → Prop} {Q : Array Bool → Act → Prop} {m : Nat}
def lexTo (ops : Array Oper) : Nat → Nat → Array Bool → Bool
  | 0, _, _ => true
  | f + 1, k, listed => (Region.ready .any ops listed).contains k && Region.free .any ops listed k && lexTo ops f (k + 1) (listed.setIfInBounds k true)
def setTo : Nat → Nat → Array Bool → Array Bool
  | 0, _, L => L
  | n + 1, k, L => setTo n (k + 1) (L.setIfInBounds k true)
def wpPre (P : Program) (ops : Array Oper) (m : Nat) (C : (Nat → Bool) → World → Prop) (Q : Array Bool → Act → Prop) : Nat → Array Bool → Act → Prop
  | 0, listed, a => (∀ i ∈ Region.ready .any ops listed, ¬ i < m) ∧ Q listed a
  | f + 1, listed, a => (∃ i ∈ Region.ready .any ops listed, i < m) ∧ ∀ i ∈ Region.ready .any ops listed, i < m → ∃ o v, ops[i]? = some o ∧ Leaves P ops C i o v a ∧ wpPre P ops m C Q f (listed.setIfInBounds i true) (a.put o.dst v)
theorem wpPre_first {i : Nat} {oi : Oper} {v : Value} (him : i < m) (hi : ops[i]? = some oi) (hsel : ∀ (j : Nat) (o : Oper) cs b, ops[j]? = some o → o.op ≠ .select cs b) :
    ∀ (fuel : Nat) (listed : Array Bool) (a : Act),
      (∀ j oj, ops[j]? = some oj → j ≠ i → listed.getD j true = false → (∀ e ∈ oj.after, Region.binds .any e = true → e.on ≠ i) → oi.apart ops oj = true) →
      i ∈ Region.ready .any ops listed → Leaves P ops C i oi v a →
      wpPre P ops m C Q fuel (listed.setIfInBounds i true) (a.put oi.dst v) → wpPre P ops m C Q (fuel + 1) listed a := by
  intro fuel
  induction fuel with
  | zero =>
    intro listed a _ hr hy H
    refine ⟨⟨i, hr, him⟩, fun j hj hjm => ?_⟩
    by_cases hji : j = i
    · subst hji; exact ⟨oi, v, hi, hy, H⟩
    · exact absurd hjm (H.1 j (ready_mono hj hji))
  | succ fuel ih =>
    intro listed a hfree hr hy H
    refine ⟨⟨i, hr, him⟩, fun j hj hjm => ?_⟩
    by_cases hji : j = i
    · subst hji; exact ⟨oi, v, hi, hy, H⟩
    · obtain ⟨oj, u, hoj, hyj, hrest⟩ := H.2 j (ready_mono hj hji) hjm
      obtain ⟨hjun, oj', hoj', hall⟩ := mem_ready.1 hj
      obtain rfl : oj = oj' := Option.some.inj (hoj.symm.trans hoj')
      have hnot : ∀ e ∈ oj.after, Region.binds .any e = true → e.on ≠ i := fun e he hb heq => by
        have h1 := hall e he hb
        have h0 := (mem_ready.1 hr).1
        rw [heq] at h1
        rcases Nat.lt_or_ge i listed.size with h' | h'
        · simp [h'] at h0 h1; rw [h0] at h1; cases h1
        · simp [Array.getElem?_eq_none h'] at h1
      have hap := hfree j oj hoj hji hjun hnot
      obtain ⟨h1, h2, h3⟩ := Oper.apart_spec hap
      have hyj' : Leaves P ops C j oj u a := hyj.of_same (execOp_put oj (fun cs b => hsel j oj cs b hoj) a oi.dst v h1).symm (wanted_put oj a oi.dst v h1).symm
      have hyi' : Leaves P ops C i oi v (a.put oj.dst u) := hy.of_same (execOp_put oi (fun cs b => hsel i oi cs b hi) a oj.dst u h3) (wanted_put oi a oj.dst u h3)
      have hfree' : ∀ k ok, ops[k]? = some ok → k ≠ i → (listed.setIfInBounds j true).getD k true = false →
          (∀ e ∈ ok.after, Region.binds .any e = true → e.on ≠ i) → oi.apart ops ok = true := fun k ok hk hki hun hno => by
        refine hfree k ok hk hki ?_ hno
        by_cases hjk : j = k
        · subst hjk; exact hjun
        · rw [getD_set_ne true hjk] at hun; exact hun
      refine ⟨oj, u, hoj, hyj', ih _ _ hfree' (ready_mono hr (Ne.symm hji)) hyi' ?_⟩
      rw [Array.setIfInBounds_comm _ _ hji, ← Act.put_comm a v u h2]
      exact hrest
theorem wpPre_lex (hs : Region.noSelect ops = true) : ∀ (l : List Oper) (k : Nat) (listed : Array Bool) (a : Act), (∀ j, j < l.length → l[j]? = ops[k + j]?) → k + l.length = m → listed.size = ops.size → (∀ j, j < k → listed.getD j false = true) →
    lexTo ops l.length k listed = true → wpCalm P ops C (fun a' => Q (setTo l.length k listed) a') l k a → wpPre P ops m C Q l.length listed a
  | [], k, listed, _, _, hm, _, hd, _, h => by
    refine ⟨fun i hi him => ?_, h⟩
    have h1 := getD_both' (mem_ready.1 hi).1
    rw [hd i (by simp at hm; omega)] at h1
    cases h1
  | o :: l, k, listed, a, hl, hm, hsz, hd, hB, h => by
    have h0 : ops[k]? = some o := by simpa using (hl 0 (by simp)).symm
    simp only [List.length_cons, lexTo, Bool.and_eq_true] at hB
    obtain ⟨⟨hr, hf⟩, hB'⟩ := hB
    have hl' : ∀ j, j < l.length → l[j]? = ops[(k + 1) + j]? := fun j hj => by have := hl (j + 1) (by simpa using hj); simpa [Nat.add_assoc, Nat.add_comm 1 j] using this
    have hy : ∃ v, Leaves P ops C k o v a ∧ wpCalm P ops C (fun a' => Q (setTo (o :: l).length k listed) a') l (k + 1) (a.put o.dst v) := by
      unfold wpCalm at h
      split at h
      · rename_i hw; obtain ⟨v, h1, h2⟩ := h; exact ⟨v, .inl ⟨hw, h1⟩, h2⟩
      · rename_i hw; exact ⟨undef, .inr ⟨by simpa using hw, rfl, h.1⟩, h.2⟩
    obtain ⟨v, hy, hK⟩ := hy
    have hk : k < listed.size := by rw [hsz]; exact (Array.getElem?_eq_some_iff.1 h0).1
    exact wpPre_first (by simp at hm; omega) h0 (Region.noSelect_spec hs) l.length listed a (Region.free_spec h0 hf) (by simpa using hr) hy
      (wpPre_lex hs l (k + 1) _ _ hl' (by simp at hm; omega) (by simpa using hsz) (fun j hj => by
        have := congrFun (flags_set (listed := listed) (i := k) hk) j
        unfold flags upd at this
        rw [this]
        by_cases hjk : j = k
        · simp [hjk]
        · simp [hd j (by omega)]) hB' hK)
/-- What is listed has all that it waited for. -/
def Down (ops : Array Oper) (listed : Array Bool) : Prop := ∀ j, listed.getD j false = true → ∀ o, ops[j]? = some o → ∀ e ∈ o.after, Region.binds .any e = true → listed.getD e.on false = true
def reach (ops : Array Oper) : Nat → Nat → Nat → Bool
  | 0, _, _ => false
  | f + 1, i, t => match ops[i]? with
    | none => false
    | some o => o.after.any (fun e => Region.binds .any e && e.on == t) || o.after.any (fun e => Region.binds .any e && reach ops f e.on t)
def gate (ops : Array Oper) (m : Nat) : Bool := (List.range ops.size).all fun i => decide (i < m) || (List.range m).all fun t => reach ops ops.size i t
theorem reach_listed {listed : Array Bool} (hd : Down ops listed) : ∀ (f i t : Nat), reach ops f i t = true → (∀ o, ops[i]? = some o → ∀ e ∈ o.after, Region.binds .any e = true → listed.getD e.on false = true) → listed.getD t false = true
  | 0, _, _, h, _ => by cases h
  | f + 1, i, t, h, hi => by
    simp only [reach] at h
    split at h
    · cases h
    · rename_i o ho
      rw [Bool.or_eq_true, Array.any_eq_true', Array.any_eq_true'] at h
      rcases h with ⟨e, he, h⟩ | ⟨e, he, h⟩
      · simp only [Bool.and_eq_true, beq_iff_eq] at h
        rw [← h.2]; exact hi o ho e he h.1
      · simp only [Bool.and_eq_true] at h
        exact reach_listed hd f e.on t h.2 fun o' ho' => hd e.on (hi o ho e he h.1) o' ho'
def noDefer (l : List Oper) : Bool := l.all fun o => match o.op with
  | .defer _ => false
  | _ => true
theorem wpIn_of_calm {rd : Option Nat} {n : Nat} {o : Oper} {a : Act} {w : World} {C' : World → Prop} {v : Value} {K : Act → World → Prop} {Q : Exit → Act → World → Prop} (hdf : ∀ c, o.op ≠ .defer c) (h : calmAt P o a C' w v)
    (hK : ∀ w', C' w' → K (a.put o.dst v) w') : o.wpIn (fen rd) n P a w K Q := by
  refine ⟨fun _ _ => trivial, ?_⟩
  rw [Oper.semAt_eq _ _ _ hdf]
  unfold calmAt at h
  generalize (execOp a.eval o).run P w = r at *
  cases r with
  | ok x w' =>
    cases x <;> simp only [calmUpon] at h
    case value u => rw [h.1]; exact hK _ h.2
    case skip => obtain ⟨rfl, h2⟩ := h; exact hK _ h2
    case enter f args =>
      refine ⟨fun h => (by cases h), fen_calls ?_⟩
      exact h.mono fun e w'' ⟨he, hw''⟩ => by subst he; exact hK _ hw''
  | halt x w' => simp only [calmUpon] at h
theorem anyIn_of_pre {rd : Option Nat} {n f : Nat} {Q' : Exit → Act → World → Prop} (hdf : ∀ (j : Nat) (o : Oper) c, ops[j]? = some o → o.op ≠ .defer c) (hg : gate ops m = true)
    (hK : ∀ listed a w, Q listed a → C (flags listed) w → wpAnyIn (fen rd) n P .any ops Q' f listed a w) : ∀ (fuel : Nat) (listed : Array Bool) (a : Act) (w : World), C (flags listed) w → Down ops listed → wpPre P ops m C Q fuel listed a → wpAnyIn (fen rd) n P .any ops Q' (fuel + f) listed a w
  | 0, listed, a, w, hC, _, h => by rw [Nat.zero_add]; exact hK _ _ _ h.2 hC
  | fuel + 1, listed, a, w, hC, hD, h => by
    rw [show fuel + 1 + f = (fuel + f) + 1 by omega]
    obtain ⟨⟨i0, hi0, him0⟩, h⟩ := h
    unfold wpAnyIn
    refine ⟨fun h0 => (by rw [h0] at hi0; cases hi0), fun i hi => ?_⟩
    obtain ⟨hun, o', ho', hall⟩ := mem_ready.1 hi
    have him : i < m := by
      by_cases him : i < m
      · exact him
      · exfalso
        have h1 := List.all_eq_true.1 hg i (List.mem_range.2 (Array.getElem?_eq_some_iff.1 ho').1)
        simp only [him, decide_false, Bool.false_or] at h1
        have h2 := reach_listed hD _ _ _ (List.all_eq_true.1 h1 i0 (List.mem_range.2 him0)) fun o ho => by
          obtain rfl : o' = o := Option.some.inj (ho'.symm.trans ho)
          exact hall
        have h3 := getD_both' (mem_ready.1 hi0).1
        rw [h2] at h3; cases h3
    obtain ⟨o, v, ho, hy, hr⟩ := h i hi him
    obtain rfl : o = o' := Option.some.inj (ho.symm.trans ho')
    have hlt := ready_lt hi
    have hf := flags_set (listed := listed) hlt
    have hn : Now i o (flags listed) := ⟨getD_both' hun, hall⟩
    have hD' : Down ops (listed.setIfInBounds i true) := by
      intro j hj oj hoj e he hb
      by_cases hji : j = i
      · subst hji
        obtain rfl : o = oj := Option.some.inj (ho.symm.trans hoj)
        exact getD_set_true (hall e he hb)
      · rw [getD_set_ne false (fun e => hji e.symm)] at hj
        exact getD_set_true (hD j hj oj hoj e he hb)
    unfold wpOpIn
    simp only [ho]
    rcases hy with ⟨hwant, hv⟩ | ⟨hwant, rfl, hc⟩
    · rw [if_pos hwant]
      exact wpIn_of_calm (fun c => hdf i o c ho) (hv _ _ hC hn) fun w' hw' => anyIn_of_pre hdf hg hK fuel _ _ w' (by rw [hf]; exact hw') hD' hr
    · rw [if_neg (by simp [hwant])]
      exact ⟨fun _ _ => trivial, anyIn_of_pre hdf hg hK fuel _ _ w (by rw [hf]; exact hc _ _ hC hn) hD' hr⟩
end
section
variable {E : Env} {k : List Fr} {all : List Oper} {f : Nat} {l : Sl} {L : List Ob}
theorem at_calmTo {id : Nat} (m : Nat) (hrd : E.rd = none) (hm : E.P.follows .mixedOrders = true) (hsel : Region.noSelect all.toArray = true) (hdf : noDefer all = true) (hlex : lexTo all.toArray m 0 (Array.replicate all.length false) = true) (hg : gate all.toArray m = true) (hlen : all.length = m + f)
    (h : Calm E (.loop (fun a w => wpAnyIn (fen E.rd) 0 E.P .any all.toArray (postF E.rd E.P E.R k) f (setTo m 0 (Array.replicate all.length false)) a w) :: k) all (all.take m) 0 l L) : At E k (.region id all.toArray true) l L := by
  refine ⟨fun a w ha hs => wpIn_region_any hm ?_⟩
  have htl : (all.take m).length = m := by rw [List.length_take]; omega
  have hp := wpPre_lex (P := E.P) (C := fun _ w => Hs E.w0 L w) (Q := fun listed a' => ∀ w', Hs E.w0 L w' → wpAnyIn (fen E.rd) 0 E.P .any all.toArray (postF E.rd E.P E.R k) f listed a' w') (m := m) hsel (all.take m) 0 (Array.replicate all.length false) a
    (fun j hj => by rw [htl] at hj; simp [List.getElem?_take, hj]) (by omega) (by simp) (fun j hj => by omega) (by rw [htl]; exact hlex) (by rw [htl]; exact h.out a ha)
  rw [htl] at hp
  have := anyIn_of_pre (rd := E.rd) (n := 0) (f := f) (Q' := postF E.rd E.P E.R k) (fun j o c hj e => by
    have h1 := List.all_eq_true.1 hdf o (List.mem_of_getElem? (by simpa using hj))
    simp [e] at h1) hg (fun listed a' w' hq hC => hq w' hC) m (Array.replicate all.length false) a { w with drawn := w.drawn + 1 } ⟨hs.rows, hs.low, hs.apart, hs.below.drew⟩ (fun j hj => by
    simp only [Array.getD_eq_getD_getElem?, Array.getElem?_replicate] at hj
    split at hj <;> cases hj) hp
  simpa [hlen] using this
theorem done_pre {li li' : Array Bool} (e : li = li') (h : Any E k all f li' l L) : Done E (.loop (fun a w => wpAnyIn (fen E.rd) 0 E.P .any all.toArray (postF E.rd E.P E.R k) f li a w) :: k) l L := by subst e; exact done_loop fun a w ha hs => h.out a w ha hs
end
end Go.Proofs.YtdbamgbgnpadjaaGreat

/-! Alarms: slices.Clone, Insert, DeleteFunc. -/
namespace Go.Proofs.YtdbamgbgnpadjaaGreat
open Go Go.RowKit

set_option maxRecDepth 100000 in
theorem aclone_t (p : Option Addr) (n cap : Nat) (l : List Alm) (w : World)
    (hsl : Sv w p l) (hn : n = l.length) (hb : n ≤ 1000)
    : Calls Tryz.prog 57 #[.slice p n cap] w fun e w' => ∃ q capq Y, e = .returned (.slice q n capq) ∧ SlO 32 Y q n capq l ∧ Below w.heap.size w w' ∧ Hs w Y w' := by
  refine enter (Hs.start w) Tryz.func57 rfl Tryz.ntmps57 rfl (sq_ (qa0 [] [0] [] (ds_ (sq_ (sq_ ?_)))))
  rcases p with _ | a3
  ·
    refine qa0 [] [0] [(4, .bool true)] (ds_ (t_ (sq_ (qa0 [] [] [(2, .slice none 0 0)] (ds_ (rt ([]) (.slice none 0 0) ?_))))))
    exact fun w' hw => ⟨none, 0, [], by rw [hn, hsl.none]; rfl, by rw [hn, hsl.none]; exact SlO.nil, hw.below, hw.sub (List.nil_sublist _)⟩
  ·
    refine qa0 [] [0] [(4, .bool false)] (ds_ (f_ (at_skip (ds_ (sq_ (ao_ (mo0 2 [] [] (fun γ7 => [(5, .slice (some ⟨γ7 0, 0, none⟩) 0 0), (6, .slice (some a3) n cap)]) (fun γ7 L => bx (γ7 0) (#[]) 32 :: L) (fun γ7 => ops_append (α := Alm) [] ([bx (γ7 0) (#[]) 32]) ([]) (mvE rfl) rfl (by kernel_rfl) (by kernel_rfl) (p := (some ⟨γ7 0, 0, none⟩)) (n := 0) (cap := 0) (m := n) (yv := .slice (some a3) n cap) (by kernel_rfl) (by kernel_rfl) (T := 32) (by_ := 24) (by kernel_rfl) ([]) l (SlO.lit (by rfl) (by rfl) (by simp [maxLen])) (fun w hw => src_svn Tryz.underlying25 (hsl.kept hw.below) hn) hn (by have hmx : maxLen = 9223372036854775807 := rfl; omega) (by have hmx : maxLen = 9223372036854775807 := rfl; omega) (fun Y8 p8 cap8 hO8 => qo0 1 [] [] [(2, .slice p8 (0 + n) cap8)] (on_ (ds_ (rt ([]) (.slice p8 (0 + n) cap8) ?_))))))))))))
    exact fun w' hw => ⟨_, _, _, by rw [Nat.zero_add], by simpa using hO8, hw.below, ((hw.tailN 0).sub (List.sublist_append_left Y8 ([])))⟩
set_option maxRecDepth 100000 in
theorem overlaps_findA : Extern.find Tryz.f62 = some (Extern.SlicesOverlaps.overlaps Tryz.f62.params Tryz.f62.resultTypes) := by kernel_rfl
set_option maxRecDepth 100000 in
theorem overlaps_nextA : Extern.findNext Tryz.f62 = none := by kernel_rfl
theorem overlaps_noA {w : World} {g1 o1 g2 o2 m n c1 c2 : Nat} {cs1 cs2 : Array Value} {T1 T2 : TypeId} (h1 : w.heap[g1]? = some (.cells cs1 T1 (0, 0))) (h2 : w.heap[g2]? = some (.cells cs2 T2 (0, 0))) (hne : g1 ≠ g2) :
    (callFunc 62 #[.slice (some ⟨g1, o1, none⟩) m c1, .slice (some ⟨g2, o2, none⟩) n c2]).run Tryz.prog w = .ok (.value (.bool false)) w := by
  have hf := Tryz.func62
  have hn : (Tryz.f62.name == "runtime.NumGoroutine") = false := by kernel_rfl
  have hb : Tryz.f62.body.isNone = true := by kernel_rfl
  have hp : Tryz.f62.params[0]? = some 25 := by kernel_rfl
  have hu := Tryz.underlying25
  obtain ⟨ht', inf, z', hi, hz', _, hks, hby⟩ := elemB_spec (show elemB Tryz.prog 25 32 3 24 = true by kernel_rfl)
  have hs : inf.size = 3 := by omega
  have s1 : w.shape? g1 = some (T1, cs1.size) := by simp [World.shape?, h1]
  have s2 : w.shape? g2 = some (T2, cs2.size) := by simp [World.shape?, h2]
  have f1 : ∀ j, w.frozen? ⟨g1, j, none⟩ = false := fun j => froz_own h1 j
  have f2 : ∀ j, w.frozen? ⟨g2, j, none⟩ = false := fun j => froz_own h2 j
  have run1 : ∀ args, (callFunc 62 args).run Tryz.prog w = ((Extern.SlicesOverlaps.overlaps Tryz.f62.params Tryz.f62.resultTypes args).run Tryz.prog w).andThen fun v w' => .ok (.value v) w' := fun args => by
    simp only [callFunc, Sem.run_bind, run_program, Result.andThen_ok, hf, hn, hb, overlaps_nextA, overlaps_findA]
    simp [mark, Sem.run, Sem.run_bind]
  rw [run1]
  have hne' : (g1 == g2) = false := by simpa using hne
  have hs' : (do let i ← typeInfo 32; pure i.size : Sem Nat).run Tryz.prog w = .ok 3 w := by simp [typeInfo, hi, hs]
  delta Extern.SlicesOverlaps.overlaps
  conv => lhs; arg 1; arg 2; whnf
  have hu' : Tryz.prog.underlying (Tryz.f62.params[0]'(by decide)) = some (.slice 32) := by kernel_rfl
  have sb : ∀ (α β : Type) (x : Sem α) (f : α → Sem β) (P : Program) (w : World), (x.bind f).run P w = (x.run P w).andThen fun a w' => (f a).run P w' := fun α β x f P w => Sem.run_bind' P x f w
  by_cases hm : m = 0 ∨ n = 0 ∨ inf.size = 0
  · simp [Sem.run, sb, hu', sizeOf, typeInfo, hi, hm]
  · simp [Sem.run, sb, hu', sizeOf, typeInfo, hi, hm, bne, hne', hne, noView, viewAt, mayBeOne, stringish, shape, frozen, s1, s2, f1, f2]

set_option maxRecDepth 100000 in
theorem ainsert_t (w0 : World) (X Y : List Ob) (p : Option Addr) (n cap : Nat) (l : List Alm) (i gv : Nat) (cv : Array Value) (m : Nat) (vl : List Alm) (w : World)
    (hH : Hs w0 (bx gv cv 32 :: (Y ++ X)) w) (hO : SlO 32 Y p n cap l) (hcv : cv.toList = vl.flatMap Enc.enc) (hm : m = vl.length) (hm0 : 0 < m) (hi : i ≤ n) (hb : n ≤ 1000) (hmb : m ≤ 1000)
    : Calls Tryz.prog 31 #[.slice p n cap, .int .i64 (i : Nat), .slice (some ⟨gv, 0, none⟩) m m] w fun e w' => ∃ q capq Y', e = .returned (.slice q (n + m) capq) ∧ SlO 32 Y' q (n + m) capq (l.take i ++ vl ++ l.drop i) ∧ Hs w0 (Y' ++ X) w' := by
  have hn := hO.len
  refine enter hH Tryz.func31 rfl Tryz.ntmps31 rfl (sq_ (qa0 [] [0, 1, 2] [] (ds_ (sq_ (qa [(2, .sl (.slice (if cap = i then p else p.map (·.add (i * 3))) (n - i) (cap - i)))] [0, 1, 2] [] ([SlRun Tryz.prog 25 (.slice p n cap) (some (.int .i64 ((i : Nat)))) none none (.slice (if cap = i then p else p.map (·.add (i * 3))) (n - i) (cap - i))]) (al1 (slE_cut (P := Tryz.prog) (T := 25) (e := 32) (k := 3) (by_ := 24) (by kernel_rfl) hi)) (ds_ (sq_ (qa0 [] [0, 1, 2] [(7, .int .i64 ((m : Nat)))] (ds_ (sq_ (sq_ (qa [(1, .no)] [0, 1, 2, 7] [(16, .bool false)] ([¬ (((m : Nat) : Int) = (0 : Int))]) (al1 ((by omega))) (ds_ (f_ (at_skip (ds_ (sq_ (qa0 [] [0, 1, 2, 7] [(8, .int .i64 ((n : Nat)))] (ds_ (sq_ (sq_ ?_)))))))))))))))))))))
  by_cases q7 : ((i : Nat) : Int) = ((n : Nat) : Int)
  ·
    refine qa [(2, .yes)] [0, 1, 2, 7, 8] [(22, .bool true)] ([((i : Nat) : Int) = ((n : Nat) : Int)]) (al1 q7) (ds_ (t_ (sq_ (ao_ (qo0 2 [] [] [(23, .slice p n cap), (24, .slice (some ⟨gv, 0, none⟩) m m)] (ops_append (α := Alm) [bx gv cv 32] Y X (.refl _) rfl (by kernel_rfl) (by kernel_rfl) (p := p) (n := n) (cap := cap) (m := m) (yv := .slice (some ⟨gv, 0, none⟩) m m) (by kernel_rfl) (by kernel_rfl) (T := 32) (by_ := 24) (by kernel_rfl) l vl hO (fun w hw => src_svn Tryz.underlying25 (sv_row (hw.row 0 rfl) hcv) hm) hm (by have hmx : maxLen = 9223372036854775807 := rfl; omega) (by have hmx : maxLen = 9223372036854775807 := rfl; omega) (fun Y10 p10 cap10 hO10 => qo0 1 [] [] [(6, .slice p10 (n + m) cap10)] (on_ (ds_ (rt ([]) (.slice p10 (n + m) cap10) ?_))))))))))
    exact fun w' hw => ⟨_, _, _, rfl, by rw [show i = l.length by omega, List.take_length, List.drop_length, List.append_nil]; exact hO10, hw.tailN 1⟩
  ·
    refine qa [(2, .no)] [0, 1, 2, 7, 8] [(22, .bool false)] ([¬ (((i : Nat) : Int) = ((n : Nat) : Int))]) (al1 q7) (ds_ (f_ (at_skip (ds_ (sq_ (sq_ ?_))))))
    obtain ⟨g, cs, rfl, rfl, hOw⟩ := hO.rowOf (i := i) (by omega)
    have hcap := hOw.le
    have hcs := hOw.csz
    have hmax := hOw.max
    by_cases q15 : ((n + m : Nat) : Int) > ((cap : Nat) : Int)
    ·
      refine qa [(2, .fit), (5, .yes)] [0, 1, 2, 7, 8] [(31, .bool true)] ([Fit .i64 ((n + m : Nat))] ++ ([((n + m : Nat) : Int) > ((cap : Nat) : Int)])) (alA (al1 (fit64 (by omega) (by omega))) (al1 q15)) (ds_ (t_ (sq_ (ao_ (qo 8 [(2, .sl (.slice (some ⟨g, 0, none⟩) i cap)), (5, .fit), (7, .is [] (.int .i64 ((n + m - i : Nat))))] [0, 1, 2, 7] [(34, .slice (some ⟨g, 0, none⟩) i cap), (39, .int .i64 ((n + m - i : Nat)))] ([SlRun Tryz.prog 25 (.slice (some ⟨g, 0, none⟩) n cap) none (some (.int .i64 ((i : Nat)))) none (.slice (some ⟨g, 0, none⟩) i cap)] ++ ([Fit .i64 ((n + m : Nat))] ++ ([Value.int .i64 (IntKind.i64.wrap ((((n + m : Nat)) : Int) - ((i : Nat) : Int))) = .int .i64 ((n + m - i : Nat))]))) (alA (al1 (slE_hi (P := Tryz.prog) (T := 25) (e := 32) (k := 3) (by_ := 24) (by kernel_rfl) (h := i) (by omega))) (alA (al1 (fit64 (by omega) (by omega))) (al1 (by rw [wrap_fit (fit64 (by omega) (by omega))]; congr 1; omega)))) (ops_appendZ rfl (by kernel_rfl) (by kernel_rfl) (p := some ⟨g, 0, none⟩) (m := i) (cap := cap) (n := n + m - i) ((cs.toList.drop 0).take (i * 3)) (by kernel_rfl) (by kernel_rfl) (T := 32) (ks := 3) (by_ := 24) (by kernel_rfl) Tryz.underlying3 (by decide) (olds_len hcs (by omega)) (fun w hw => first_row (hw.row 1 rfl) (by rw [hcs, Nat.zero_add]; exact Nat.mul_le_mul_right _ (by omega))) (by omega) (by omega) (by simp only [maxLen]; omega) (by omega) (fun g2 c2 cap2 hc2 hle2 hmax2 hpre2 => qo0 1 [] [0, 1, 2, 7] [(9, .slice (some ⟨g2, 0, none⟩) (i + (n + m - i)) cap2)] (on_ (ds_ (sq_ (ao_ (qo 4 [(2, .sl (.slice (some ⟨g2, 0 + i * 3, none⟩) (i + (n + m - i) - i) (cap2 - i)))] [0, 1, 7, 9] [(43, .slice (some ⟨g2, 0 + i * 3, none⟩) (i + (n + m - i) - i) (cap2 - i)), (44, .slice (some ⟨gv, 0, none⟩) m m)] ([SlRun Tryz.prog 25 (.slice (some ⟨g2, 0, none⟩) (i + (n + m - i)) cap2) (some (.int .i64 ((i : Nat)))) none none (.slice (some ⟨g2, 0 + i * 3, none⟩) (i + (n + m - i) - i) (cap2 - i))]) (al1 (slE_lo (P := Tryz.prog) (T := 25) (e := 32) (k := 3) (by_ := 24) (by kernel_rfl) (lo := i) (by omega) (by omega))) (ops_copy 0 rfl (by kernel_rfl) (by kernel_rfl) (g := g2) (of := (0 + i * 3)) (dn := (i + (n + m - i) - i)) (dc := (cap2 - i)) (m := m) (cnt := m) (c := c2) (yv := (.slice (some ⟨gv, 0, none⟩) m m)) (vl.flatMap Enc.enc) (by kernel_rfl) (by kernel_rfl) (T := 32) (ks := 3) (by_ := 24) (by kernel_rfl) (T' := 32) (by kernel_rfl) len_slice (by omega) (fun w hw => by have := first_sv (P := Tryz.prog) (w := w) (p := some ⟨gv, 0, none⟩) (m := m) (cap := m) (cnt := m) (sv_row (hw.row 1 rfl) hcv) (by omega); rw [List.take_of_length_le (by omega)] at this; exact this) (by rw [flat_len, ← hm]; exact mul_room (c := cap2) (by omega) hc2) (flat_one vl) ?_)))))))))))))
      refine on_ (ds_ (sq_ (at_calmTo (f := 1) 8 rfl (by kernel_rfl) (by kernel_rfl) (by kernel_rfl) (by kernel_rfl) (by kernel_rfl) (by kernel_rfl) ?_)))
      refine cm 8 [(3, .fit), (4, .sl (.slice (some ⟨g2, 0 + (i + m) * 3, none⟩) (i + (n + m - i) - (i + m)) (cap2 - (i + m)))), (7, .sl (.slice (some ⟨g, 0 + i * 3, none⟩) (n - i) (cap - i)))] [9] [(50, .slice (some ⟨g2, 0 + (i + m) * 3, none⟩) (i + (n + m - i) - (i + m)) (cap2 - (i + m))), (53, .slice (some ⟨g, 0 + i * 3, none⟩) (n - i) (cap - i))] ([Fit .i64 ((i + m : Nat))] ++ ([SlRun Tryz.prog 25 (.slice (some ⟨g2, 0, none⟩) (i + (n + m - i)) cap2) (some (.int .i64 ((i + m : Nat)))) none none (.slice (some ⟨g2, 0 + (i + m) * 3, none⟩) (i + (n + m - i) - (i + m)) (cap2 - (i + m)))] ++ ([SlRun Tryz.prog 25 (.slice (some ⟨g, 0, none⟩) n cap) (some (.int .i64 ((i : Nat)))) none none (.slice (some ⟨g, 0 + i * 3, none⟩) (n - i) (cap - i))]))) (by kernel_rfl) rfl (alA (al1 (fit64 (by omega) (by omega))) (alA (al1 (slE_lo (P := Tryz.prog) (T := 25) (e := 32) (k := 3) (by_ := 24) (by kernel_rfl) (lo := i + m) (by omega) (by omega))) (al1 (slE_lo (P := Tryz.prog) (T := 25) (e := 32) (k := 3) (by_ := 24) (by kernel_rfl) (lo := i) (by omega) (by omega))))) ?_
      refine calm_nil' ?_
      refine done_pre (li' := #[true, true, true, true, true, true, true, true, false]) (by kernel_rfl) ?_
      refine a1 8 rfl ?_
      refine ops_copy 0 rfl (by kernel_rfl) (by kernel_rfl) (g := g2) (of := (0 + (i + m) * 3)) (dn := (i + (n + m - i) - (i + m))) (dc := (cap2 - (i + m))) (m := (n - i)) (cnt := (n - i)) (c := ((sets c2 (0 + i * 3) (vl.flatMap Enc.enc)))) (yv := (.slice (some ⟨g, 0 + i * 3, none⟩) (n - i) (cap - i))) ((cs.toList.drop (0 + i * 3)).take ((n - i) * 3)) (by kernel_rfl) (by kernel_rfl) (T := 32) (ks := 3) (by_ := 24) (by kernel_rfl) (T' := 32) (by kernel_rfl) len_slice (by omega) (fun w hw => first_row (hw.row 2 rfl) (row_room hOw (by omega))) (by rw [sets_size]; exact copy_room (c := cap2) hOw (by omega) (by omega) hc2) (row_one hOw (by omega)) ?_
      refine od_ ?_
      refine any_nil (by kernel_rfl) ?_
      refine ds_ (sq_ (qa0 [] [] [(6, .slice (some ⟨g2, 0, none⟩) (i + (n + m - i)) cap2)] (ds_ (rt ([]) (.slice (some ⟨g2, 0, none⟩) (i + (n + m - i)) cap2) ?_))))
      exact fun w' hw => ⟨some ⟨g2, 0, none⟩, cap2, [_], by rw [show i + (n + m - i) = n + m by omega], .inr ⟨_, _, rfl, rfl, by simp; omega, ins_grow hOw (by omega) hm (by omega) hc2 (by omega) hmax2 hpre2⟩, hw.sub (.cons_cons _ (.cons _ (.cons _ (.refl _))))⟩
    ·
      refine qa [(2, .fit), (5, .no)] [0, 1, 2, 7, 8] [(31, .bool false)] ([Fit .i64 ((n + m : Nat))] ++ ([¬ (((n + m : Nat) : Int) > ((cap : Nat) : Int))])) (alA (al1 (fit64 (by omega) (by omega))) (al1 q15)) (ds_ (f_ (at_skip (ds_ (sq_ (qa [(3, .fit), (4, .sl (.slice (some ⟨g, 0, none⟩) (n + m) cap))] [1, 2, 7, 8] [(0, .slice (some ⟨g, 0, none⟩) (n + m) cap)] ([Fit .i64 ((n + m : Nat))] ++ ([SlRun Tryz.prog 25 (.slice (some ⟨g, 0, none⟩) n cap) none (some (.int .i64 ((n + m : Nat)))) none (.slice (some ⟨g, 0, none⟩) (n + m) cap)])) (alA (al1 (fit64 (by omega) (by omega))) (al1 (slE_hi (P := Tryz.prog) (T := 25) (e := 32) (k := 3) (by_ := 24) (by kernel_rfl) (h := n + m) (by omega)))) (ds_ (sq_ (sq_ (ao_ (qo 6 [(4, .fit), (5, .sl (.slice (some ⟨g, 0 + (i + m) * 3, none⟩) (n + m - (i + m)) (cap - (i + m))))] [0, 1, 2, 7, 8] [(61, .slice (some ⟨gv, 0, none⟩) m m), (66, .slice (some ⟨g, 0 + (i + m) * 3, none⟩) (n + m - (i + m)) (cap - (i + m)))] ([Fit .i64 ((i + m : Nat))] ++ ([SlRun Tryz.prog 25 (.slice (some ⟨g, 0, none⟩) (n + m) cap) (some (.int .i64 ((i + m : Nat)))) none none (.slice (some ⟨g, 0 + (i + m) * 3, none⟩) (n + m - (i + m)) (cap - (i + m)))])) (alA (al1 (fit64 (by omega) (by omega))) (al1 (slE_lo (P := Tryz.prog) (T := 25) (e := 32) (k := 3) (by_ := 24) (by kernel_rfl) (lo := i + m) (by omega) (by omega)))) (ops_ext (f := 62) (args := #[.slice (some ⟨gv, 0, none⟩) m m, .slice (some ⟨g, 0 + (i + m) * 3, none⟩) (n + m - (i + m)) (cap - (i + m))]) (.bool false) (by kernel_rfl) (by kernel_rfl) (by kernel_rfl) (fun w hw => overlaps_noA (hw.row 0 rfl) (hw.row 1 rfl) (apart_two hw (a := 0) (b := 1) rfl rfl (by decide))) (qo0 1 [] [0, 1, 2, 7, 8] [(68, .bool true)] (on_ (ds_ (t_ (sq_ (at_calmTo (f := 1) 8 rfl (by kernel_rfl) (by kernel_rfl) (by kernel_rfl) (by kernel_rfl) (by kernel_rfl) (by kernel_rfl) ?_))))))))))))))))))
      refine cm 8 [(3, .fit), (4, .sl (.slice (some ⟨g, 0 + (i + m) * 3, none⟩) (n + m - (i + m)) (cap - (i + m)))), (7, .sl (.slice (some ⟨g, 0 + i * 3, none⟩) (n + m - i) (cap - i)))] [0, 1, 2] [(73, .slice (some ⟨g, 0 + (i + m) * 3, none⟩) (n + m - (i + m)) (cap - (i + m))), (76, .slice (some ⟨g, 0 + i * 3, none⟩) (n + m - i) (cap - i))] ([Fit .i64 ((i + m : Nat))] ++ ([SlRun Tryz.prog 25 (.slice (some ⟨g, 0, none⟩) (n + m) cap) (some (.int .i64 ((i + m : Nat)))) none none (.slice (some ⟨g, 0 + (i + m) * 3, none⟩) (n + m - (i + m)) (cap - (i + m)))] ++ ([SlRun Tryz.prog 25 (.slice (some ⟨g, 0, none⟩) (n + m) cap) (some (.int .i64 ((i : Nat)))) none none (.slice (some ⟨g, 0 + i * 3, none⟩) (n + m - i) (cap - i))]))) (by kernel_rfl) rfl (alA (al1 (fit64 (by omega) (by omega))) (alA (al1 (slE_lo (P := Tryz.prog) (T := 25) (e := 32) (k := 3) (by_ := 24) (by kernel_rfl) (lo := i + m) (by omega) (by omega))) (al1 (slE_lo (P := Tryz.prog) (T := 25) (e := 32) (k := 3) (by_ := 24) (by kernel_rfl) (lo := i) (by omega) (by omega))))) ?_
      refine calm_nil' ?_
      refine done_pre (li' := #[true, true, true, true, true, true, true, true, false]) (by kernel_rfl) ?_
      refine a1 8 rfl ?_
      refine ops_copy 1 rfl (by kernel_rfl) (by kernel_rfl) (g := g) (of := (0 + (i + m) * 3)) (dn := (n + m - (i + m))) (dc := (cap - (i + m))) (m := (n + m - i)) (cnt := (n - i)) (c := cs) (yv := (.slice (some ⟨g, 0 + i * 3, none⟩) (n + m - i) (cap - i))) ((cs.toList.drop (0 + i * 3)).take ((n - i) * 3)) (by kernel_rfl) (by kernel_rfl) (T := 32) (ks := 3) (by_ := 24) (by kernel_rfl) (T' := 32) (by kernel_rfl) len_slice (by omega) (fun w hw => first_row (hw.row 1 rfl) (row_room hOw (by omega))) (copy_room (c := cap) hOw (by omega) (by omega) hcs) (row_one hOw (by omega)) ?_
      refine od_ ?_
      refine any_nil (by kernel_rfl) ?_
      refine ds_ (sq_ (ao_ (qo 4 [(2, .sl (.slice (some ⟨g, 0 + i * 3, none⟩) (n + m - i) (cap - i)))] [0] [(80, .slice (some ⟨g, 0 + i * 3, none⟩) (n + m - i) (cap - i)), (81, .slice (some ⟨gv, 0, none⟩) m m)] ([SlRun Tryz.prog 25 (.slice (some ⟨g, 0, none⟩) (n + m) cap) (some (.int .i64 ((i : Nat)))) none none (.slice (some ⟨g, 0 + i * 3, none⟩) (n + m - i) (cap - i))]) (al1 (slE_lo (P := Tryz.prog) (T := 25) (e := 32) (k := 3) (by_ := 24) (by kernel_rfl) (lo := i) (by omega) (by omega))) (ops_copy 1 rfl (by kernel_rfl) (by kernel_rfl) (g := g) (of := (0 + i * 3)) (dn := (n + m - i)) (dc := (cap - i)) (m := m) (cnt := m) (c := ((sets cs (0 + (i + m) * 3) ((cs.toList.drop (0 + i * 3)).take ((n - i) * 3))))) (yv := (.slice (some ⟨gv, 0, none⟩) m m)) (vl.flatMap Enc.enc) (by kernel_rfl) (by kernel_rfl) (T := 32) (ks := 3) (by_ := 24) (by kernel_rfl) (T' := 32) (by kernel_rfl) len_slice (by omega) (fun w hw => by have := first_sv (P := Tryz.prog) (w := w) (p := some ⟨gv, 0, none⟩) (m := m) (cap := m) (cnt := m) (sv_row (hw.row 0 rfl) hcv) (by omega); rw [List.take_of_length_le (by omega)] at this; exact this) (by rw [flat_len, ← hm, sets_size]; exact mul_room (c := cap) (by omega) hcs) (flat_one vl) (on_ (ds_ (sq_ (qa0 [] [] [(6, .slice (some ⟨g, 0, none⟩) (n + m) cap)] (ds_ (rt ([]) (.slice (some ⟨g, 0, none⟩) (n + m) cap) ?_))))))))))
      exact fun w' hw => ⟨_, _, [_], rfl, .inr ⟨_, _, rfl, rfl, by simp; omega, ins_room hOw (by omega) hm (by omega) (by omega)⟩, hw.sub (.cons _ (.refl _))⟩

set_option maxRecDepth 100000 in
theorem aindexf_t (w0 : World) (X : List Ob) (pg : FuncId) (pcb : Array Value) (pd : Alm → Bool) (p : Option Addr) (n cap : Nat) (l : List Alm) (w : World)
    (he : ∀ args w, (callFunc pg args).run Tryz.prog w = .ok (.enter pg args) w)
    (hX : Hs w0 X w) (hsl : Sv w p l) (hn : n = l.length) (hb : n ≤ 4611686018427387903)
    (hc : ∀ x ∈ l, ∀ w', Hs w0 X w' → Calls Tryz.prog pg (#[.agg #[.int .i64 x.vcpu, .int .i64 x.port, .int .i64 x.every]] ++ pcb) w' fun e w1 => e = .returned (.bool (pd x)) ∧ Below w'.heap.size w' w1)
    : Calls Tryz.prog 80 #[.slice p n cap, .func (.func pg) #[] pcb] w fun e w' => e = .returned (.int .i64 (idxF pd l)) ∧ Below w.heap.size w w' := by
  refine enter (Hs.start w) Tryz.func80 rfl Tryz.ntmps80 rfl (sq_ (qa0 [] [0, 1] [] (ds_ (sq_ (sq_ (qa0 [] [0, 1] [(7, .int .i64 ((n : Nat))), (8, .int .i64 0)] (ds_ (at_block (at_loop (α := Nat) [0, 1, 7, 8] (fun j => [(0, .slice p n cap), (1, .func (.func pg) #[] pcb), (7, .int .i64 ((n : Nat))), (8, .int .i64 ((j : Nat)))]) (fun j => []) (fun j => j ≤ n ∧ ∀ (t : Nat) (y : Alm), t < j → l[t]? = some y → pd y = false) (fun j => n - j) 0 (by kernel_rfl) rfl ⟨Nat.zero_le _, fun t y h => by omega⟩ ?_)))))))))
  rintro j
  rintro ⟨hj, hI⟩
  refine sq_ ?_
  by_cases q4 : ((j : Nat) : Int) < ((n : Nat) : Int)
  ·
    refine qa [(0, .yes)] [0, 1, 7, 8] [(9, .bool true)] ([((j : Nat) : Int) < ((n : Nat) : Int)]) (al1 q4) (ds_ (sq_ (t_ (at_skip (ds_ (sq_ (at_block (sq_ (qa0 [] [0, 1, 7, 8] [(5, .int .i64 ((j : Nat)))] (ds_ (sq_ ?_)))))))))))
    obtain ⟨b8, o8, rfl⟩ := hsl.pos (i := j) (by omega)
    obtain ⟨x10, hx10⟩ := get_some (l := l) (m := j) (by omega)
    refine ao_ (qo 5 [(3, .at b8 o8 j), (4, .go (outs b8 (o8 + j * 3) [.int .i64 x10.vcpu, .int .i64 x10.port, .int .i64 x10.every]))] [0, 1, 5, 7, 8] [(11, .func (.func pg) #[] pcb), (15, .agg #[.int .i64 x10.vcpu, .int .i64 x10.port, .int .i64 x10.every])] ([(some ⟨b8, o8, none⟩ : Option Addr) = some ⟨b8, o8, none⟩, ((j : Nat)) = ((j : Nat) : Int), j < n] ++ (cellsP w b8 (o8 + j * 3) [.int .i64 x10.vcpu, .int .i64 x10.port, .int .i64 x10.every])) (alA (al2 rfl (al2 rfl (al1 (by omega)))) (rd_pre (hsl.get hx10) _ rfl)) ?_)
    rcases q12 : pd x10 with _ | _
    ·
      refine cD (.bool false) he (fun w hw => by have := hc x10 (List.mem_of_getElem? hx10) w (hX.kept hw.below); rw [q12] at this; exact this) (on_ (ds_ (f_ (at_skip (done_block (ds_ (qa [(0, .fit)] [0, 1, 7] [(8, .int .i64 ((j + 1 : Nat)))] ([Fit .i64 ((j + 1 : Nat))]) (al1 (fit64 (by omega) (by omega))) ?_)))))))
      exact done_round [0, 1, 7, 8] (j + 1) (by kernel_rfl) rfl ⟨by omega, fun t y ht e => by
          by_cases htj : t = j
          · subst htj; rw [hx10] at e; cases e; exact q12
          · exact hI t y (by omega) e⟩ (by first | omega | (simp only; omega))
    ·
      refine cD (.bool true) he (fun w hw => by have := hc x10 (List.mem_of_getElem? hx10) w (hX.kept hw.below); rw [q12] at this; exact this) (on_ (ds_ (t_ (sq_ (qa0 [] [] [(4, .int .i64 ((j : Nat)))] (ds_ (rt ([]) (.int .i64 ((j : Nat))) ?_)))))))
      exact fun w' hw => ⟨by rw [idxF_hit hI hx10 q12], hw.below⟩
  ·
    refine qa [(0, .no)] [0, 1, 7, 8] [(9, .bool false)] ([¬ (((j : Nat) : Int) < ((n : Nat) : Int))]) (al1 q4) (ds_ (sq_ (f_ (at_leave _ rfl (ds_ (sq_ (qa0 [] [] [(4, .int .i64 (-1))] (ds_ (rt ([]) (.int .i64 (-1)) ?_)))))))))
    exact fun w' hw => ⟨by rw [idxF_miss hI (by omega)], hw.below⟩

set_option maxRecDepth 100000 in
theorem adeletef_t (w0 : World) (X Y : List Ob) (pg : FuncId) (pcb : Array Value) (pd : Alm → Bool) (p : Option Addr) (n cap : Nat) (l : List Alm) (w : World)
    (he : ∀ args w, (callFunc pg args).run Tryz.prog w = .ok (.enter pg args) w)
    (hH : Hs w0 (Y ++ X) w) (hO : SlO 32 Y p n cap l) (hb : n ≤ 1000)
    (hc : ∀ x ∈ l, ∀ w', Hs w0 X w' → Calls Tryz.prog pg (#[.agg #[.int .i64 x.vcpu, .int .i64 x.port, .int .i64 x.every]] ++ pcb) w' fun e w1 => e = .returned (.bool (pd x)) ∧ Below w'.heap.size w' w1)
    : Calls Tryz.prog 70 #[.slice p n cap, .func (.func pg) #[] pcb] w fun e w' => ∃ q m capq Y', e = .returned (.slice q m capq) ∧ SlO 32 Y' q m capq (l.filter fun x => !pd x) ∧ Hs w0 (Y' ++ X) w' := by
  have hn := hO.len
  refine enter hH Tryz.func70 rfl Tryz.ntmps70 rfl (sq_ (qa0 [] [0, 1] [] (ds_ (sq_ (ao_ (qo0 2 [] [0, 1] [(8, .slice p n cap), (9, .func (.func pg) #[] pcb)] ?_))))))
  rcases idxF_cases pd l with ⟨hix, hnone⟩ | ⟨i0, x0, hix, hx0, hp0, hlow⟩
  ·
    refine cD (.int .i64 (-1)) (fun args w => Tryz.call80 args w) (fun w hw => by have := aindexf_t w0 X pg pcb pd p n cap l w he (hw.sub (List.sublist_append_right _ _)) (hO.atN (A := []) hw) hn (by omega) hc; rw [hix] at this; exact this) (qo0 1 [] [0, 1] [(5, .int .i64 (-1))] (on_ (ds_ (sq_ (sq_ (qa0 [] [0, 1, 5] [(12, .bool true)] (ds_ (t_ (sq_ (qa0 [] [] [(4, .slice p n cap)] (ds_ (rt ([]) (.slice p n cap) ?_))))))))))))
    exact fun w' hw => ⟨_, _, _, Y, rfl, by rw [filter_none hnone]; exact hO, hw⟩
  ·
    have hi0 := (List.getElem?_eq_some_iff.1 hx0).1
    refine cD (.int .i64 ((i0 : Nat))) (fun args w => Tryz.call80 args w) (fun w hw => by have := aindexf_t w0 X pg pcb pd p n cap l w he (hw.sub (List.sublist_append_right _ _)) (hO.atN (A := []) hw) hn (by omega) hc; rw [hix] at this; exact this) (qo0 1 [] [0, 1] [(5, .int .i64 ((i0 : Nat)))] (on_ (ds_ (sq_ (sq_ (qa [(1, .no)] [0, 1, 5] [(12, .bool false)] ([¬ (((i0 : Nat) : Int) = (-1 : Int))]) (al1 ((by omega))) (ds_ (f_ (at_skip (ds_ (sq_ (sq_ (qa [(1, .fit)] [0, 1, 5] [(6, .int .i64 ((i0 + 1 : Nat)))] ([Fit .i64 ((i0 + 1 : Nat))]) (al1 (fit64 (by omega) (by omega))) (ds_ (at_block ?_)))))))))))))))
    obtain ⟨g, cs0, rfl, rfl, hOw0⟩ := hO.rowOf (i := i0) (by omega)
    refine at_loop (α := Nat × Nat × List Alm × Array Value) [0, 1, 5, 6] (fun ⟨i, j, m, cs⟩ => [(0, .slice (some ⟨g, 0, none⟩) n cap), (1, .func (.func pg) #[] pcb), (5, .int .i64 ((i : Nat))), (6, .int .i64 ((j : Nat)))]) (fun ⟨i, j, m, cs⟩ => bx g cs 32 :: X) (fun ⟨i, j, m, cs⟩ => Dels pd l m i j ∧ OwnS (Enc.k Alm) (m.flatMap Enc.enc) n cap cs) (fun ⟨i, j, m, cs⟩ => n - j) (i0, i0 + 1, l, cs0) (by kernel_rfl) rfl ⟨Dels.start hlow hx0 hp0, hOw0⟩ ?_
    rintro ⟨i, j, m, cs⟩
    rintro ⟨hD, hOw⟩
    have hm : n = m.length := by rw [hD.len]; exact hn
    have hij := hD.lt
    have hjn := hD.le
    refine sq_ (sq_ ?_)
    by_cases q10 : ((j : Nat) : Int) < ((n : Nat) : Int)
    ·
      refine qa [(3, .yes)] [0, 1, 5, 6] [(19, .bool true)] ([((j : Nat) : Int) < ((n : Nat) : Int)]) (al1 q10) (ds_ (t_ (at_skip (ds_ (sq_ (at_block (sq_ ?_)))))))
      obtain ⟨x13, hx13⟩ := get_some (l := m) (m := j) (by omega)
      refine ma [(2, .at g 0 j), (3, .go (ownps 0 (0 + j * 3) [.int .i64 x13.vcpu, .int .i64 x13.port, .int .i64 x13.every])), (5, .go (owns 0 0 3))] [0, 1, 5, 6] (fun γ14 => [(7, .pointer (some ⟨γ14 0, 0, none⟩))]) (fun γ14 L => bx (γ14 0) (#[.int .i64 x13.vcpu, .int .i64 x13.port, .int .i64 x13.every]) 32 :: L) (fun γ14 => [(some ⟨g, 0, none⟩ : Option Addr) = some ⟨g, 0, none⟩, ((j : Nat)) = ((j : Nat) : Int), j < n] ++ (acellsP cs (0 + j * 3) [.int .i64 x13.vcpu, .int .i64 x13.port, .int .i64 x13.every])) (fun γ14 => (alA (al2 rfl (al2 rfl (al1 (by omega)))) (rda_pre ((hOw.rdx hm hx13)) _ rfl))) (fun γ14 => ds_ (sq_ (ao_ (qo0 2 [(1, .go (owns 0 0 3))] [0, 1, 5, 6, 7] [(26, .func (.func pg) #[] pcb), (27, .agg #[.int .i64 x13.vcpu, .int .i64 x13.port, .int .i64 x13.every])] ?_))))
      rcases q16 : pd x13 with _ | _
      ·
        refine cD (.bool false) he (fun w hw => by have := hc x13 (List.mem_of_getElem? (hD.get hx13)) w (hw.tailN 2); rw [q16] at this; exact this) (qo0 1 [] [0, 1, 5, 6, 7] [(29, .bool true)] (on_ (ds_ (t_ (sq_ ?_)))))
        obtain ⟨x19, hx19⟩ := get_some (l := m) (m := i) (by omega)
        refine ma [(2, .go (owns 0 0 3)), (3, .at g 0 i), (4, .go (ownps 1 (0 + i * 3) [undef, undef, undef]))] [0, 1, 5, 6] (fun _ => []) (fun _ L => (L.set 1 (bx g ((((cs).setIfInBounds (0 + i * 3) (.int .i64 x13.vcpu)).setIfInBounds (0 + i * 3 + 1) (.int .i64 x13.port)).setIfInBounds (0 + i * 3 + 2) (.int .i64 x13.every)) 32))) (fun _ => [(some ⟨g, 0, none⟩ : Option Addr) = some ⟨g, 0, none⟩, ((i : Nat)) = ((i : Nat) : Int), i < n] ++ ([0 + i * 3 < (cs).size] ++ ([0 + i * 3 + 1 < ((cs).setIfInBounds (0 + i * 3) (.int .i64 x13.vcpu)).size] ++ ([0 + i * 3 + 2 < (((cs).setIfInBounds (0 + i * 3) (.int .i64 x13.vcpu)).setIfInBounds (0 + i * 3 + 1) (.int .i64 x13.port)).size])))) (fun _ => (alA (al2 rfl (al2 rfl (al1 (by omega)))) (alA (al1 (by exact hOw.room hm hx19 (f := 0) (by decide))) (alA (al1 (by simp only [Array.size_setIfInBounds]; exact hOw.room hm hx19 (f := 1) (by decide))) (al1 (by simp only [Array.size_setIfInBounds]; exact hOw.room hm hx19 (f := 2) (by decide))))))) (fun _ => ds_ (qa [(1, .fit)] [0, 1, 6] [(5, .int .i64 ((i + 1 : Nat)))] ([Fit .i64 ((i + 1 : Nat))]) (al1 (fit64 (by omega) (by omega))) (done_block (ds_ (qa [(1, .fit)] [0, 1, 5] [(6, .int .i64 ((j + 1 : Nat)))] ([Fit .i64 ((j + 1 : Nat))]) (al1 (fit64 (by omega) (by omega))) (Done.drop (L' := bx g ((((cs).setIfInBounds (0 + i * 3) (.int .i64 x13.vcpu)).setIfInBounds (0 + i * 3 + 1) (.int .i64 x13.port)).setIfInBounds (0 + i * 3 + 2) (.int .i64 x13.every)) 32 :: X) ?_ (List.Sublist.cons _ (List.Sublist.cons_cons _ (List.Sublist.refl _)))))))))
        exact dr [0, 1, 5, 6] (i + 1, j + 1, m.set i x13, (((cs).setIfInBounds (0 + i * 3) (.int .i64 x13.vcpu)).setIfInBounds (0 + i * 3 + 1) (.int .i64 x13.port)).setIfInBounds (0 + i * 3 + 2) (.int .i64 x13.every)) ⟨hD.no hx13 q16, (hOw.putAll (x' := x13) hm hx19)⟩
      ·
        refine cD (.bool true) he (fun w hw => by have := hc x13 (List.mem_of_getElem? (hD.get hx13)) w (hw.tailN 2); rw [q16] at this; exact this) (qo0 1 [] [0, 1, 5, 6, 7] [(29, .bool false)] (on_ (ds_ (f_ (at_skip (done_block (ds_ (qa [(1, .fit)] [0, 1, 5] [(6, .int .i64 ((j + 1 : Nat)))] ([Fit .i64 ((j + 1 : Nat))]) (al1 (fit64 (by omega) (by omega))) (Done.drop (L' := bx g cs 32 :: X) ?_ (List.Sublist.cons _ (List.Sublist.cons_cons _ (List.Sublist.refl _))))))))))))
        exact dr [0, 1, 5, 6] (i, j + 1, m, cs) ⟨hD.yes hx13 q16, hOw⟩
    ·
      refine qa [(3, .no)] [0, 1, 5, 6] [(19, .bool false)] ([¬ (((j : Nat) : Int) < ((n : Nat) : Int))]) (al1 q10) (ds_ (f_ (at_leave _ rfl (ds_ (sq_ (ao_ (qo 3 [(2, .sl (.slice (some ⟨g, 0 + i * 3, none⟩) (n - i) (cap - i)))] [0, 5] [(38, .slice (some ⟨g, 0 + i * 3, none⟩) (n - i) (cap - i))] ([SlRun Tryz.prog 25 (.slice (some ⟨g, 0, none⟩) n cap) (some (.int .i64 ((i : Nat)))) none none (.slice (some ⟨g, 0 + i * 3, none⟩) (n - i) (cap - i))]) (al1 (slE_lo (P := Tryz.prog) (T := 25) (e := 32) (k := 3) (by_ := 24) (by kernel_rfl) (lo := i) (by omega) (by have := hOw.le; omega))) ?_)))))))
      have hcs := hOw.csz
      refine ops_clear 0 rfl (by kernel_rfl) (by kernel_rfl) (g := g) (of := 0 + i * 3) (n := n - i) (dc := cap - i) (c := cs) (by kernel_rfl) (T := 32) (ks := 3) (by_ := 24) (by kernel_rfl) (by kernel_rfl) rfl (mul_room (c := cap) (by have := hOw.le; omega) hcs) (fun c2 hc2 hpre2 => on_ (ds_ (sq_ (qa [(2, .sl (.slice (some ⟨g, 0, none⟩) i cap))] [] [(4, .slice (some ⟨g, 0, none⟩) i cap)] ([SlRun Tryz.prog 25 (.slice (some ⟨g, 0, none⟩) n cap) none (some (.int .i64 ((i : Nat)))) none (.slice (some ⟨g, 0, none⟩) i cap)]) (al1 (slE_hi (P := Tryz.prog) (T := 25) (e := 32) (k := 3) (by_ := 24) (by kernel_rfl) (h := i) (by have := hOw.le; omega))) (ds_ (rt ([]) (.slice (some ⟨g, 0, none⟩) i cap) ?_))))))
      exact fun w' hw => ⟨_, _, _, [_], rfl, by rw [← hD.done (j := j) (by omega)]; exact .inr ⟨_, _, rfl, rfl, by rw [List.length_take]; omega, hOw.cut hm (by omega) hc2 hpre2⟩, hw⟩

set_option maxRecDepth 100000 in
theorem isv_t (x : Alm) (g : Nat) (k : Int) (w : World)
    (hk : Rd w g (0 + 0 * 1) [.int .i64 k])
    : Calls Tryz.prog 71 #[.agg #[.int .i64 x.vcpu, .int .i64 x.port, .int .i64 x.every], .pointer (some ⟨g, 0 + 0 * 1, none⟩)] w fun e w' => e = .returned (.bool (isV k x)) ∧ Below w.heap.size w w' := by
  refine enter (Hs.start w) Tryz.func71 rfl Tryz.ntmps71 rfl (sq_ (ma0 [] [1] (fun γ1 => [(2, .pointer (some ⟨γ1 0, 0, none⟩))]) (fun γ1 L => bx (γ1 0) (#[.int .i64 x.vcpu, .int .i64 x.port, .int .i64 x.every]) 32 :: L) (fun γ1 => ds_ (sq_ ?_))))
  by_cases q3 : (x.vcpu : Int) = (k : Int)
  ·
    refine qa [(1, .go (owns 0 0 1)), (2, .go (outs g (0 + 0 * 1) [.int .i64 k])), (3, .yes)] [] [(3, .bool true)] (cellsP w g (0 + 0 * 1) [.int .i64 k] ++ ([(x.vcpu : Int) = (k : Int)])) (alA (rd_pre hk _ rfl) (al1 q3)) (ds_ (rt ([]) (.bool true) ?_))
    exact fun w' hw => ⟨by rw [show isV k x = true from decide_eq_true q3], hw.below⟩
  ·
    refine qa [(1, .go (owns 0 0 1)), (2, .go (outs g (0 + 0 * 1) [.int .i64 k])), (3, .no)] [] [(3, .bool false)] (cellsP w g (0 + 0 * 1) [.int .i64 k] ++ ([¬ ((x.vcpu : Int) = (k : Int))])) (alA (rd_pre hk _ rfl) (al1 q3)) (ds_ (rt ([]) (.bool false) ?_))
    exact fun w' hw => ⟨by rw [show isV k x = false from decide_eq_false q3], hw.below⟩
end Go.Proofs.YtdbamgbgnpadjaaGreat
