/- Texts of this proof, one behind the other. -/
import Derived.Test.YtfhlmijdokfdpaaZb
import Derived.Test.YtfhlmijdokfdpaaProg
import Derived.ProofKit
import Derived.Carry
import Derived.Deep.Slices
import Derived.Lib.SmallJoins
/-! Ports of which some are cleared: plain laws for the polls of one's own. -/
namespace Go.Proofs.Ytfhlmijdokfdpaa
open Go Go.RowKit

/-- Ports, those of ns cleared. -/
def clr (ns : List Int) (l : List Port) : List Port := l.map fun x => if x.num ∈ ns then ⟨x.num, x.vcpu, x.peer, false, x.masked⟩ else x
section
variable {l : List Port} {ns : List Int} {k last : Int} {x : Port}
theorem clr_len : (clr ns l).length = l.length := by simp [clr]
theorem clr_nil : clr [] l = l := by simp [clr]
theorem clr_one_num : (if x.num ∈ ns then (⟨x.num, x.vcpu, x.peer, false, x.masked⟩ : Port) else x).num = x.num := by split <;> rfl
theorem ris_clr : ∀ (l : List Port) (last : Int), risB last (clr ns l) = risB last l
  | [], _ => rfl
  | x :: l, last => by
    have h := ris_clr l x.num
    by_cases hx : x.num ∈ ns <;> simp [clr, risB, hx] at h ⊢ <;> rw [h]
theorem get_clr : ∀ (l : List Port), getB (clr ns l) k = (getB l k).map fun x => if x.num ∈ ns then ⟨x.num, x.vcpu, x.peer, false, x.masked⟩ else x
  | [] => rfl
  | x :: l => by
    have h := get_clr l
    unfold getB at h ⊢
    unfold clr at h ⊢
    rw [List.map_cons, List.find?_cons, List.find?_cons, clr_one_num]
    split
    · rfl
    · exact h
theorem link_clr (l' : List Port) (hg : ∀ k, getB l' k = (getB l k).map fun x => if x.num ∈ ns then ⟨x.num, x.vcpu, x.peer, false, x.masked⟩ else x) (x : Port) : linkB l' (if x.num ∈ ns then ⟨x.num, x.vcpu, x.peer, false, x.masked⟩ else x) = linkB l x := by
  have e : ∀ y : Port, (if y.num ∈ ns then (⟨y.num, y.vcpu, y.peer, false, y.masked⟩ : Port) else y).peer = y.peer := fun y => by split <;> rfl
  unfold linkB
  rw [e, clr_one_num, hg]
  cases getB l x.peer with
  | none => rfl
  | some y => simp only [Option.map_some]; rw [e, clr_one_num]
theorem right_clr : rightB (clr ns l) = rightB l := by
  unfold rightB
  rw [ris_clr]
  congr 1
  have h := fun x => link_clr (l := l) (ns := ns) (clr ns l) (fun k => get_clr l) x
  rw [show (clr ns l).all (linkB (clr ns l)) = l.all (fun x => linkB (clr ns l) (if x.num ∈ ns then ⟨x.num, x.vcpu, x.peer, false, x.masked⟩ else x)) from by rw [clr, List.all_map]; rfl]
  congr 1
  funext x
  exact h x
/-- A poll of ports that are there, all of them one's own. -/
theorem pollGo_own : ∀ (ns : List Int) (own : Int) (pd : Bool), (∀ n ∈ ns, ∃ x, getB l n = some x ∧ x.vcpu = own) → pollGo l own ns pd 0 = (pd || ns.any (fun n => match getB l n with | some x => x.pending | none => false), 0)
  | [], own, pd, _ => by simp [pollGo]
  | n :: ns, own, pd, h => by
    obtain ⟨x, hx, hv⟩ := h n (List.mem_cons_self ..)
    have := pollGo_own ns own (pd || x.pending) (fun m hm => h m (List.mem_cons_of_mem _ hm))
    simp only [pollGo, hx, if_pos hv, this, List.any_cons]
    rw [Bool.or_assoc]
theorem clr_get (i : Nat) : (clr ns l)[i]? = (l[i]?).map fun x => if x.num ∈ ns then ⟨x.num, x.vcpu, x.peer, false, x.masked⟩ else x := by unfold clr; rw [List.getElem?_map]
theorem clr_set (hr : rightB l = true) (hx : getB l k = some x) : (clr ns l).set (posB (clr ns l) k) ⟨x.num, x.vcpu, x.peer, false, x.masked⟩ = clr (ns ++ [k]) l := by
  have ha := ris_asc l 0 (right_ris hr)
  have hr' : rightB (clr ns l) = true := by rw [right_clr]; exact hr
  have hn := (get_yes hx).2.1
  obtain ⟨h1, h2⟩ := get_pos ha hx
  have hx' : getB (clr ns l) k = some (if x.num ∈ ns then ⟨x.num, x.vcpu, x.peer, false, x.masked⟩ else x) := by rw [get_clr, hx]; rfl
  obtain ⟨h3, h4⟩ := get_pos (ris_asc _ 0 (right_ris hr')) hx'
  have hp : posB (clr ns l) k = posB l k := by
    rw [clr_get] at h3
    obtain ⟨y, hy, hye⟩ := Option.map_eq_some_iff.1 h3
    have hyn : y.num = x.num := by
      have := congrArg Port.num hye
      rwa [clr_one_num, clr_one_num] at this
    rcases Nat.lt_trichotomy (posB (clr ns l) k) (posB l k) with h | h | h
    · have := ha _ _ _ _ h hy h1; omega
    · exact h
    · have := ha _ _ _ _ h h1 hy; omega
  rw [hp]
  apply List.ext_getElem?
  intro i
  rw [List.getElem?_set, clr_get, clr_get]
  have hlen : (clr ns l).length = l.length := by unfold clr; rw [List.length_map]
  by_cases hi : posB l k = i
  · subst hi
    rw [if_pos rfl, if_pos (by omega), h1]
    simp [hn]
  · rw [if_neg hi]
    rcases he : l[i]? with _ | y
    · rfl
    · have hne : ¬ y.num = k := fun e => by
        rcases Nat.lt_trichotomy (posB l k) i with h | h | h
        · have := ha _ _ _ _ h h1 he; omega
        · exact hi h
        · have := ha _ _ _ _ h he h1; omega
      simp [hne]
theorem clear_clr (hr : rightB l = true) (hx : getB l k = some x) : clearV (clr ns l) k = (clr (ns ++ [k]) l, (x.pending && decide (k ∉ ns)), 0) := by
  have hr' : rightB (clr ns l) = true := by rw [right_clr]; exact hr
  have hn := (get_yes hx).2.1
  have hx' : getB (clr ns l) k = some (if x.num ∈ ns then ⟨x.num, x.vcpu, x.peer, false, x.masked⟩ else x) := by rw [get_clr, hx]; rfl
  rw [clearV_ok hr' hx', clr_one_num, hn, ← clr_set (ns := ns) hr hx]
  by_cases h : k ∈ ns <;> simp [hn, h]
theorem such_mem {is : Port → Bool} (hr : rightB l = true) {n : Int} (h : n ∈ suchL is l) : ∃ x, getB l n = some x ∧ is x = true := by
  unfold suchL at h
  obtain ⟨x, hx, rfl⟩ := List.mem_map.1 h
  obtain ⟨hm, hi⟩ := List.mem_filter.1 hx
  rcases hg : getB l x.num with _ | y
  · have := get_none hg
    have : hasB l x.num = true := List.any_eq_true.2 ⟨x, hm, decide_eq_true rfl⟩
    simp_all
  · obtain ⟨hym, hyn, _⟩ := get_yes hg
    obtain ⟨i, hi1⟩ := List.mem_iff_getElem?.1 hm
    obtain ⟨j, hj1⟩ := List.mem_iff_getElem?.1 hym
    have ha := ris_asc l 0 (right_ris hr)
    have : i = j := by
      rcases Nat.lt_trichotomy i j with h | h | h
      · have := ha _ _ _ _ h hi1 hj1; omega
      · exact h
      · have := ha _ _ _ _ h hj1 hi1; omega
    subst this
    rw [hi1] at hj1; cases hj1
    exact ⟨x, rfl, hi⟩
/-- The ports of a virtual CPU. -/
def isOwn (own : Int) (x : Port) : Bool := decide (x.vcpu = own)
theorem due_clr (hr : rightB l = true) {own : Int} : edueV (clr (suchL (isOwn own) l) l) own = [] := by
  have hr' : rightB (clr (suchL (isOwn own) l) l) = true := by rw [right_clr]; exact hr
  rw [edueV_ok hr']
  unfold suchL
  rw [List.map_eq_nil_iff, List.filter_eq_nil_iff]
  intro y hy
  unfold clr at hy
  obtain ⟨x, hx, rfl⟩ := List.mem_map.1 hy
  by_cases hv : x.vcpu = own
  · rw [if_pos (List.mem_map.2 ⟨x, List.mem_filter.2 ⟨hx, by simp [isOwn, hv]⟩, rfl⟩)]
    simp [isDue, dueB]
  · split <;> simp [isDue, hv]
theorem ris_len : ∀ (l : List Port) (last : Int), last ≤ 32 → risB last l = true → (l.length : Int) + last ≤ 32
  | [], last, h, _ => by simpa using h
  | x :: l, last, _, h => by
    simp only [risB, Bool.and_eq_true, decide_eq_true_eq] at h
    have := ris_len l x.num h.1.1.2 h.2
    simp only [List.length_cons]
    omega
/-- Is the port of that number pending? -/
def pendB (l : List Port) (n : Int) : Bool := match getB l n with
  | some x => x.pending
  | none => false
theorem poll_own (hr : rightB l = true) {own : Int} (h0 : suchL (isOwn own) l ≠ []) : pollV l own (suchL (isOwn own) l) = ((suchL (isOwn own) l).any (pendB l), 0) := by
  have hall : ∀ n ∈ suchL (isOwn own) l, ∃ x, getB l n = some x ∧ x.vcpu = own := fun n hn => by
    obtain ⟨x, hx, hi⟩ := such_mem hr hn
    exact ⟨x, hx, by simpa [isOwn] using hi⟩
  obtain ⟨n0, hn0⟩ := List.exists_mem_of_ne_nil _ h0
  obtain ⟨x0, hx0, hv0⟩ := hall n0 hn0
  have hv : vcpuB own = true := by rw [← hv0]; exact (ris_mem l 0 (right_ris hr) x0 (get_yes hx0).1).2.2
  have hl := ris_len l 0 (by omega) (right_ris hr)
  have hs := such_len (isOwn own) l
  have hpos : 0 < (suchL (isOwn own) l).length := List.length_pos_iff.2 h0
  rw [pollV_of hr hv (by omega) (by omega), pollGo_own _ own false hall, Bool.false_or]
  rfl
theorem poll_nobody (hr : rightB l = true) {own : Int} : pollV l own [] = (false, 2) := pollV_no hr (by rintro ⟨_, h, _⟩; simp at h)
theorem such_clr {own : Int} : ∀ (l : List Port), suchL (isOwn own) (clr ns l) = suchL (isOwn own) l
  | [] => rfl
  | x :: l => by
    have h := such_clr (own := own) l
    unfold suchL clr at h ⊢
    by_cases hx : x.num ∈ ns <;> by_cases hv : x.vcpu = own <;> simp [isOwn, hx, hv] at h ⊢ <;> exact h
theorem poll_clr (hr : rightB l = true) {own : Int} (h0 : suchL (isOwn own) l ≠ []) : pollV (clr (suchL (isOwn own) l) l) own (suchL (isOwn own) l) = (false, 0) := by
  have hr' : rightB (clr (suchL (isOwn own) l) l) = true := by rw [right_clr]; exact hr
  have e : suchL (isOwn own) (clr (suchL (isOwn own) l) l) = suchL (isOwn own) l := such_clr l
  have := poll_own hr' (own := own) (by rw [e]; exact h0)
  rw [e] at this
  rw [this]
  congr 1
  rw [List.any_eq_false]
  intro n hn
  obtain ⟨x, hx, _⟩ := such_mem hr hn
  unfold pendB
  rw [get_clr, hx]
  simp [(get_yes hx).2.1, hn]
/-- The count of those that were pending. -/
theorem cnt_on {own : List Int} {j n : Nat} (hI : 0 < n ↔ (own.take j).any (pendB l) = true) (hk : own[j]? = some k) (hx : getB l k = some x) {b : Bool} (hb : b = (x.pending && decide (k ∉ own.take j))) :
    0 < (if b = true then n + 1 else n) ↔ (own.take (j + 1)).any (pendB l) = true := by
  have hp : pendB l k = x.pending := by simp [pendB, hx]
  have e : (own.take (j + 1)).any (pendB l) = ((own.take j).any (pendB l) || x.pending) := by rw [List.take_add_one, hk]; simp [hp]
  rw [e, Bool.or_eq_true, ← hI]
  subst hb
  by_cases h1 : x.pending = true
  · by_cases h2 : k ∈ own.take j
    · have : (own.take j).any (pendB l) = true := List.any_eq_true.2 ⟨k, h2, by rw [hp]; exact h1⟩
      have := hI.2 this
      simp [h1, h2, this]
    · simp [h1, h2]
  · simp [h1]
end
end Go.Proofs.Ytfhlmijdokfdpaa

/-! Ports: what removing some of them makes, in plain Lean. -/
namespace Go.Proofs.Ytfhlmijdokfdpaa
open Go Go.RowKit

/-- The first j elements changed by f, the others as they are. -/
def mixV {α : Type} (f : α → α) (l : List α) (j : Nat) : List α := (l.take j).map f ++ l.drop j
section
variable {α : Type} {f : α → α} {l : List α} {j : Nat} {x y : α}
theorem mix_zero : mixV f l 0 = l := by simp [mixV]
theorem mix_end (h : l.length ≤ j) : mixV f l j = l.map f := by simp [mixV, List.take_of_length_le h, List.drop_of_length_le h]
theorem mix_len : (mixV f l j).length = l.length := by simp [mixV]; omega
theorem mix_get (h : (mixV f l j)[j]? = some x) : l[j]? = some x := by
  have hj : j < l.length := by have := (List.getElem?_eq_some_iff.1 h).1; rwa [mix_len] at this
  unfold mixV at h
  rw [List.getElem?_append_right (by simp; omega)] at h
  simpa [Nat.min_eq_left (Nat.le_of_lt hj)] using h
theorem mix_put (h : (mixV f l j)[j]? = some x) (hf : f x = y) : (mixV f l j).set j y = mixV f l (j + 1) := by
  have h1 := mix_get h
  have hj := (List.getElem?_eq_some_iff.1 h1).1
  unfold mixV
  have hl : ((l.take j).map f).length = j := by simp; omega
  rw [List.set_append_right _ _ (by omega), hl, Nat.sub_self, drop_cons h1, List.take_add_one, h1]
  simp [hf]
theorem mix_same (h : (mixV f l j)[j]? = some x) (hf : f x = x) : mixV f l j = mixV f l (j + 1) := by
  rw [← mix_put h hf, set_self _ _ h]
end
def isNum (k : Int) (x : Port) : Bool := decide (x.num = k)
/-- A port that is linked no more, if the other end is gone. -/
def unl (gone : List Int) (x : Port) : Port := if x.peer ∈ gone then ⟨x.num, x.vcpu, 0, x.pending, x.masked⟩ else x
/-- Ports without those of which something holds. -/
def removeV (is : Port → Bool) (l : List Port) : List Port := (l.filter fun x => !is x).map (unl (suchL is l))
/-- What the layer's Close answers. -/
def closeV (l : List Port) (k : Int) : List Port × Int := if rightB l = true then if suchL (isNum k) l = [] then ([], 4) else (removeV (isNum k) l, 0) else ([], 260)
/-- What the layer's Drop answers. -/
def dropV (l : List Port) (own : Int) : List Port × Int × Int := if rightB l = true then if vcpuB own = true then (removeV (isOwn own) l, ((suchL (isOwn own) l).length : Nat), 0) else ([], 0, 2) else ([], 0, 260)
section
variable {l : List Port} {k own : Int}
theorem closeV_bad (h : rightB l = false) : closeV l k = ([], 260) := by simp [closeV, h]
theorem closeV_none (h : rightB l = true) {m : Nat} (hm : m = (suchL (isNum k) l).length) (h0 : (m : Int) = 0) : closeV l k = ([], 4) := by
  have : suchL (isNum k) l = [] := List.length_eq_zero_iff.1 (by omega)
  simp [closeV, h, this]
theorem closeV_ok (h : rightB l = true) {m : Nat} (hm : m = (suchL (isNum k) l).length) (h0 : ¬ (m : Int) = 0) : closeV l k = (removeV (isNum k) l, 0) := by
  have : ¬ suchL (isNum k) l = [] := fun e => h0 (by rw [hm, e]; rfl)
  simp [closeV, h, this]
theorem dropV_bad (h : rightB l = false) : dropV l own = ([], 0, 260) := by simp [dropV, h]
theorem dropV_arg (h : rightB l = true) (h1 : vcpuB own = false) : dropV l own = ([], 0, 2) := by simp [dropV, h, h1]
theorem dropV_ok (h : rightB l = true) (h1 : vcpuB own = true) {m : Nat} (hm : m = (suchL (isOwn own) l).length) : dropV l own = (removeV (isOwn own) l, (m : Int), 0) := by simp [dropV, h, h1, hm]
end
theorem rd_one {w : World} {g : Nat} {v : Value} {T : TypeId} {f : Nat × Nat} (h : w.heap[g]? = some (.cells #[v] T f)) : Rd w g (0 + 0 * 1) [v] := fun j u hj => by
  match j, hj with
  | 0, hj => rw [show (⟨g, 0 + 0 * 1 + 0, none⟩ : Addr) = ⟨g, 0, none⟩ from rfl, cell_own h]; simpa using hj
theorem hs_nil {w0 w : World} {Y : List Ob} (h : Hs w0 (Y ++ []) w) : Hs w0 Y w := by rwa [List.append_nil] at h
end Go.Proofs.Ytfhlmijdokfdpaa

/-! slices.overlaps, answered by the model. -/
namespace Go.Proofs.Ytfhlmijdokfdpaa
open Go Go.RowKit

set_option maxRecDepth 100000 in
theorem overlaps_find : Extern.find Try.f73 = some (Extern.SlicesOverlaps.overlaps Try.f73.params Try.f73.resultTypes) := by kernel_rfl
set_option maxRecDepth 100000 in
theorem overlaps_next : Extern.findNext Try.f73 = none := by kernel_rfl
theorem overlaps_no {w : World} {g1 o1 g2 o2 m n c1 c2 : Nat} {cs1 cs2 : Array Value} {T1 T2 : TypeId} (h1 : w.heap[g1]? = some (.cells cs1 T1 (0, 0))) (h2 : w.heap[g2]? = some (.cells cs2 T2 (0, 0))) (hne : g1 ≠ g2) :
    (callFunc 73 #[.slice (some ⟨g1, o1, none⟩) m c1, .slice (some ⟨g2, o2, none⟩) n c2]).run Try.prog w = .ok (.value (.bool false)) w := by
  have hf := Try.func73
  have hn : (Try.f73.name == "runtime.NumGoroutine") = false := by kernel_rfl
  have hb : Try.f73.body.isNone = true := by kernel_rfl
  have hp : Try.f73.params[0]? = some 22 := by kernel_rfl
  have hu := Try.underlying22
  have hi : ∃ inf, Try.prog.info? 40 = some inf ∧ inf.size = 5 := ⟨_, rfl, rfl⟩
  obtain ⟨inf, hi, hs⟩ := hi
  have s1 : w.shape? g1 = some (T1, cs1.size) := by simp [World.shape?, h1]
  have s2 : w.shape? g2 = some (T2, cs2.size) := by simp [World.shape?, h2]
  have f1 : ∀ j, w.frozen? ⟨g1, j, none⟩ = false := fun j => froz_own h1 j
  have f2 : ∀ j, w.frozen? ⟨g2, j, none⟩ = false := fun j => froz_own h2 j
  have run1 : ∀ args, (callFunc 73 args).run Try.prog w = ((Extern.SlicesOverlaps.overlaps Try.f73.params Try.f73.resultTypes args).run Try.prog w).andThen fun v w' => .ok (.value v) w' := fun args => by
    simp only [callFunc, Sem.run_bind, run_program, Result.andThen_ok, hf, hn, hb, overlaps_next, overlaps_find]
    simp [mark, Sem.run, Sem.run_bind]
  rw [run1]
  have hne' : (g1 == g2) = false := by simpa using hne
  have hs' : (do let i ← typeInfo 40; pure i.size : Sem Nat).run Try.prog w = .ok 5 w := by simp [typeInfo, hi, hs]
  delta Extern.SlicesOverlaps.overlaps
  conv => lhs; arg 1; arg 2; whnf
  have hu' : Try.prog.underlying (Try.f73.params[0]'(by decide)) = some (.slice 40) := by kernel_rfl
  have sb : ∀ (α β : Type) (x : Sem α) (f : α → Sem β) (P : Program) (w : World), (x.bind f).run P w = (x.run P w).andThen fun a w' => (f a).run P w' := fun α β x f P w => Sem.run_bind' P x f w
  by_cases hm : m = 0 ∨ n = 0 ∨ inf.size = 0
  · simp [Sem.run, sb, hu', sizeOf, typeInfo, hi, hm]
  · simp [Sem.run, sb, hu', sizeOf, typeInfo, hi, hm, bne, hne', hne, noView, viewAt, mayBeOne, stringish, shape, frozen, s1, s2, f1, f2]
end Go.Proofs.Ytfhlmijdokfdpaa

/-! slices.Insert. -/
namespace Go.Proofs.Ytfhlmijdokfdpaa
open Go Go.RowKit

set_option maxRecDepth 100000 in
theorem insert_d (w0 : World) (X Y : List Ob) (p : Option Addr) (n cap : Nat) (l : List Port) (i gv : Nat) (cv : Array Value) (m : Nat) (vl : List Port) (w : World)
 (hH : Hs w0 (bx gv cv 40 :: (Y ++ X)) w) (hO : SlO 40 Y p n cap l) (hcv : cv.toList = vl.flatMap Enc.enc) (hm : m = vl.length) (hm0 : 0 < m) (hi : i ≤ n) (hb : n ≤ 1000) (hmb : m ≤ 1000)
 : Calls Try.prog 56 #[.slice p n cap, .int .i64 (i : Nat), .slice (some ⟨gv, 0, none⟩) m m] w fun e w' => ∃ q capq Y', e = .returned (.slice q (n + m) capq) ∧ SlO 40 Y' q (n + m) capq (l.take i ++ vl ++ l.drop i) ∧ Hs w0 (Y' ++ X) w' := by
 have hn := hO.len
 refine enter hH Try.func56 rfl Try.ntmps56 rfl ?_
 refine at_seq ?_
 refine aq [] [0, 1, 2] [] ([]) (fun _ => by kernel_rfl) al0 ?_
 refine done_seq ?_
 refine at_seq ?_
 refine aq [(2, .sl (.slice (if cap = i then p else p.map (·.add (i * 5))) (n - i) (cap - i)))] [0, 1, 2] [] ([SlRun Try.prog 22 (.slice p n cap) (some (.int .i64 ((i : Nat)))) none none (.slice (if cap = i then p else p.map (·.add (i * 5))) (n - i) (cap - i))]) (fun _ => by kernel_rfl) (al1 (slE_cut (P := Try.prog) (T := 22) (e := 40) (k := 5) (by_ := 32) (by kernel_rfl) hi)) ?_
 refine done_seq ?_
 refine at_seq ?_
 refine aq [] [0, 1, 2] [(7, .int .i64 ((m : Nat)))] ([]) (fun _ => by kernel_rfl) al0 ?_
 refine done_seq ?_
 refine at_seq ?_
 refine at_seq ?_
 refine aq [(1, .no)] [0, 1, 2, 7] [(16, .bool false)] ([¬ (((m : Nat) : Int) = (0 : Int))]) (fun _ => by kernel_rfl) (al1 ((by omega))) ?_
 refine done_seq ?_
 refine at_false (by kernel_rfl) ?_
 refine at_skip ?_
 refine done_seq ?_
 refine at_seq ?_
 refine aq [] [0, 1, 2, 7] [(8, .int .i64 ((n : Nat)))] ([]) (fun _ => by kernel_rfl) al0 ?_
 refine done_seq ?_
 refine at_seq ?_
 refine at_seq ?_
 by_cases q7 : ((i : Nat) : Int) = ((n : Nat) : Int)
 ·
  refine aq [(2, .yes)] [0, 1, 2, 7, 8] [(22, .bool true)] ([((i : Nat) : Int) = ((n : Nat) : Int)]) (fun _ => by kernel_rfl) (al1 q7) ?_
  refine done_seq ?_
  refine at_true (by kernel_rfl) ?_
  refine at_seq ?_
  refine at_ops ?_
  refine oq 2 [] [] [(23, .slice p n cap), (24, .slice (some ⟨gv, 0, none⟩) m m)] ([]) (fun _ => by kernel_rfl) al0 ?_
  refine ops_append (α := Port) [bx gv cv 40] Y X (.refl _) rfl (by kernel_rfl) (by kernel_rfl) (p := p) (n := n) (cap := cap) (m := m) (yv := .slice (some ⟨gv, 0, none⟩) m m) (by kernel_rfl) (by kernel_rfl) (T := 40) (by_ := 32) (by kernel_rfl) l vl hO (fun w hw => src_svn Try.underlying22 (sv_row (hw.row 0 rfl) hcv) hm) hm (by have hmx : maxLen = 9223372036854775807 := rfl; omega) (by have hmx : maxLen = 9223372036854775807 := rfl; omega) (fun Y10 p10 cap10 hO10 => ?_)
  refine oq 1 [] [] [(6, .slice p10 (n + m) cap10)] ([]) (fun _ => by kernel_rfl) al0 ?_
  refine ops_nil ?_
  refine done_seq ?_
  refine at_return ([]) (.slice p10 (n + m) cap10) [] (by kernel_rfl) (by kernel_rfl) al0 ?_
  exact fun w' hw => ⟨_, _, _, rfl, by rw [show i = l.length by omega, List.take_length, List.drop_length, List.append_nil]; exact hO10, hw.tailN 1⟩
 ·
  refine aq [(2, .no)] [0, 1, 2, 7, 8] [(22, .bool false)] ([¬ (((i : Nat) : Int) = ((n : Nat) : Int))]) (fun _ => by kernel_rfl) (al1 q7) ?_
  refine done_seq ?_
  refine at_false (by kernel_rfl) ?_
  refine at_skip ?_
  refine done_seq ?_
  refine at_seq ?_
  refine at_seq ?_
  obtain ⟨g, cs, rfl, rfl, hOw⟩ := hO.rowOf (i := i) (by omega)
  have hcap := hOw.le
  have hcs := hOw.csz
  have hmax := hOw.max
  by_cases q15 : ((n + m : Nat) : Int) > ((cap : Nat) : Int)
  ·
   refine aq [(2, .fit), (5, .yes)] [0, 1, 2, 7, 8] [(31, .bool true)] ([Fit .i64 ((n + m : Nat))] ++ ([((n + m : Nat) : Int) > ((cap : Nat) : Int)])) (fun _ => by kernel_rfl) (alA (al1 (fit64 (by omega) (by omega))) (al1 q15)) ?_
   refine done_seq ?_
   refine at_true (by kernel_rfl) ?_
   refine at_seq ?_
   refine at_ops ?_
   refine oq 8 [(2, .sl (.slice (some ⟨g, 0, none⟩) i cap)), (5, .fit), (7, .is [] (.int .i64 ((n + m - i : Nat))))] [0, 1, 2, 7] [(34, .slice (some ⟨g, 0, none⟩) i cap), (39, .int .i64 ((n + m - i : Nat)))] ([SlRun Try.prog 22 (.slice (some ⟨g, 0, none⟩) n cap) none (some (.int .i64 ((i : Nat)))) none (.slice (some ⟨g, 0, none⟩) i cap)] ++ ([Fit .i64 ((n + m : Nat))] ++ ([Value.int .i64 (IntKind.i64.wrap ((((n + m : Nat)) : Int) - ((i : Nat) : Int))) = .int .i64 ((n + m - i : Nat))]))) (fun _ => by kernel_rfl) (alA (al1 (slE_hi (P := Try.prog) (T := 22) (e := 40) (k := 5) (by_ := 32) (by kernel_rfl) (h := i) (by omega))) (alA (al1 (fit64 (by omega) (by omega))) (al1 (by rw [wrap_fit (fit64 (by omega) (by omega))]; congr 1; omega)))) ?_
   refine ops_appendZ rfl (by kernel_rfl) (by kernel_rfl) (p := some ⟨g, 0, none⟩) (m := i) (cap := cap) (n := n + m - i) ((cs.toList.drop 0).take (i * 5)) (by kernel_rfl) (by kernel_rfl) (T := 40) (ks := 5) (by_ := 32) (by kernel_rfl) Try.underlying3 (by decide) (olds_len hcs (by omega)) (fun w hw => first_row (hw.row 1 rfl) (by rw [hcs, Nat.zero_add]; exact Nat.mul_le_mul_right _ (by omega))) (by omega) (by omega) (by simp only [maxLen]; omega) (by omega) (fun g2 c2 cap2 hc2 hle2 hmax2 hpre2 => ?_)
   refine oq 1 [] [0, 1, 2, 7] [(9, .slice (some ⟨g2, 0, none⟩) (i + (n + m - i)) cap2)] ([]) (fun _ => by kernel_rfl) al0 ?_
   refine ops_nil ?_
   refine done_seq ?_
   refine at_seq ?_
   refine at_ops ?_
   refine oq 4 [(2, .sl (.slice (some ⟨g2, 0 + i * 5, none⟩) (i + (n + m - i) - i) (cap2 - i)))] [0, 1, 7, 9] [(43, .slice (some ⟨g2, 0 + i * 5, none⟩) (i + (n + m - i) - i) (cap2 - i)), (44, .slice (some ⟨gv, 0, none⟩) m m)] ([SlRun Try.prog 22 (.slice (some ⟨g2, 0, none⟩) (i + (n + m - i)) cap2) (some (.int .i64 ((i : Nat)))) none none (.slice (some ⟨g2, 0 + i * 5, none⟩) (i + (n + m - i) - i) (cap2 - i))]) (fun _ => by kernel_rfl) (al1 (slE_lo (P := Try.prog) (T := 22) (e := 40) (k := 5) (by_ := 32) (by kernel_rfl) (lo := i) (by omega) (by omega))) ?_
   refine ops_copy 0 rfl (by kernel_rfl) (by kernel_rfl) (g := g2) (of := (0 + i * 5)) (dn := (i + (n + m - i) - i)) (dc := (cap2 - i)) (m := m) (cnt := m) (c := c2) (yv := (.slice (some ⟨gv, 0, none⟩) m m)) (vl.flatMap Enc.enc) (by kernel_rfl) (by kernel_rfl) (T := 40) (ks := 5) (by_ := 32) (by kernel_rfl) (T' := 40) (by kernel_rfl) len_slice (by omega) (fun w hw => by have := first_sv (P := Try.prog) (w := w) (p := some ⟨gv, 0, none⟩) (m := m) (cap := m) (cnt := m) (sv_row (hw.row 1 rfl) hcv) (by omega); rw [List.take_of_length_le (by omega)] at this; exact this) (by rw [flat_len, ← hm]; exact mul_room (c := cap2) (by omega) hc2) (flat_one vl) ?_
   refine ops_nil ?_
   refine done_seq ?_
   refine at_seq ?_
   refine at_any (by kernel_rfl) ?_
   refine any_tk (f := 3) [0, 1, 2, 3, 5, 6] [(3, .fit)] [9] [(46, .slice (some ⟨g2, 0, none⟩) (i + (n + m - i)) cap2), (49, .int .i64 ((i + m : Nat))), (51, .slice (some ⟨g, 0, none⟩) n cap), (52, .int .i64 ((i : Nat)))] ([Fit .i64 ((i + m : Nat))]) #[true, true, true, true, false, true, true, false, false] (by kernel_rfl) (by kernel_rfl) (al1 (fit64 (by omega) (by omega))) ?_
   refine any_cut 1 #[true, true, true, true, true, true, true, true, false] ([(9, .slice (some ⟨g2, 0, none⟩) (i + (n + m - i)) cap2), (50, .slice (some ⟨g2, 0 + (i + m) * 5, none⟩) (i + (n + m - i) - (i + m)) (cap2 - (i + m))), (53, .slice (some ⟨g, 0 + i * 5, none⟩) (n - i) (cap - i))]) (bx g2 ((sets c2 (0 + i * 5) (vl.flatMap Enc.enc))) 40 :: bx gv cv 40 :: bx g cs 40 :: X) ?_ (fun hm => ?_)
   rotate_left
   ·
    refine any_fork [4, 7] (by kernel_rfl) (by simp) (each_cons _ rfl ?_ (each_cons _ rfl ?_ (each_nil)))
    ·
     refine oq 1 [(4, .sl (.slice (some ⟨g2, 0 + (i + m) * 5, none⟩) (i + (n + m - i) - (i + m)) (cap2 - (i + m))))] [9, 51, 52] [(50, .slice (some ⟨g2, 0 + (i + m) * 5, none⟩) (i + (n + m - i) - (i + m)) (cap2 - (i + m)))] ([SlRun Try.prog 22 (.slice (some ⟨g2, 0, none⟩) (i + (n + m - i)) cap2) (some (.int .i64 ((i + m : Nat)))) none none (.slice (some ⟨g2, 0 + (i + m) * 5, none⟩) (i + (n + m - i) - (i + m)) (cap2 - (i + m)))]) (fun _ => by kernel_rfl) (al1 (slE_lo (P := Try.prog) (T := 22) (e := 40) (k := 5) (by_ := 32) (by kernel_rfl) (lo := i + m) (by omega) (by omega))) ?_
     refine ops_nil ?_
     refine done_any ?_
     refine any_one 7 _ (by kernel_rfl) rfl ?_
     refine oq 1 [(7, .sl (.slice (some ⟨g, 0 + i * 5, none⟩) (n - i) (cap - i)))] [9, 50] [(53, .slice (some ⟨g, 0 + i * 5, none⟩) (n - i) (cap - i))] ([SlRun Try.prog 22 (.slice (some ⟨g, 0, none⟩) n cap) (some (.int .i64 ((i : Nat)))) none none (.slice (some ⟨g, 0 + i * 5, none⟩) (n - i) (cap - i))]) (fun _ => by kernel_rfl) (al1 (slE_lo (P := Try.prog) (T := 22) (e := 40) (k := 5) (by_ := 32) (by kernel_rfl) (lo := i) (by omega) (by omega))) ?_
     refine ops_nil ?_
     refine done_any ?_
     exact any_weak hm [9, 50, 53] (by kernel_rfl) rfl rfl rfl
    ·
     refine oq 1 [(7, .sl (.slice (some ⟨g, 0 + i * 5, none⟩) (n - i) (cap - i)))] [9, 46, 49] [(53, .slice (some ⟨g, 0 + i * 5, none⟩) (n - i) (cap - i))] ([SlRun Try.prog 22 (.slice (some ⟨g, 0, none⟩) n cap) (some (.int .i64 ((i : Nat)))) none none (.slice (some ⟨g, 0 + i * 5, none⟩) (n - i) (cap - i))]) (fun _ => by kernel_rfl) (al1 (slE_lo (P := Try.prog) (T := 22) (e := 40) (k := 5) (by_ := 32) (by kernel_rfl) (lo := i) (by omega) (by omega))) ?_
     refine ops_nil ?_
     refine done_any ?_
     refine any_one 4 _ (by kernel_rfl) rfl ?_
     refine oq 1 [(4, .sl (.slice (some ⟨g2, 0 + (i + m) * 5, none⟩) (i + (n + m - i) - (i + m)) (cap2 - (i + m))))] [9, 53] [(50, .slice (some ⟨g2, 0 + (i + m) * 5, none⟩) (i + (n + m - i) - (i + m)) (cap2 - (i + m)))] ([SlRun Try.prog 22 (.slice (some ⟨g2, 0, none⟩) (i + (n + m - i)) cap2) (some (.int .i64 ((i + m : Nat)))) none none (.slice (some ⟨g2, 0 + (i + m) * 5, none⟩) (i + (n + m - i) - (i + m)) (cap2 - (i + m)))]) (fun _ => by kernel_rfl) (al1 (slE_lo (P := Try.prog) (T := 22) (e := 40) (k := 5) (by_ := 32) (by kernel_rfl) (lo := i + m) (by omega) (by omega))) ?_
     refine ops_nil ?_
     refine done_any ?_
     exact any_weak hm [9, 50, 53] (by kernel_rfl) rfl rfl rfl
   refine any_one 8 _ (by kernel_rfl) rfl ?_
   refine ops_copy 0 rfl (by kernel_rfl) (by kernel_rfl) (g := g2) (of := (0 + (i + m) * 5)) (dn := (i + (n + m - i) - (i + m))) (dc := (cap2 - (i + m))) (m := (n - i)) (cnt := (n - i)) (c := ((sets c2 (0 + i * 5) (vl.flatMap Enc.enc)))) (yv := (.slice (some ⟨g, 0 + i * 5, none⟩) (n - i) (cap - i))) ((cs.toList.drop (0 + i * 5)).take ((n - i) * 5)) (by kernel_rfl) (by kernel_rfl) (T := 40) (ks := 5) (by_ := 32) (by kernel_rfl) (T' := 40) (by kernel_rfl) len_slice (by omega) (fun w hw => first_row (hw.row 2 rfl) (row_room hOw (by omega))) (by rw [sets_size]; exact copy_room (c := cap2) hOw (by omega) (by omega) hc2) (row_one hOw (by omega)) ?_
   refine ops_nil ?_
   refine done_any ?_
   refine any_nil (by kernel_rfl) ?_
   refine done_seq ?_
   refine at_seq ?_
   refine aq [] [] [(6, .slice (some ⟨g2, 0, none⟩) (i + (n + m - i)) cap2)] ([]) (fun _ => by kernel_rfl) al0 ?_
   refine done_seq ?_
   refine at_return ([]) (.slice (some ⟨g2, 0, none⟩) (i + (n + m - i)) cap2) [] (by kernel_rfl) (by kernel_rfl) al0 ?_
   exact fun w' hw => ⟨some ⟨g2, 0, none⟩, cap2, [_], by rw [show i + (n + m - i) = n + m by omega], .inr ⟨_, _, rfl, rfl, by simp; omega, ins_grow hOw (by omega) hm (by omega) hc2 (by omega) hmax2 hpre2⟩, hw.sub (.cons_cons _ (.cons _ (.cons _ (.refl _))))⟩
  ·
   refine aq [(2, .fit), (5, .no)] [0, 1, 2, 7, 8] [(31, .bool false)] ([Fit .i64 ((n + m : Nat))] ++ ([¬ (((n + m : Nat) : Int) > ((cap : Nat) : Int))])) (fun _ => by kernel_rfl) (alA (al1 (fit64 (by omega) (by omega))) (al1 q15)) ?_
   refine done_seq ?_
   refine at_false (by kernel_rfl) ?_
   refine at_skip ?_
   refine done_seq ?_
   refine at_seq ?_
   refine aq [(3, .fit), (4, .sl (.slice (some ⟨g, 0, none⟩) (n + m) cap))] [1, 2, 7, 8] [(0, .slice (some ⟨g, 0, none⟩) (n + m) cap)] ([Fit .i64 ((n + m : Nat))] ++ ([SlRun Try.prog 22 (.slice (some ⟨g, 0, none⟩) n cap) none (some (.int .i64 ((n + m : Nat)))) none (.slice (some ⟨g, 0, none⟩) (n + m) cap)])) (fun _ => by kernel_rfl) (alA (al1 (fit64 (by omega) (by omega))) (al1 (slE_hi (P := Try.prog) (T := 22) (e := 40) (k := 5) (by_ := 32) (by kernel_rfl) (h := n + m) (by omega)))) ?_
   refine done_seq ?_
   refine at_seq ?_
   refine at_seq ?_
   refine at_ops ?_
   refine oq 6 [(4, .fit), (5, .sl (.slice (some ⟨g, 0 + (i + m) * 5, none⟩) (n + m - (i + m)) (cap - (i + m))))] [0, 1, 2, 7, 8] [(61, .slice (some ⟨gv, 0, none⟩) m m), (66, .slice (some ⟨g, 0 + (i + m) * 5, none⟩) (n + m - (i + m)) (cap - (i + m)))] ([Fit .i64 ((i + m : Nat))] ++ ([SlRun Try.prog 22 (.slice (some ⟨g, 0, none⟩) (n + m) cap) (some (.int .i64 ((i + m : Nat)))) none none (.slice (some ⟨g, 0 + (i + m) * 5, none⟩) (n + m - (i + m)) (cap - (i + m)))])) (fun _ => by kernel_rfl) (alA (al1 (fit64 (by omega) (by omega))) (al1 (slE_lo (P := Try.prog) (T := 22) (e := 40) (k := 5) (by_ := 32) (by kernel_rfl) (lo := i + m) (by omega) (by omega)))) ?_
   refine ops_ext (f := 73) (args := #[.slice (some ⟨gv, 0, none⟩) m m, .slice (some ⟨g, 0 + (i + m) * 5, none⟩) (n + m - (i + m)) (cap - (i + m))]) (.bool false) (by kernel_rfl) (by kernel_rfl) (by kernel_rfl) (fun w hw => overlaps_no (hw.row 0 rfl) (hw.row 1 rfl) (apart_two hw (a := 0) (b := 1) rfl rfl (by decide))) ?_
   refine oq 1 [] [0, 1, 2, 7, 8] [(68, .bool true)] ([]) (fun _ => by kernel_rfl) al0 ?_
   refine ops_nil ?_
   refine done_seq ?_
   refine at_true (by kernel_rfl) ?_
   refine at_seq ?_
   refine at_any (by kernel_rfl) ?_
   refine any_tk (f := 3) [0, 1, 2, 3, 5, 6] [(3, .fit)] [0, 1, 2] [(69, .slice (some ⟨g, 0, none⟩) (n + m) cap), (72, .int .i64 ((i + m : Nat))), (74, .slice (some ⟨g, 0, none⟩) (n + m) cap), (75, .int .i64 ((i : Nat)))] ([Fit .i64 ((i + m : Nat))]) #[true, true, true, true, false, true, true, false, false] (by kernel_rfl) (by kernel_rfl) (al1 (fit64 (by omega) (by omega))) ?_
   refine any_cut 1 #[true, true, true, true, true, true, true, true, false] ([(0, .slice (some ⟨g, 0, none⟩) (n + m) cap), (1, .int .i64 ((i : Nat))), (2, .slice (some ⟨gv, 0, none⟩) m m), (73, .slice (some ⟨g, 0 + (i + m) * 5, none⟩) (n + m - (i + m)) (cap - (i + m))), (76, .slice (some ⟨g, 0 + i * 5, none⟩) (n + m - i) (cap - i))]) (bx gv cv 40 :: bx g cs 40 :: X) ?_ (fun hm => ?_)
   rotate_left
   ·
    refine any_fork [4, 7] (by kernel_rfl) (by simp) (each_cons _ rfl ?_ (each_cons _ rfl ?_ (each_nil)))
    ·
     refine oq 1 [(4, .sl (.slice (some ⟨g, 0 + (i + m) * 5, none⟩) (n + m - (i + m)) (cap - (i + m))))] [0, 1, 2, 74, 75] [(73, .slice (some ⟨g, 0 + (i + m) * 5, none⟩) (n + m - (i + m)) (cap - (i + m)))] ([SlRun Try.prog 22 (.slice (some ⟨g, 0, none⟩) (n + m) cap) (some (.int .i64 ((i + m : Nat)))) none none (.slice (some ⟨g, 0 + (i + m) * 5, none⟩) (n + m - (i + m)) (cap - (i + m)))]) (fun _ => by kernel_rfl) (al1 (slE_lo (P := Try.prog) (T := 22) (e := 40) (k := 5) (by_ := 32) (by kernel_rfl) (lo := i + m) (by omega) (by omega))) ?_
     refine ops_nil ?_
     refine done_any ?_
     refine any_one 7 _ (by kernel_rfl) rfl ?_
     refine oq 1 [(7, .sl (.slice (some ⟨g, 0 + i * 5, none⟩) (n + m - i) (cap - i)))] [0, 1, 2, 73] [(76, .slice (some ⟨g, 0 + i * 5, none⟩) (n + m - i) (cap - i))] ([SlRun Try.prog 22 (.slice (some ⟨g, 0, none⟩) (n + m) cap) (some (.int .i64 ((i : Nat)))) none none (.slice (some ⟨g, 0 + i * 5, none⟩) (n + m - i) (cap - i))]) (fun _ => by kernel_rfl) (al1 (slE_lo (P := Try.prog) (T := 22) (e := 40) (k := 5) (by_ := 32) (by kernel_rfl) (lo := i) (by omega) (by omega))) ?_
     refine ops_nil ?_
     refine done_any ?_
     exact any_weak hm [0, 1, 2, 73, 76] (by kernel_rfl) rfl rfl rfl
    ·
     refine oq 1 [(7, .sl (.slice (some ⟨g, 0 + i * 5, none⟩) (n + m - i) (cap - i)))] [0, 1, 2, 69, 72] [(76, .slice (some ⟨g, 0 + i * 5, none⟩) (n + m - i) (cap - i))] ([SlRun Try.prog 22 (.slice (some ⟨g, 0, none⟩) (n + m) cap) (some (.int .i64 ((i : Nat)))) none none (.slice (some ⟨g, 0 + i * 5, none⟩) (n + m - i) (cap - i))]) (fun _ => by kernel_rfl) (al1 (slE_lo (P := Try.prog) (T := 22) (e := 40) (k := 5) (by_ := 32) (by kernel_rfl) (lo := i) (by omega) (by omega))) ?_
     refine ops_nil ?_
     refine done_any ?_
     refine any_one 4 _ (by kernel_rfl) rfl ?_
     refine oq 1 [(4, .sl (.slice (some ⟨g, 0 + (i + m) * 5, none⟩) (n + m - (i + m)) (cap - (i + m))))] [0, 1, 2, 76] [(73, .slice (some ⟨g, 0 + (i + m) * 5, none⟩) (n + m - (i + m)) (cap - (i + m)))] ([SlRun Try.prog 22 (.slice (some ⟨g, 0, none⟩) (n + m) cap) (some (.int .i64 ((i + m : Nat)))) none none (.slice (some ⟨g, 0 + (i + m) * 5, none⟩) (n + m - (i + m)) (cap - (i + m)))]) (fun _ => by kernel_rfl) (al1 (slE_lo (P := Try.prog) (T := 22) (e := 40) (k := 5) (by_ := 32) (by kernel_rfl) (lo := i + m) (by omega) (by omega))) ?_
     refine ops_nil ?_
     refine done_any ?_
     exact any_weak hm [0, 1, 2, 73, 76] (by kernel_rfl) rfl rfl rfl
   refine any_one 8 _ (by kernel_rfl) rfl ?_
   refine ops_copy 1 rfl (by kernel_rfl) (by kernel_rfl) (g := g) (of := (0 + (i + m) * 5)) (dn := (n + m - (i + m))) (dc := (cap - (i + m))) (m := (n + m - i)) (cnt := (n - i)) (c := cs) (yv := (.slice (some ⟨g, 0 + i * 5, none⟩) (n + m - i) (cap - i))) ((cs.toList.drop (0 + i * 5)).take ((n - i) * 5)) (by kernel_rfl) (by kernel_rfl) (T := 40) (ks := 5) (by_ := 32) (by kernel_rfl) (T' := 40) (by kernel_rfl) len_slice (by omega) (fun w hw => first_row (hw.row 1 rfl) (row_room hOw (by omega))) (copy_room (c := cap) hOw (by omega) (by omega) hcs) (row_one hOw (by omega)) ?_
   refine ops_nil ?_
   refine done_any ?_
   refine any_nil (by kernel_rfl) ?_
   refine done_seq ?_
   refine at_seq ?_
   refine at_ops ?_
   refine oq 4 [(2, .sl (.slice (some ⟨g, 0 + i * 5, none⟩) (n + m - i) (cap - i)))] [0] [(80, .slice (some ⟨g, 0 + i * 5, none⟩) (n + m - i) (cap - i)), (81, .slice (some ⟨gv, 0, none⟩) m m)] ([SlRun Try.prog 22 (.slice (some ⟨g, 0, none⟩) (n + m) cap) (some (.int .i64 ((i : Nat)))) none none (.slice (some ⟨g, 0 + i * 5, none⟩) (n + m - i) (cap - i))]) (fun _ => by kernel_rfl) (al1 (slE_lo (P := Try.prog) (T := 22) (e := 40) (k := 5) (by_ := 32) (by kernel_rfl) (lo := i) (by omega) (by omega))) ?_
   refine ops_copy 1 rfl (by kernel_rfl) (by kernel_rfl) (g := g) (of := (0 + i * 5)) (dn := (n + m - i)) (dc := (cap - i)) (m := m) (cnt := m) (c := ((sets cs (0 + (i + m) * 5) ((cs.toList.drop (0 + i * 5)).take ((n - i) * 5))))) (yv := (.slice (some ⟨gv, 0, none⟩) m m)) (vl.flatMap Enc.enc) (by kernel_rfl) (by kernel_rfl) (T := 40) (ks := 5) (by_ := 32) (by kernel_rfl) (T' := 40) (by kernel_rfl) len_slice (by omega) (fun w hw => by have := first_sv (P := Try.prog) (w := w) (p := some ⟨gv, 0, none⟩) (m := m) (cap := m) (cnt := m) (sv_row (hw.row 0 rfl) hcv) (by omega); rw [List.take_of_length_le (by omega)] at this; exact this) (by rw [flat_len, ← hm, sets_size]; exact mul_room (c := cap) (by omega) hcs) (flat_one vl) ?_
   refine ops_nil ?_
   refine done_seq ?_
   refine at_seq ?_
   refine aq [] [] [(6, .slice (some ⟨g, 0, none⟩) (n + m) cap)] ([]) (fun _ => by kernel_rfl) al0 ?_
   refine done_seq ?_
   refine at_return ([]) (.slice (some ⟨g, 0, none⟩) (n + m) cap) [] (by kernel_rfl) (by kernel_rfl) al0 ?_
   exact fun w' hw => ⟨_, _, [_], rfl, .inr ⟨_, _, rfl, rfl, by simp; omega, ins_room hOw (by omega) hm (by omega) (by omega)⟩, hw.sub (.cons _ (.refl _))⟩
end Go.Proofs.Ytfhlmijdokfdpaa

/-! event.Send. -/
namespace Go.Proofs.Ytfhlmijdokfdpaa
open Go Go.RowKit

set_option maxRecDepth 100000 in
theorem due_d (x : Port) (w : World)
 : Calls Try.prog 39 #[.agg #[.int .i64 x.num, .int .i64 x.vcpu, .int .i64 x.peer, .bool x.pending, .bool x.masked]] w fun e w' => e = .returned (.bool (dueB x)) ∧ Below w.heap.size w w' := by
 refine enter (Hs.start w) Try.func39 rfl Try.ntmps39 rfl ?_
 refine at_seq ?_
 refine am [] [] (fun γ1 => [(1, .pointer (some ⟨γ1 0, 0, none⟩))]) (fun γ1 L => bx (γ1 0) (#[.int .i64 x.num, .int .i64 x.vcpu, .int .i64 x.peer, .bool x.pending, .bool x.masked]) 40 :: L) (fun γ1 => []) (fun _ => by kernel_rfl) (fun γ1 => al0) (fun γ1 => ?_)
 refine done_seq ?_
 refine at_seq ?_
 rcases q3 : x.pending with _ | _
 ·
  refine aq [(1, .go (owns 0 3 1))] [] [(2, .bool false)] ([]) (fun _ => by kernel_rfl) al0 ?_
  refine done_seq ?_
  refine at_return ([]) (.bool false) [] (by kernel_rfl) (by kernel_rfl) al0 ?_
  exact fun w' hw => ⟨by simp [dueB, *], hw.below⟩
 ·
  rcases q6 : x.masked with _ | _
  ·
   refine aq [(1, .go (owns 0 3 1)), (4, .go (owns 0 4 1))] [] [(2, .bool true)] ([]) (fun _ => by kernel_rfl) al0 ?_
   refine done_seq ?_
   refine at_return ([]) (.bool true) [] (by kernel_rfl) (by kernel_rfl) al0 ?_
   exact fun w' hw => ⟨by simp [dueB, *], hw.below⟩
  ·
   refine aq [(1, .go (owns 0 3 1)), (4, .go (owns 0 4 1))] [] [(2, .bool false)] ([]) (fun _ => by kernel_rfl) al0 ?_
   refine done_seq ?_
   refine at_return ([]) (.bool false) [] (by kernel_rfl) (by kernel_rfl) al0 ?_
   exact fun w' hw => ⟨by simp [dueB, *], hw.below⟩

set_option maxRecDepth 100000 in
theorem send_d (p : Option Addr) (n cap : Nat) (l : List Port) (k : Int) (w : World)
 (hsl : Sv w p l) (hn : n = l.length) (hb : n ≤ 1000)
 : Calls Try.prog 30 #[.agg #[.slice p n cap], .int .i64 k] w fun e w' => ∃ q m capq Y, e = .returned (.tuple #[.agg #[.slice q m capq], .int .i64 (sendV l k).2.1, .int .i64 (sendV l k).2.2]) ∧ SlO 40 Y q m capq (sendV l k).1 ∧ Below w.heap.size w w' ∧ Hs w Y w' := by
 refine enter (Hs.start w) Try.func30 rfl Try.ntmps30 rfl ?_
 refine at_seq ?_
 refine am [] [1] (fun γ1 => [(2, .pointer (some ⟨γ1 0, 0, none⟩)), (4, .pointer (some ⟨γ1 1, 0, none⟩))]) (fun γ1 L => bx (γ1 1) (#[.slice none 0 0]) 24 :: bx (γ1 0) (#[.slice p n cap]) 24 :: L) (fun γ1 => []) (fun _ => by kernel_rfl) (fun γ1 => al0) (fun γ1 => ?_)
 refine done_seq ?_
 refine at_seq ?_
 refine at_ops ?_
 refine oq 2 [(0, .go (owns 1 0 1))] [4] [(7, .agg #[.slice p n cap]), (8, .int .i64 k)] ([]) (fun _ => by kernel_rfl) al0 ?_
 refine ops_inline (g := 40) (args := #[.agg #[.slice p n cap], .int .i64 k, .func (.func 58) #[] #[]]) (by kernel_rfl) (by kernel_rfl) (by kernel_rfl) (fun args w => Try.call40 args w) Try.func40 rfl Try.ntmps40 rfl ?_
 refine at_seq ?_
 refine am [] [] (fun γ3 => [(3, .pointer (some ⟨γ3 0, 0, none⟩)), (4, .pointer (some ⟨γ3 1, 0, none⟩)), (5, .pointer (some ⟨γ3 2, 0, none⟩)), (6, .pointer (some ⟨γ3 3, 0, none⟩))]) (fun γ3 L => bx (γ3 3) (#[.slice none 0 0]) 24 :: bx (γ3 2) (#[.func (.func 58) #[] #[]]) 75 :: bx (γ3 1) (#[.int .i64 k]) 3 :: bx (γ3 0) (#[.slice p n cap]) 24 :: L) (fun γ3 => []) (fun _ => by kernel_rfl) (fun γ3 => al0) (fun γ3 => ?_)
 refine done_seq ?_
 refine at_seq ?_
 refine am [(1, .go (owns 0 0 1))] [3, 4, 5, 6] (fun γ4 => [(9, .pointer (some ⟨γ4 0, 0, none⟩))]) (fun γ4 L => bx (γ4 0) (#[.int .i64 0]) 3 :: L) (fun γ4 => []) (fun _ => by kernel_rfl) (fun γ4 => al0) (fun γ4 => ?_)
 refine done_seq ?_
 refine at_seq ?_
 refine at_ops ?_
 refine oq 2 [(0, .go (owns 4 0 1))] [6, 9] [(13, .agg #[.slice p n cap]), (14, .func (.func 61) #[] #[.pointer (some ⟨γ3 1, 0, none⟩), .pointer (some ⟨γ3 2, 0, none⟩), .pointer (some ⟨γ3 0, 0, none⟩), .pointer (some ⟨γ4 0, 0, none⟩)])] ([]) (fun _ => by kernel_rfl) al0 ?_
 refine ops_inline (g := 54) (args := #[.agg #[.slice p n cap], .func (.func 61) #[] #[.pointer (some ⟨γ3 1, 0, none⟩), .pointer (some ⟨γ3 2, 0, none⟩), .pointer (some ⟨γ3 0, 0, none⟩), .pointer (some ⟨γ4 0, 0, none⟩)]]) (by kernel_rfl) (by kernel_rfl) (by kernel_rfl) (fun args w => Try.call54 args w) Try.func54 rfl Try.ntmps54 rfl ?_
 refine at_seq ?_
 refine am [] [1] (fun γ6 => [(2, .pointer (some ⟨γ6 0, 0, none⟩)), (4, .pointer (some ⟨γ6 1, 0, none⟩))]) (fun γ6 L => bx (γ6 1) (#[.slice none 0 0]) 24 :: bx (γ6 0) (#[.slice p n cap]) 24 :: L) (fun γ6 => []) (fun _ => by kernel_rfl) (fun γ6 => al0) (fun γ6 => ?_)
 refine done_seq ?_
 refine at_seq ?_
 refine at_seq ?_
 refine at_ops ?_
 refine oq 1 [(0, .go (owns 1 0 1))] [1, 2, 4] [(9, .agg #[.slice p n cap])] ([]) (fun _ => by kernel_rfl) al0 ?_
 rcases q8 : rightB l with _ | _
 ·
  refine ops_callD (.int .i64 260) (by kernel_rfl) (by kernel_rfl) (by kernel_rfl) (fun args w => Try.call16 args w) (fun w hw => by have := check_d p n cap l w (hsl.kept hw.below) hn hb; rw [q8] at this; exact this) ?_
  refine oq 1 [] [1, 2, 4] [(6, .int .i64 260)] ([]) (fun _ => by kernel_rfl) al0 ?_
  refine ops_nil ?_
  refine done_seq ?_
  refine at_seq ?_
  refine aq [] [1, 2, 4, 6] [(12, .bool true)] ([]) (fun _ => by kernel_rfl) al0 ?_
  refine done_seq ?_
  refine at_true (by kernel_rfl) ?_
  refine at_seq ?_
  refine aq [(2, .go (owns 0 0 1))] [4] [(5, .int .i64 260)] ([]) (fun _ => by kernel_rfl) al0 ?_
  refine done_seq ?_
  refine at_back (owns 0 0 1) (.tuple #[.agg #[.slice none 0 0], .int .i64 260]) [] (by kernel_rfl) (by kernel_rfl) al0 ?_
  refine om 6 [(7, .go (owns 0 0 1))] [6, 9] (fun γ12 => [(10, .pointer (some ⟨γ12 0, 0, none⟩)), (11, .int .i64 260)]) (fun γ12 L => bx (γ12 0) (#[.slice none 0 0]) 24 :: L) (fun γ12 => []) (fun _ => by kernel_rfl) (fun γ12 => al0) (fun γ12 => ?_)
  refine ops_nil ?_
  refine done_seq ?_
  refine at_seq ?_
  refine at_any (by kernel_rfl) ?_
  refine any_tk (f := 5) [2] [] [6, 9, 10] [(20, .int .i64 260)] ([]) #[false, false, true, false, false, false] (by kernel_rfl) (by kernel_rfl) al0 ?_
  refine any_cut 0 #[true, true, true, true, true, true] ([(6, .pointer (some ⟨γ3 3, 0, none⟩)), (7, .int .i64 0), (8, .int .i64 260)]) ([bx (γ12 0) (#[.slice none 0 0]) 24, bx (γ6 1) (#[.slice none 0 0]) 24, bx (γ6 0) (#[.slice p n cap]) 24, bx (γ4 0) (#[.int .i64 0]) 3, bx (γ3 3) (#[.slice none 0 0]) 24, bx (γ3 2) (#[.func (.func 58) #[] #[]]) 75, bx (γ3 1) (#[.int .i64 k]) 3, bx (γ3 0) (#[.slice p n cap]) 24, bx (γ1 1) (#[.slice none 0 0]) 24, bx (γ1 0) (#[.slice p n cap]) 24]) ?_ (fun hm => ?_)
  rotate_left
  ·
   refine any_fork [0, 1] (by kernel_rfl) (by simp) (each_cons _ rfl ?_ (each_cons _ rfl ?_ (each_nil)))
   ·
    refine oq 1 [(0, .go (owns 0 0 1))] [6, 9, 20] [(18, .agg #[.slice none 0 0])] ([]) (fun _ => by kernel_rfl) al0 ?_
    refine ops_nil ?_
    refine done_any ?_
    refine any_fork [1, 3] (by kernel_rfl) (by simp) (each_cons _ rfl ?_ (each_cons _ rfl ?_ (each_nil)))
    ·
     refine oq 1 [(1, .go (owns 3 0 1))] [6, 18, 20] [(19, .int .i64 0)] ([]) (fun _ => by kernel_rfl) al0 ?_
     refine ops_nil ?_
     refine done_any ?_
     refine any_one 3 _ (by kernel_rfl) rfl ?_
     refine oq 1 [(3, .go (owns 4 0 1))] [6, 19, 20] [] ([]) (fun _ => by kernel_rfl) al0 ?_
     refine ops_nil ?_
     refine done_any ?_
     refine any_tk (f := 0) [4, 5] [] [6] [(7, .int .i64 0), (8, .int .i64 260)] ([]) #[true, true, true, true, true, true] (by kernel_rfl) (by kernel_rfl) al0 ?_
     exact any_weak hm [6, 7, 8] (by kernel_rfl) rfl rfl rfl
    ·
     refine oq 1 [(3, .go (owns 4 0 1))] [6, 9, 20] [] ([]) (fun _ => by kernel_rfl) al0 ?_
     refine ops_nil ?_
     refine done_any ?_
     refine any_one 1 _ (by kernel_rfl) rfl ?_
     refine oq 1 [(1, .go (owns 3 0 1))] [6, 20] [(19, .int .i64 0)] ([]) (fun _ => by kernel_rfl) al0 ?_
     refine ops_nil ?_
     refine done_any ?_
     refine any_tk (f := 0) [4, 5] [] [6] [(7, .int .i64 0), (8, .int .i64 260)] ([]) #[true, true, true, true, true, true] (by kernel_rfl) (by kernel_rfl) al0 ?_
     exact any_weak hm [6, 7, 8] (by kernel_rfl) rfl rfl rfl
   ·
    refine oq 1 [(1, .go (owns 3 0 1))] [6, 10, 20] [(19, .int .i64 0)] ([]) (fun _ => by kernel_rfl) al0 ?_
    refine ops_nil ?_
    refine done_any ?_
    refine any_one 0 _ (by kernel_rfl) rfl ?_
    refine oq 1 [(0, .go (owns 0 0 1))] [6, 19, 20] [(18, .agg #[.slice none 0 0])] ([]) (fun _ => by kernel_rfl) al0 ?_
    refine ops_nil ?_
    refine done_any ?_
    refine any_one 3 _ (by kernel_rfl) rfl ?_
    refine oq 1 [(3, .go (owns 4 0 1))] [6, 19, 20] [] ([]) (fun _ => by kernel_rfl) al0 ?_
    refine ops_nil ?_
    refine done_any ?_
    refine any_tk (f := 0) [4, 5] [] [6] [(7, .int .i64 0), (8, .int .i64 260)] ([]) #[true, true, true, true, true, true] (by kernel_rfl) (by kernel_rfl) al0 ?_
    exact any_weak hm [6, 7, 8] (by kernel_rfl) rfl rfl rfl
  refine any_nil (by kernel_rfl) ?_
  refine done_seq ?_
  refine at_back (owns 4 0 1) (.tuple #[.agg #[.slice none 0 0], .int .i64 0, .int .i64 260]) [] (by kernel_rfl) (by kernel_rfl) al0 ?_
  refine oq 6 [(6, .go (owns 8 0 1))] [4] [(5, .int .i64 0), (6, .int .i64 260)] ([]) (fun _ => by kernel_rfl) al0 ?_
  refine ops_nil ?_
  refine done_seq ?_
  refine at_return (owns 8 0 1) (.tuple #[.agg #[.slice none 0 0], .int .i64 0, .int .i64 260]) [] (by kernel_rfl) (by kernel_rfl) al0 ?_
  exact fun w' hw => by rw [sendV_bad q8]; exact ⟨none, 0, 0, [], rfl, SlO.nil, hw.below, hw.sub (List.nil_sublist _)⟩
 ·
  refine ops_callD (.int .i64 0) (by kernel_rfl) (by kernel_rfl) (by kernel_rfl) (fun args w => Try.call16 args w) (fun w hw => by have := check_d p n cap l w (hsl.kept hw.below) hn hb; rw [q8] at this; exact this) ?_
  refine oq 1 [] [1, 2, 4] [(6, .int .i64 0)] ([]) (fun _ => by kernel_rfl) al0 ?_
  refine ops_nil ?_
  refine done_seq ?_
  refine at_seq ?_
  refine aq [] [1, 2, 4, 6] [(12, .bool false)] ([]) (fun _ => by kernel_rfl) al0 ?_
  refine done_seq ?_
  refine at_false (by kernel_rfl) ?_
  refine at_skip ?_
  refine done_seq ?_
  refine at_seq ?_
  refine at_ops ?_
  refine oq 2 [(1, .go (owns 1 0 1))] [1, 4] [(16, .slice p n cap)] ([]) (fun _ => by kernel_rfl) al0 ?_
  refine ops_call (fun v L' => ∃ q capq Y, v = .slice q n capq ∧ L' = List.take 9 ([bx (γ6 1) (#[.slice none 0 0]) 24, bx (γ6 0) (#[.slice p n cap]) 24, bx (γ4 0) (#[.int .i64 0]) 3, bx (γ3 3) (#[.slice none 0 0]) 24, bx (γ3 2) (#[.func (.func 58) #[] #[]]) 75, bx (γ3 1) (#[.int .i64 k]) 3, bx (γ3 0) (#[.slice p n cap]) 24, bx (γ1 1) (#[.slice none 0 0]) 24, bx (γ1 0) (#[.slice p n cap]) 24]) ++ (Y ++ List.drop 9 ([bx (γ6 1) (#[.slice none 0 0]) 24, bx (γ6 0) (#[.slice p n cap]) 24, bx (γ4 0) (#[.int .i64 0]) 3, bx (γ3 3) (#[.slice none 0 0]) 24, bx (γ3 2) (#[.func (.func 58) #[] #[]]) 75, bx (γ3 1) (#[.int .i64 k]) 3, bx (γ3 0) (#[.slice p n cap]) 24, bx (γ1 1) (#[.slice none 0 0]) 24, bx (γ1 0) (#[.slice p n cap]) 24])) ∧ SlO 40 Y q n capq l) (by kernel_rfl) (by kernel_rfl) (by kernel_rfl) (fun args w => Try.call72 args w) (fun w hw => (clone_d p n cap l w (hsl.kept hw.below) hn (by omega)).mono fun e w' ⟨q, capq, Y, he, hO, hb, hY⟩ => ⟨_, _, he, ⟨q, capq, Y, rfl, rfl, hO⟩, hw.join hb hY 9⟩) ?_
  rintro v34 L34 ⟨q34, cq34, Y34, rfl, rfl, hO34⟩
  have hnq34 := hO34.len
  rcases hO34.parts with ⟨rfl, rfl, hz34⟩ | ⟨g34, cs34, rfl, rfl, hOw34⟩
  ·
   refine om 3 [(5, .go (owns 0 0 1))] [1, 4] (fun γ35 => [(7, .pointer (some ⟨γ35 0, 0, none⟩))]) (fun γ35 L => bx (γ35 0) (#[.slice none n cq34]) 24 :: L) (fun γ35 => []) (fun _ => by kernel_rfl) (fun γ35 => al0) (fun γ35 => ?_)
   refine ops_nil ?_
   refine done_seq ?_
   refine at_seq ?_
   refine at_seq ?_
   refine at_ops ?_
   refine oq 1 [] [4, 7] [(19, .func (.func 61) #[] #[.pointer (some ⟨γ3 1, 0, none⟩), .pointer (some ⟨γ3 2, 0, none⟩), .pointer (some ⟨γ3 0, 0, none⟩), .pointer (some ⟨γ4 0, 0, none⟩)])] ([]) (fun _ => by kernel_rfl) al0 ?_
   refine ops_inline (g := 61) (args := #[.pointer (some ⟨γ35 0, 0, none⟩), .pointer (some ⟨γ3 1, 0, none⟩), .pointer (some ⟨γ3 2, 0, none⟩), .pointer (some ⟨γ3 0, 0, none⟩), .pointer (some ⟨γ4 0, 0, none⟩)]) (by kernel_rfl) (by kernel_rfl) (by kernel_rfl) (fun args w => Try.call61 args w) Try.func61 rfl Try.ntmps61 rfl ?_
   refine at_seq ?_
   refine aq [] [0, 1, 2, 3, 4] [] ([]) (fun _ => by kernel_rfl) al0 ?_
   refine done_seq ?_
   refine at_seq ?_
   refine at_calm rfl (by kernel_rfl) (by kernel_rfl) ?_
   refine cm 5 [(3, .go (owns 0 0 1)), (4, .go (owns 6 0 1))] [0, 2, 3, 4] [(14, .slice none n cq34), (15, .int .i64 k)] ([]) (by kernel_rfl) rfl al0 ?_
   rcases hg39 : getB l k with _ | y39
   ·
    refine calm_callD (.pointer none) (by kernel_rfl) (by kernel_rfl) (by kernel_rfl) (fun args w => Try.call32 args w) (fun w hw => by have := port_d none n cq34 l k w (hO34.atN (A := []) hw) hnq34 (by omega) (ris_all (right_ris q8)) (ris_asc l 0 (right_ris q8)); rw [portV_none hg39] at this; exact this) ?_
    refine cm 1 [] [0, 2, 3, 4] [(7, .pointer none)] ([]) (by kernel_rfl) rfl al0 ?_
    refine calm_nil' ?_
    refine done_seq ?_
    refine at_seq ?_
    refine at_seq ?_
    refine aq [] [0, 2, 3, 4, 7] [(18, .bool true)] ([]) (fun _ => by kernel_rfl) al0 ?_
    refine done_seq ?_
    refine at_true (by kernel_rfl) ?_
    refine at_seq ?_
    refine aq [] [] [(6, .int .i64 4)] ([]) (fun _ => by kernel_rfl) al0 ?_
    refine done_seq ?_
    refine at_back ([]) (.int .i64 4) [] (by kernel_rfl) (by kernel_rfl) al0 ?_
    refine oq 1 [] [4, 7] [(8, .int .i64 4)] ([]) (fun _ => by kernel_rfl) al0 ?_
    refine ops_nil ?_
    refine done_seq ?_
    refine at_seq ?_
    refine aq [] [4, 7, 8] [(22, .bool true)] ([]) (fun _ => by kernel_rfl) al0 ?_
    refine done_seq ?_
    refine at_true (by kernel_rfl) ?_
    refine at_seq ?_
    refine aq [(2, .go (owns 1 0 1))] [4] [(5, .int .i64 4)] ([]) (fun _ => by kernel_rfl) al0 ?_
    refine done_seq ?_
    refine at_back (owns 1 0 1) (.tuple #[.agg #[.slice none 0 0], .int .i64 4]) [] (by kernel_rfl) (by kernel_rfl) al0 ?_
    refine om 6 [(7, .go (owns 0 0 1))] [6, 9] (fun γ46 => [(10, .pointer (some ⟨γ46 0, 0, none⟩)), (11, .int .i64 4)]) (fun γ46 L => bx (γ46 0) (#[.slice none 0 0]) 24 :: L) (fun γ46 => []) (fun _ => by kernel_rfl) (fun γ46 => al0) (fun γ46 => ?_)
    refine ops_nil ?_
    refine done_seq ?_
    refine at_seq ?_
    refine at_any (by kernel_rfl) ?_
    refine any_tk (f := 5) [2] [] [6, 9, 10] [(20, .int .i64 4)] ([]) #[false, false, true, false, false, false] (by kernel_rfl) (by kernel_rfl) al0 ?_
    refine any_cut 0 #[true, true, true, true, true, true] ([(6, .pointer (some ⟨γ3 3, 0, none⟩)), (7, .int .i64 0), (8, .int .i64 4)]) ([bx (γ46 0) (#[.slice none 0 0]) 24, bx (γ35 0) (#[.slice none n cq34]) 24, bx (γ6 1) (#[.slice none 0 0]) 24, bx (γ6 0) (#[.slice p n cap]) 24, bx (γ4 0) (#[.int .i64 0]) 3, bx (γ3 3) (#[.slice none 0 0]) 24, bx (γ3 2) (#[.func (.func 58) #[] #[]]) 75, bx (γ3 1) (#[.int .i64 k]) 3, bx (γ3 0) (#[.slice p n cap]) 24, bx (γ1 1) (#[.slice none 0 0]) 24, bx (γ1 0) (#[.slice p n cap]) 24]) ?_ (fun hm => ?_)
    rotate_left
    ·
     refine any_fork [0, 1] (by kernel_rfl) (by simp) (each_cons _ rfl ?_ (each_cons _ rfl ?_ (each_nil)))
     ·
      refine oq 1 [(0, .go (owns 0 0 1))] [6, 9, 20] [(18, .agg #[.slice none 0 0])] ([]) (fun _ => by kernel_rfl) al0 ?_
      refine ops_nil ?_
      refine done_any ?_
      refine any_fork [1, 3] (by kernel_rfl) (by simp) (each_cons _ rfl ?_ (each_cons _ rfl ?_ (each_nil)))
      ·
       refine oq 1 [(1, .go (owns 4 0 1))] [6, 18, 20] [(19, .int .i64 0)] ([]) (fun _ => by kernel_rfl) al0 ?_
       refine ops_nil ?_
       refine done_any ?_
       refine any_one 3 _ (by kernel_rfl) rfl ?_
       refine oq 1 [(3, .go (owns 5 0 1))] [6, 19, 20] [] ([]) (fun _ => by kernel_rfl) al0 ?_
       refine ops_nil ?_
       refine done_any ?_
       refine any_tk (f := 0) [4, 5] [] [6] [(7, .int .i64 0), (8, .int .i64 4)] ([]) #[true, true, true, true, true, true] (by kernel_rfl) (by kernel_rfl) al0 ?_
       exact any_weak hm [6, 7, 8] (by kernel_rfl) rfl rfl rfl
      ·
       refine oq 1 [(3, .go (owns 5 0 1))] [6, 9, 20] [] ([]) (fun _ => by kernel_rfl) al0 ?_
       refine ops_nil ?_
       refine done_any ?_
       refine any_one 1 _ (by kernel_rfl) rfl ?_
       refine oq 1 [(1, .go (owns 4 0 1))] [6, 20] [(19, .int .i64 0)] ([]) (fun _ => by kernel_rfl) al0 ?_
       refine ops_nil ?_
       refine done_any ?_
       refine any_tk (f := 0) [4, 5] [] [6] [(7, .int .i64 0), (8, .int .i64 4)] ([]) #[true, true, true, true, true, true] (by kernel_rfl) (by kernel_rfl) al0 ?_
       exact any_weak hm [6, 7, 8] (by kernel_rfl) rfl rfl rfl
     ·
      refine oq 1 [(1, .go (owns 4 0 1))] [6, 10, 20] [(19, .int .i64 0)] ([]) (fun _ => by kernel_rfl) al0 ?_
      refine ops_nil ?_
      refine done_any ?_
      refine any_one 0 _ (by kernel_rfl) rfl ?_
      refine oq 1 [(0, .go (owns 0 0 1))] [6, 19, 20] [(18, .agg #[.slice none 0 0])] ([]) (fun _ => by kernel_rfl) al0 ?_
      refine ops_nil ?_
      refine done_any ?_
      refine any_one 3 _ (by kernel_rfl) rfl ?_
      refine oq 1 [(3, .go (owns 5 0 1))] [6, 19, 20] [] ([]) (fun _ => by kernel_rfl) al0 ?_
      refine ops_nil ?_
      refine done_any ?_
      refine any_tk (f := 0) [4, 5] [] [6] [(7, .int .i64 0), (8, .int .i64 4)] ([]) #[true, true, true, true, true, true] (by kernel_rfl) (by kernel_rfl) al0 ?_
      exact any_weak hm [6, 7, 8] (by kernel_rfl) rfl rfl rfl
    refine any_nil (by kernel_rfl) ?_
    refine done_seq ?_
    refine at_back (owns 5 0 1) (.tuple #[.agg #[.slice none 0 0], .int .i64 0, .int .i64 4]) [] (by kernel_rfl) (by kernel_rfl) al0 ?_
    refine oq 6 [(6, .go (owns 9 0 1))] [4] [(5, .int .i64 0), (6, .int .i64 4)] ([]) (fun _ => by kernel_rfl) al0 ?_
    refine ops_nil ?_
    refine done_seq ?_
    refine at_return (owns 9 0 1) (.tuple #[.agg #[.slice none 0 0], .int .i64 0, .int .i64 4]) [] (by kernel_rfl) (by kernel_rfl) al0 ?_
    exact fun w' hw => by rw [sendV_none q8 hg39]; exact ⟨none, 0, 0, [], rfl, SlO.nil, hw.below, hw.sub (List.nil_sublist _)⟩
   ·
    have hy39 := (get_pos (ris_asc l 0 (right_ris q8)) hg39).1
    exact absurd (List.getElem?_eq_some_iff.1 hy39).1 (by omega)
  ·
   refine om 3 [(5, .go (owns 0 0 1))] [1, 4] (fun γ66 => [(7, .pointer (some ⟨γ66 0, 0, none⟩))]) (fun γ66 L => bx (γ66 0) (#[.slice (some ⟨g34, 0, none⟩) n cq34]) 24 :: L) (fun γ66 => []) (fun _ => by kernel_rfl) (fun γ66 => al0) (fun γ66 => ?_)
   refine ops_nil ?_
   refine done_seq ?_
   refine at_seq ?_
   refine at_seq ?_
   refine at_ops ?_
   refine oq 1 [] [4, 7] [(19, .func (.func 61) #[] #[.pointer (some ⟨γ3 1, 0, none⟩), .pointer (some ⟨γ3 2, 0, none⟩), .pointer (some ⟨γ3 0, 0, none⟩), .pointer (some ⟨γ4 0, 0, none⟩)])] ([]) (fun _ => by kernel_rfl) al0 ?_
   refine ops_inline (g := 61) (args := #[.pointer (some ⟨γ66 0, 0, none⟩), .pointer (some ⟨γ3 1, 0, none⟩), .pointer (some ⟨γ3 2, 0, none⟩), .pointer (some ⟨γ3 0, 0, none⟩), .pointer (some ⟨γ4 0, 0, none⟩)]) (by kernel_rfl) (by kernel_rfl) (by kernel_rfl) (fun args w => Try.call61 args w) Try.func61 rfl Try.ntmps61 rfl ?_
   refine at_seq ?_
   refine aq [] [0, 1, 2, 3, 4] [] ([]) (fun _ => by kernel_rfl) al0 ?_
   refine done_seq ?_
   refine at_seq ?_
   refine at_calm rfl (by kernel_rfl) (by kernel_rfl) ?_
   refine cm 5 [(3, .go (owns 0 0 1)), (4, .go (owns 6 0 1))] [0, 2, 3, 4] [(14, .slice (some ⟨g34, 0, none⟩) n cq34), (15, .int .i64 k)] ([]) (by kernel_rfl) rfl al0 ?_
   rcases hg70 : getB l k with _ | y70
   ·
    refine calm_callD (.pointer none) (by kernel_rfl) (by kernel_rfl) (by kernel_rfl) (fun args w => Try.call32 args w) (fun w hw => by have := port_d (some ⟨g34, 0, none⟩) n cq34 l k w (hO34.atN (A := [_, _, _, _, _, _, _, _, _, _]) hw) hnq34 (by omega) (ris_all (right_ris q8)) (ris_asc l 0 (right_ris q8)); rw [portV_none hg70] at this; exact this) ?_
    refine cm 1 [] [0, 2, 3, 4] [(7, .pointer none)] ([]) (by kernel_rfl) rfl al0 ?_
    refine calm_nil' ?_
    refine done_seq ?_
    refine at_seq ?_
    refine at_seq ?_
    refine aq [] [0, 2, 3, 4, 7] [(18, .bool true)] ([]) (fun _ => by kernel_rfl) al0 ?_
    refine done_seq ?_
    refine at_true (by kernel_rfl) ?_
    refine at_seq ?_
    refine aq [] [] [(6, .int .i64 4)] ([]) (fun _ => by kernel_rfl) al0 ?_
    refine done_seq ?_
    refine at_back ([]) (.int .i64 4) [] (by kernel_rfl) (by kernel_rfl) al0 ?_
    refine oq 1 [] [4, 7] [(8, .int .i64 4)] ([]) (fun _ => by kernel_rfl) al0 ?_
    refine ops_nil ?_
    refine done_seq ?_
    refine at_seq ?_
    refine aq [] [4, 7, 8] [(22, .bool true)] ([]) (fun _ => by kernel_rfl) al0 ?_
    refine done_seq ?_
    refine at_true (by kernel_rfl) ?_
    refine at_seq ?_
    refine aq [(2, .go (owns 1 0 1))] [4] [(5, .int .i64 4)] ([]) (fun _ => by kernel_rfl) al0 ?_
    refine done_seq ?_
    refine at_back (owns 1 0 1) (.tuple #[.agg #[.slice none 0 0], .int .i64 4]) [] (by kernel_rfl) (by kernel_rfl) al0 ?_
    refine om 6 [(7, .go (owns 0 0 1))] [6, 9] (fun γ77 => [(10, .pointer (some ⟨γ77 0, 0, none⟩)), (11, .int .i64 4)]) (fun γ77 L => bx (γ77 0) (#[.slice none 0 0]) 24 :: L) (fun γ77 => []) (fun _ => by kernel_rfl) (fun γ77 => al0) (fun γ77 => ?_)
    refine ops_nil ?_
    refine done_seq ?_
    refine at_seq ?_
    refine at_any (by kernel_rfl) ?_
    refine any_tk (f := 5) [2] [] [6, 9, 10] [(20, .int .i64 4)] ([]) #[false, false, true, false, false, false] (by kernel_rfl) (by kernel_rfl) al0 ?_
    refine any_cut 0 #[true, true, true, true, true, true] ([(6, .pointer (some ⟨γ3 3, 0, none⟩)), (7, .int .i64 0), (8, .int .i64 4)]) ([bx (γ77 0) (#[.slice none 0 0]) 24, bx (γ66 0) (#[.slice (some ⟨g34, 0, none⟩) n cq34]) 24, bx (γ6 1) (#[.slice none 0 0]) 24, bx (γ6 0) (#[.slice p n cap]) 24, bx (γ4 0) (#[.int .i64 0]) 3, bx (γ3 3) (#[.slice none 0 0]) 24, bx (γ3 2) (#[.func (.func 58) #[] #[]]) 75, bx (γ3 1) (#[.int .i64 k]) 3, bx (γ3 0) (#[.slice p n cap]) 24, bx (γ1 1) (#[.slice none 0 0]) 24, bx (γ1 0) (#[.slice p n cap]) 24, bx g34 cs34 40]) ?_ (fun hm => ?_)
    rotate_left
    ·
     refine any_fork [0, 1] (by kernel_rfl) (by simp) (each_cons _ rfl ?_ (each_cons _ rfl ?_ (each_nil)))
     ·
      refine oq 1 [(0, .go (owns 0 0 1))] [6, 9, 20] [(18, .agg #[.slice none 0 0])] ([]) (fun _ => by kernel_rfl) al0 ?_
      refine ops_nil ?_
      refine done_any ?_
      refine any_fork [1, 3] (by kernel_rfl) (by simp) (each_cons _ rfl ?_ (each_cons _ rfl ?_ (each_nil)))
      ·
       refine oq 1 [(1, .go (owns 4 0 1))] [6, 18, 20] [(19, .int .i64 0)] ([]) (fun _ => by kernel_rfl) al0 ?_
       refine ops_nil ?_
       refine done_any ?_
       refine any_one 3 _ (by kernel_rfl) rfl ?_
       refine oq 1 [(3, .go (owns 5 0 1))] [6, 19, 20] [] ([]) (fun _ => by kernel_rfl) al0 ?_
       refine ops_nil ?_
       refine done_any ?_
       refine any_tk (f := 0) [4, 5] [] [6] [(7, .int .i64 0), (8, .int .i64 4)] ([]) #[true, true, true, true, true, true] (by kernel_rfl) (by kernel_rfl) al0 ?_
       exact any_weak hm [6, 7, 8] (by kernel_rfl) rfl rfl rfl
      ·
       refine oq 1 [(3, .go (owns 5 0 1))] [6, 9, 20] [] ([]) (fun _ => by kernel_rfl) al0 ?_
       refine ops_nil ?_
       refine done_any ?_
       refine any_one 1 _ (by kernel_rfl) rfl ?_
       refine oq 1 [(1, .go (owns 4 0 1))] [6, 20] [(19, .int .i64 0)] ([]) (fun _ => by kernel_rfl) al0 ?_
       refine ops_nil ?_
       refine done_any ?_
       refine any_tk (f := 0) [4, 5] [] [6] [(7, .int .i64 0), (8, .int .i64 4)] ([]) #[true, true, true, true, true, true] (by kernel_rfl) (by kernel_rfl) al0 ?_
       exact any_weak hm [6, 7, 8] (by kernel_rfl) rfl rfl rfl
     ·
      refine oq 1 [(1, .go (owns 4 0 1))] [6, 10, 20] [(19, .int .i64 0)] ([]) (fun _ => by kernel_rfl) al0 ?_
      refine ops_nil ?_
      refine done_any ?_
      refine any_one 0 _ (by kernel_rfl) rfl ?_
      refine oq 1 [(0, .go (owns 0 0 1))] [6, 19, 20] [(18, .agg #[.slice none 0 0])] ([]) (fun _ => by kernel_rfl) al0 ?_
      refine ops_nil ?_
      refine done_any ?_
      refine any_one 3 _ (by kernel_rfl) rfl ?_
      refine oq 1 [(3, .go (owns 5 0 1))] [6, 19, 20] [] ([]) (fun _ => by kernel_rfl) al0 ?_
      refine ops_nil ?_
      refine done_any ?_
      refine any_tk (f := 0) [4, 5] [] [6] [(7, .int .i64 0), (8, .int .i64 4)] ([]) #[true, true, true, true, true, true] (by kernel_rfl) (by kernel_rfl) al0 ?_
      exact any_weak hm [6, 7, 8] (by kernel_rfl) rfl rfl rfl
    refine any_nil (by kernel_rfl) ?_
    refine done_seq ?_
    refine at_back (owns 5 0 1) (.tuple #[.agg #[.slice none 0 0], .int .i64 0, .int .i64 4]) [] (by kernel_rfl) (by kernel_rfl) al0 ?_
    refine oq 6 [(6, .go (owns 9 0 1))] [4] [(5, .int .i64 0), (6, .int .i64 4)] ([]) (fun _ => by kernel_rfl) al0 ?_
    refine ops_nil ?_
    refine done_seq ?_
    refine at_return (owns 9 0 1) (.tuple #[.agg #[.slice none 0 0], .int .i64 0, .int .i64 4]) [] (by kernel_rfl) (by kernel_rfl) al0 ?_
    exact fun w' hw => by rw [sendV_none q8 hg70]; exact ⟨none, 0, 0, [], rfl, SlO.nil, hw.below, hw.sub (List.nil_sublist _)⟩
   ·
    have hy70 := (get_pos (ris_asc l 0 (right_ris q8)) hg70).1
    refine calm_callD (.pointer (some ⟨g34, 0 + (posB l k) * 5, none⟩)) (by kernel_rfl) (by kernel_rfl) (by kernel_rfl) (fun args w => Try.call32 args w) (fun w hw => by have := port_d (some ⟨g34, 0, none⟩) n cq34 l k w (hO34.atN (A := [_, _, _, _, _, _, _, _, _, _]) hw) hnq34 (by omega) (ris_all (right_ris q8)) (ris_asc l 0 (right_ris q8)); rw [portV_some hg70] at this; exact this) ?_
    refine cm 1 [] [0, 2, 3, 4] [(7, .pointer (some ⟨g34, 0 + (posB l k) * 5, none⟩))] ([]) (by kernel_rfl) rfl al0 ?_
    refine calm_nil' ?_
    refine done_seq ?_
    refine at_seq ?_
    refine at_seq ?_
    refine aq [] [0, 2, 3, 4, 7] [(18, .bool false)] ([]) (fun _ => by kernel_rfl) al0 ?_
    refine done_seq ?_
    refine at_false (by kernel_rfl) ?_
    refine at_skip ?_
    refine done_seq ?_
    refine at_seq ?_
    refine at_any (by kernel_rfl) ?_
    refine any_tk (f := 8) [1, 2, 3, 4] [] [2, 3, 4] [(21, .pointer (some ⟨g34, 0 + (posB l k) * 5, none⟩)), (24, .pointer (some ⟨γ66 0, 0, none⟩))] ([]) #[false, true, true, true, true, false, false, false, false, false, false, false] (by kernel_rfl) (by kernel_rfl) al0 ?_
    refine any_cut 6 #[true, true, true, true, true, true, false, false, false, false, false, false] ([(3, .pointer (some ⟨γ3 0, 0, none⟩)), (4, .pointer (some ⟨γ4 0, 0, none⟩)), (20, .func (.func 58) #[] #[]), (21, .pointer (some ⟨g34, 0 + (posB l k) * 5, none⟩)), (25, .slice (some ⟨g34, 0, none⟩) n cq34)]) ([bx (γ66 0) (#[.slice (some ⟨g34, 0, none⟩) n cq34]) 24, bx (γ6 1) (#[.slice none 0 0]) 24, bx (γ6 0) (#[.slice p n cap]) 24, bx (γ4 0) (#[.int .i64 0]) 3, bx (γ3 3) (#[.slice none 0 0]) 24, bx (γ3 2) (#[.func (.func 58) #[] #[]]) 75, bx (γ3 1) (#[.int .i64 k]) 3, bx (γ3 0) (#[.slice p n cap]) 24, bx (γ1 1) (#[.slice none 0 0]) 24, bx (γ1 0) (#[.slice p n cap]) 24, bx g34 cs34 40]) ?_ (fun hm => ?_)
    rotate_left
    ·
     refine any_fork [0, 5] (by kernel_rfl) (by simp) (each_cons _ rfl ?_ (each_cons _ rfl ?_ (each_nil)))
     ·
      refine oq 1 [(0, .go (owns 5 0 1))] [3, 4, 21, 24] [(20, .func (.func 58) #[] #[])] ([]) (fun _ => by kernel_rfl) al0 ?_
      refine ops_nil ?_
      refine done_any ?_
      refine any_one 5 _ (by kernel_rfl) rfl ?_
      refine oq 1 [(5, .go (owns 0 0 1))] [3, 4, 20, 21] [(25, .slice (some ⟨g34, 0, none⟩) n cq34)] ([]) (fun _ => by kernel_rfl) al0 ?_
      refine ops_nil ?_
      refine done_any ?_
      exact any_weak hm [3, 4, 20, 21, 25] (by kernel_rfl) rfl rfl rfl
     ·
      refine oq 1 [(5, .go (owns 0 0 1))] [2, 3, 4, 21] [(25, .slice (some ⟨g34, 0, none⟩) n cq34)] ([]) (fun _ => by kernel_rfl) al0 ?_
      refine ops_nil ?_
      refine done_any ?_
      refine any_one 0 _ (by kernel_rfl) rfl ?_
      refine oq 1 [(0, .go (owns 5 0 1))] [3, 4, 21, 25] [(20, .func (.func 58) #[] #[])] ([]) (fun _ => by kernel_rfl) al0 ?_
      refine ops_nil ?_
      refine done_any ?_
      exact any_weak hm [3, 4, 20, 21, 25] (by kernel_rfl) rfl rfl rfl
    refine any_one 6 _ (by kernel_rfl) rfl ?_
    refine ops_inline (g := 58) (args := #[.pointer (some ⟨g34, 0 + (posB l k) * 5, none⟩), .slice (some ⟨g34, 0, none⟩) n cq34]) (by kernel_rfl) (by kernel_rfl) (by kernel_rfl) (fun args w => Try.call58 args w) Try.func58 rfl Try.ntmps58 rfl ?_
    refine at_seq ?_
    refine aq [] [0, 1] [] ([]) (fun _ => by kernel_rfl) al0 ?_
    refine done_seq ?_
    refine at_seq ?_
    refine at_seq ?_
    by_cases q110 : (y70.peer : Int) = (0 : Int)
    ·
     refine aq [(3, .go (ownps 10 (0 + (posB l k) * 5 + 2) [.int .i64 y70.peer])), (4, .yes)] [0, 1] [(11, .bool true)] (acellsP cs34 (0 + (posB l k) * 5 + 2) [.int .i64 y70.peer] ++ ([(y70.peer : Int) = (0 : Int)])) (fun _ => by kernel_rfl) (alA (rda_part ((hOw34.rdx hnq34 hy70)) 2 _ rfl) (al1 q110)) ?_
     refine done_seq ?_
     refine at_true (by kernel_rfl) ?_
     refine at_seq ?_
     refine aq [] [] [(4, .pointer none), (5, .int .i64 261)] ([]) (fun _ => by kernel_rfl) al0 ?_
     refine done_seq ?_
     refine at_back ([]) (.tuple #[.pointer none, .int .i64 261]) [] (by kernel_rfl) (by kernel_rfl) al0 ?_
     refine ops_nil ?_
     refine done_any ?_
     refine any_tk (f := 0) [7, 8, 9, 10, 11] [] [3, 4] [(8, .pointer none), (9, .int .i64 261)] ([]) #[true, true, true, true, true, true, true, true, true, true, true, true] (by kernel_rfl) (by kernel_rfl) al0 ?_
     refine any_nil (by kernel_rfl) ?_
     refine done_seq ?_
     refine at_seq ?_
     refine at_seq ?_
     refine aq [] [3, 4, 8, 9] [(30, .bool true)] ([]) (fun _ => by kernel_rfl) al0 ?_
     refine done_seq ?_
     refine at_true (by kernel_rfl) ?_
     refine at_seq ?_
     refine aq [] [] [(6, .int .i64 261)] ([]) (fun _ => by kernel_rfl) al0 ?_
     refine done_seq ?_
     refine at_back ([]) (.int .i64 261) [] (by kernel_rfl) (by kernel_rfl) al0 ?_
     refine oq 1 [] [4, 7] [(8, .int .i64 261)] ([]) (fun _ => by kernel_rfl) al0 ?_
     refine ops_nil ?_
     refine done_seq ?_
     refine at_seq ?_
     refine aq [] [4, 7, 8] [(22, .bool true)] ([]) (fun _ => by kernel_rfl) al0 ?_
     refine done_seq ?_
     refine at_true (by kernel_rfl) ?_
     refine at_seq ?_
     refine aq [(2, .go (owns 1 0 1))] [4] [(5, .int .i64 261)] ([]) (fun _ => by kernel_rfl) al0 ?_
     refine done_seq ?_
     refine at_back (owns 1 0 1) (.tuple #[.agg #[.slice none 0 0], .int .i64 261]) [] (by kernel_rfl) (by kernel_rfl) al0 ?_
     refine om 6 [(7, .go (owns 0 0 1))] [6, 9] (fun γ119 => [(10, .pointer (some ⟨γ119 0, 0, none⟩)), (11, .int .i64 261)]) (fun γ119 L => bx (γ119 0) (#[.slice none 0 0]) 24 :: L) (fun γ119 => []) (fun _ => by kernel_rfl) (fun γ119 => al0) (fun γ119 => ?_)
     refine ops_nil ?_
     refine done_seq ?_
     refine at_seq ?_
     refine at_any (by kernel_rfl) ?_
     refine any_tk (f := 5) [2] [] [6, 9, 10] [(20, .int .i64 261)] ([]) #[false, false, true, false, false, false] (by kernel_rfl) (by kernel_rfl) al0 ?_
     refine any_cut 0 #[true, true, true, true, true, true] ([(6, .pointer (some ⟨γ3 3, 0, none⟩)), (7, .int .i64 0), (8, .int .i64 261)]) ([bx (γ119 0) (#[.slice none 0 0]) 24, bx (γ66 0) (#[.slice (some ⟨g34, 0, none⟩) n cq34]) 24, bx (γ6 1) (#[.slice none 0 0]) 24, bx (γ6 0) (#[.slice p n cap]) 24, bx (γ4 0) (#[.int .i64 0]) 3, bx (γ3 3) (#[.slice none 0 0]) 24, bx (γ3 2) (#[.func (.func 58) #[] #[]]) 75, bx (γ3 1) (#[.int .i64 k]) 3, bx (γ3 0) (#[.slice p n cap]) 24, bx (γ1 1) (#[.slice none 0 0]) 24, bx (γ1 0) (#[.slice p n cap]) 24, bx g34 cs34 40]) ?_ (fun hm => ?_)
     rotate_left
     ·
      refine any_fork [0, 1] (by kernel_rfl) (by simp) (each_cons _ rfl ?_ (each_cons _ rfl ?_ (each_nil)))
      ·
       refine oq 1 [(0, .go (owns 0 0 1))] [6, 9, 20] [(18, .agg #[.slice none 0 0])] ([]) (fun _ => by kernel_rfl) al0 ?_
       refine ops_nil ?_
       refine done_any ?_
       refine any_fork [1, 3] (by kernel_rfl) (by simp) (each_cons _ rfl ?_ (each_cons _ rfl ?_ (each_nil)))
       ·
        refine oq 1 [(1, .go (owns 4 0 1))] [6, 18, 20] [(19, .int .i64 0)] ([]) (fun _ => by kernel_rfl) al0 ?_
        refine ops_nil ?_
        refine done_any ?_
        refine any_one 3 _ (by kernel_rfl) rfl ?_
        refine oq 1 [(3, .go (owns 5 0 1))] [6, 19, 20] [] ([]) (fun _ => by kernel_rfl) al0 ?_
        refine ops_nil ?_
        refine done_any ?_
        refine any_tk (f := 0) [4, 5] [] [6] [(7, .int .i64 0), (8, .int .i64 261)] ([]) #[true, true, true, true, true, true] (by kernel_rfl) (by kernel_rfl) al0 ?_
        exact any_weak hm [6, 7, 8] (by kernel_rfl) rfl rfl rfl
       ·
        refine oq 1 [(3, .go (owns 5 0 1))] [6, 9, 20] [] ([]) (fun _ => by kernel_rfl) al0 ?_
        refine ops_nil ?_
        refine done_any ?_
        refine any_one 1 _ (by kernel_rfl) rfl ?_
        refine oq 1 [(1, .go (owns 4 0 1))] [6, 20] [(19, .int .i64 0)] ([]) (fun _ => by kernel_rfl) al0 ?_
        refine ops_nil ?_
        refine done_any ?_
        refine any_tk (f := 0) [4, 5] [] [6] [(7, .int .i64 0), (8, .int .i64 261)] ([]) #[true, true, true, true, true, true] (by kernel_rfl) (by kernel_rfl) al0 ?_
        exact any_weak hm [6, 7, 8] (by kernel_rfl) rfl rfl rfl
      ·
       refine oq 1 [(1, .go (owns 4 0 1))] [6, 10, 20] [(19, .int .i64 0)] ([]) (fun _ => by kernel_rfl) al0 ?_
       refine ops_nil ?_
       refine done_any ?_
       refine any_one 0 _ (by kernel_rfl) rfl ?_
       refine oq 1 [(0, .go (owns 0 0 1))] [6, 19, 20] [(18, .agg #[.slice none 0 0])] ([]) (fun _ => by kernel_rfl) al0 ?_
       refine ops_nil ?_
       refine done_any ?_
       refine any_one 3 _ (by kernel_rfl) rfl ?_
       refine oq 1 [(3, .go (owns 5 0 1))] [6, 19, 20] [] ([]) (fun _ => by kernel_rfl) al0 ?_
       refine ops_nil ?_
       refine done_any ?_
       refine any_tk (f := 0) [4, 5] [] [6] [(7, .int .i64 0), (8, .int .i64 261)] ([]) #[true, true, true, true, true, true] (by kernel_rfl) (by kernel_rfl) al0 ?_
       exact any_weak hm [6, 7, 8] (by kernel_rfl) rfl rfl rfl
     refine any_nil (by kernel_rfl) ?_
     refine done_seq ?_
     refine at_back (owns 5 0 1) (.tuple #[.agg #[.slice none 0 0], .int .i64 0, .int .i64 261]) [] (by kernel_rfl) (by kernel_rfl) al0 ?_
     refine oq 6 [(6, .go (owns 9 0 1))] [4] [(5, .int .i64 0), (6, .int .i64 261)] ([]) (fun _ => by kernel_rfl) al0 ?_
     refine ops_nil ?_
     refine done_seq ?_
     refine at_return (owns 9 0 1) (.tuple #[.agg #[.slice none 0 0], .int .i64 0, .int .i64 261]) [] (by kernel_rfl) (by kernel_rfl) al0 ?_
     exact fun w' hw => by rw [sendV_alone q8 hg70 q110]; exact ⟨none, 0, 0, [], rfl, SlO.nil, hw.below, hw.sub (List.nil_sublist _)⟩
    ·
     refine aq [(3, .go (ownps 10 (0 + (posB l k) * 5 + 2) [.int .i64 y70.peer])), (4, .no)] [0, 1] [(11, .bool false)] (acellsP cs34 (0 + (posB l k) * 5 + 2) [.int .i64 y70.peer] ++ ([¬ ((y70.peer : Int) = (0 : Int))])) (fun _ => by kernel_rfl) (alA (rda_part ((hOw34.rdx hnq34 hy70)) 2 _ rfl) (al1 q110)) ?_
     refine done_seq ?_
     refine at_false (by kernel_rfl) ?_
     refine at_skip ?_
     refine done_seq ?_
     refine at_seq ?_
     refine at_ops ?_
     refine oq 5 [(4, .go (ownps 10 (0 + (posB l k) * 5 + 2) [.int .i64 y70.peer]))] [] [(12, .slice (some ⟨g34, 0, none⟩) n cq34), (16, .int .i64 y70.peer)] (acellsP cs34 (0 + (posB l k) * 5 + 2) [.int .i64 y70.peer]) (fun _ => by kernel_rfl) (rda_part ((hOw34.rdx hnq34 hy70)) 2 _ rfl) ?_
     obtain ⟨y140, hg140, hpr140, hpn140⟩ := right_peer q8 hg70 q110
     ·
      have hy140 := (get_pos (ris_asc l 0 (right_ris q8)) hg140).1
      refine ops_callD (.pointer (some ⟨g34, 0 + (posB l y70.peer) * 5, none⟩)) (by kernel_rfl) (by kernel_rfl) (by kernel_rfl) (fun args w => Try.call32 args w) (fun w hw => by have := port_d (some ⟨g34, 0, none⟩) n cq34 l y70.peer w (hO34.atN (A := [_, _, _, _, _, _, _, _, _, _]) hw) hnq34 (by omega) (ris_all (right_ris q8)) (ris_asc l 0 (right_ris q8)); rw [portV_some hg140] at this; exact this) ?_
      refine oq 1 [] [] [(6, .pointer (some ⟨g34, 0 + (posB l y70.peer) * 5, none⟩))] ([]) (fun _ => by kernel_rfl) al0 ?_
      refine ops_nil ?_
      refine done_seq ?_
      refine at_seq ?_
      refine am [(3, .go (ownps 10 (0 + (posB l y70.peer) * 5 + 3) [undef]))] [6] (fun _ => []) (fun _ L => (L.set 10 (bx g34 ((cs34).setIfInBounds (0 + (posB l y70.peer) * 5 + 3) (.bool true)) 40))) (fun _ => [0 + (posB l y70.peer) * 5 + 3 < (cs34).size]) (fun _ => by kernel_rfl) (fun _ => (al1 (hOw34.room hnq34 hy140 (f := 3) (by decide)))) (fun _ => ?_)
      refine done_seq ?_
      refine at_seq ?_
      refine aq [] [] [(4, .pointer (some ⟨g34, 0 + (posB l y70.peer) * 5, none⟩)), (5, .int .i64 0)] ([]) (fun _ => by kernel_rfl) al0 ?_
      refine done_seq ?_
      refine at_back ([]) (.tuple #[.pointer (some ⟨g34, 0 + (posB l y70.peer) * 5, none⟩), .int .i64 0]) [] (by kernel_rfl) (by kernel_rfl) al0 ?_
      refine ops_nil ?_
      refine done_any ?_
      refine any_tk (f := 0) [7, 8, 9, 10, 11] [] [3, 4] [(8, .pointer (some ⟨g34, 0 + (posB l y70.peer) * 5, none⟩)), (9, .int .i64 0)] ([]) #[true, true, true, true, true, true, true, true, true, true, true, true] (by kernel_rfl) (by kernel_rfl) al0 ?_
      refine any_nil (by kernel_rfl) ?_
      refine done_seq ?_
      refine at_seq ?_
      refine at_seq ?_
      refine aq [] [3, 4, 8, 9] [(30, .bool false)] ([]) (fun _ => by kernel_rfl) al0 ?_
      refine done_seq ?_
      refine at_false (by kernel_rfl) ?_
      refine at_skip ?_
      refine done_seq ?_
      refine at_seq ?_
      refine at_calm rfl (by kernel_rfl) (by kernel_rfl) ?_
      refine cm 6 [(1, .go (owns 7 0 1)), (5, .go (ownps 10 (0 + (posB l y70.peer) * 5) [.int .i64 y140.num]))] [4, 8] [(33, .slice p n cap), (37, .int .i64 y140.num)] (acellsP ((cs34).setIfInBounds (0 + (posB l y70.peer) * 5 + 3) (.bool true)) (0 + (posB l y70.peer) * 5) [.int .i64 y140.num]) (by kernel_rfl) rfl (rda_pre (((hOw34.put (x' := (⟨y140.num, y140.vcpu, y140.peer, true, y140.masked⟩ : Port)) hnq34 hy140 (f := 3) (by decide) rfl).rdx (len_set hnq34) (get_set hy140))) _ rfl) ?_
      skip
      ·
       obtain ⟨b148, o148, rfl⟩ := hsl.pos (i := posB l y140.num) (List.getElem?_eq_some_iff.1 (get_pos (ris_asc l 0 (right_ris q8)) (get_self hg140)).1).1
       refine calm_callD (.pointer (some ⟨b148, o148 + (posB l y140.num) * 5, none⟩)) (by kernel_rfl) (by kernel_rfl) (by kernel_rfl) (fun args w => Try.call32 args w) (fun w hw => by have := port_d (some ⟨b148, o148, none⟩) n cap l y140.num w (hsl.kept hw.below) hn (by omega) (ris_all (right_ris q8)) (ris_asc l 0 (right_ris q8)); rw [portV_some (get_self hg140)] at this; exact this) ?_
       refine cm 1 [] [4, 8] [(10, .pointer (some ⟨b148, o148 + (posB l y140.num) * 5, none⟩))] ([]) (by kernel_rfl) rfl al0 ?_
       refine calm_nil' ?_
       refine done_seq ?_
       refine at_seq ?_
       refine at_seq ?_
       refine at_calm rfl (by kernel_rfl) (by kernel_rfl) ?_
       refine cm 3 [(2, .go (ownps 10 (0 + (posB l y70.peer) * 5) [.int .i64 y140.num, .int .i64 y140.vcpu, .int .i64 y140.peer, .bool true, .bool y140.masked]))] [4, 8, 10] [(41, .agg #[.int .i64 y140.num, .int .i64 y140.vcpu, .int .i64 y140.peer, .bool true, .bool y140.masked])] (acellsP ((cs34).setIfInBounds (0 + (posB l y70.peer) * 5 + 3) (.bool true)) (0 + (posB l y70.peer) * 5) [.int .i64 y140.num, .int .i64 y140.vcpu, .int .i64 y140.peer, .bool true, .bool y140.masked]) (by kernel_rfl) rfl (rda_pre (((hOw34.put (x' := (⟨y140.num, y140.vcpu, y140.peer, true, y140.masked⟩ : Port)) hnq34 hy140 (f := 3) (by decide) rfl).rdx (len_set hnq34) (get_set hy140))) _ rfl) ?_
       rcases q151 : (true && !y140.masked) with _ | _
       ·
        refine calm_callD (.bool false) (by kernel_rfl) (by kernel_rfl) (by kernel_rfl) (fun args w => Try.call39 args w) (fun w hw => by have := due_d (⟨y140.num, y140.vcpu, y140.peer, true, y140.masked⟩ : Port) w; rw [show dueB (⟨y140.num, y140.vcpu, y140.peer, true, y140.masked⟩ : Port) = false from q151] at this; exact this) ?_
        refine cm 18 [] [4, 8] [(60, .bool false)] ([]) (by kernel_rfl) rfl al0 ?_
        refine calm_nil' ?_
        refine done_seq ?_
        refine at_false (by kernel_rfl) ?_
        refine at_skip ?_
        refine done_seq ?_
        refine at_seq ?_
        refine aq [] [] [(6, .int .i64 0)] ([]) (fun _ => by kernel_rfl) al0 ?_
        refine done_seq ?_
        refine at_back ([]) (.int .i64 0) [] (by kernel_rfl) (by kernel_rfl) al0 ?_
        refine oq 1 [] [4, 7] [(8, .int .i64 0)] ([]) (fun _ => by kernel_rfl) al0 ?_
        refine ops_nil ?_
        refine done_seq ?_
        refine at_seq ?_
        refine aq [] [4, 7, 8] [(22, .bool false)] ([]) (fun _ => by kernel_rfl) al0 ?_
        refine done_seq ?_
        refine at_false (by kernel_rfl) ?_
        refine at_skip ?_
        refine done_seq ?_
        refine at_seq ?_
        refine am [(0, .go (owns 0 0 1)), (1, .go (owns 1 0 1))] [4] (fun _ => [(5, .int .i64 0)]) (fun _ L => (L.set 1 (bx (γ6 1) (#[.slice (some ⟨g34, 0, none⟩) n cq34]) 24))) (fun _ => []) (fun _ => by kernel_rfl) (fun _ => al0) (fun _ => ?_)
        refine done_seq ?_
        refine at_back (owns 1 0 1) (.tuple #[.agg #[.slice (some ⟨g34, 0, none⟩) n cq34], .int .i64 0]) [] (by kernel_rfl) (by kernel_rfl) al0 ?_
        refine om 6 [(7, .go (owns 0 0 1))] [6, 9] (fun γ157 => [(10, .pointer (some ⟨γ157 0, 0, none⟩)), (11, .int .i64 0)]) (fun γ157 L => bx (γ157 0) (#[.slice (some ⟨g34, 0, none⟩) n cq34]) 24 :: L) (fun γ157 => []) (fun _ => by kernel_rfl) (fun γ157 => al0) (fun γ157 => ?_)
        refine ops_nil ?_
        refine done_seq ?_
        refine at_seq ?_
        refine at_any (by kernel_rfl) ?_
        refine any_tk (f := 5) [2] [] [6, 9, 10] [(20, .int .i64 0)] ([]) #[false, false, true, false, false, false] (by kernel_rfl) (by kernel_rfl) al0 ?_
        refine any_cut 0 #[true, true, true, true, true, true] ([(6, .pointer (some ⟨γ3 3, 0, none⟩)), (7, .int .i64 0), (8, .int .i64 0)]) ([bx (γ157 0) (#[.slice (some ⟨g34, 0, none⟩) n cq34]) 24, bx (γ66 0) (#[.slice (some ⟨g34, 0, none⟩) n cq34]) 24, bx (γ6 1) (#[.slice (some ⟨g34, 0, none⟩) n cq34]) 24, bx (γ6 0) (#[.slice (some ⟨b148, o148, none⟩) n cap]) 24, bx (γ4 0) (#[.int .i64 0]) 3, bx (γ3 3) (#[.slice (some ⟨g34, 0, none⟩) n cq34]) 24, bx (γ3 2) (#[.func (.func 58) #[] #[]]) 75, bx (γ3 1) (#[.int .i64 k]) 3, bx (γ3 0) (#[.slice (some ⟨b148, o148, none⟩) n cap]) 24, bx (γ1 1) (#[.slice none 0 0]) 24, bx (γ1 0) (#[.slice (some ⟨b148, o148, none⟩) n cap]) 24, bx g34 ((cs34).setIfInBounds (0 + (posB l y70.peer) * 5 + 3) (.bool true)) 40]) ?_ (fun hm => ?_)
        rotate_left
        ·
         refine any_fork [0, 1] (by kernel_rfl) (by simp) (each_cons _ rfl ?_ (each_cons _ rfl ?_ (each_nil)))
         ·
          refine oq 1 [(0, .go (owns 0 0 1))] [6, 9, 20] [(18, .agg #[.slice (some ⟨g34, 0, none⟩) n cq34])] ([]) (fun _ => by kernel_rfl) al0 ?_
          refine ops_nil ?_
          refine done_any ?_
          refine any_fork [1, 3] (by kernel_rfl) (by simp) (each_cons _ rfl ?_ (each_cons _ rfl ?_ (each_nil)))
          ·
           refine oq 1 [(1, .go (owns 4 0 1))] [6, 18, 20] [(19, .int .i64 0)] ([]) (fun _ => by kernel_rfl) al0 ?_
           refine ops_nil ?_
           refine done_any ?_
           refine any_one 3 _ (by kernel_rfl) rfl ?_
           refine om 1 [(3, .go (owns 5 0 1))] [6, 19, 20] (fun _ => []) (fun _ L => (L.set 5 (bx (γ3 3) (#[.slice (some ⟨g34, 0, none⟩) n cq34]) 24))) (fun _ => []) (fun _ => by kernel_rfl) (fun _ => al0) (fun _ => ?_)
           refine ops_nil ?_
           refine done_any ?_
           refine any_tk (f := 0) [4, 5] [] [6] [(7, .int .i64 0), (8, .int .i64 0)] ([]) #[true, true, true, true, true, true] (by kernel_rfl) (by kernel_rfl) al0 ?_
           exact any_weak hm [6, 7, 8] (by kernel_rfl) rfl rfl rfl
          ·
           refine om 1 [(3, .go (owns 5 0 1))] [6, 9, 20] (fun _ => []) (fun _ L => (L.set 5 (bx (γ3 3) (#[.slice (some ⟨g34, 0, none⟩) n cq34]) 24))) (fun _ => []) (fun _ => by kernel_rfl) (fun _ => al0) (fun _ => ?_)
           refine ops_nil ?_
           refine done_any ?_
           refine any_one 1 _ (by kernel_rfl) rfl ?_
           refine oq 1 [(1, .go (owns 4 0 1))] [6, 20] [(19, .int .i64 0)] ([]) (fun _ => by kernel_rfl) al0 ?_
           refine ops_nil ?_
           refine done_any ?_
           refine any_tk (f := 0) [4, 5] [] [6] [(7, .int .i64 0), (8, .int .i64 0)] ([]) #[true, true, true, true, true, true] (by kernel_rfl) (by kernel_rfl) al0 ?_
           exact any_weak hm [6, 7, 8] (by kernel_rfl) rfl rfl rfl
         ·
          refine oq 1 [(1, .go (owns 4 0 1))] [6, 10, 20] [(19, .int .i64 0)] ([]) (fun _ => by kernel_rfl) al0 ?_
          refine ops_nil ?_
          refine done_any ?_
          refine any_one 0 _ (by kernel_rfl) rfl ?_
          refine oq 1 [(0, .go (owns 0 0 1))] [6, 19, 20] [(18, .agg #[.slice (some ⟨g34, 0, none⟩) n cq34])] ([]) (fun _ => by kernel_rfl) al0 ?_
          refine ops_nil ?_
          refine done_any ?_
          refine any_one 3 _ (by kernel_rfl) rfl ?_
          refine om 1 [(3, .go (owns 5 0 1))] [6, 19, 20] (fun _ => []) (fun _ L => (L.set 5 (bx (γ3 3) (#[.slice (some ⟨g34, 0, none⟩) n cq34]) 24))) (fun _ => []) (fun _ => by kernel_rfl) (fun _ => al0) (fun _ => ?_)
          refine ops_nil ?_
          refine done_any ?_
          refine any_tk (f := 0) [4, 5] [] [6] [(7, .int .i64 0), (8, .int .i64 0)] ([]) #[true, true, true, true, true, true] (by kernel_rfl) (by kernel_rfl) al0 ?_
          exact any_weak hm [6, 7, 8] (by kernel_rfl) rfl rfl rfl
        refine any_nil (by kernel_rfl) ?_
        refine done_seq ?_
        refine at_back (owns 5 0 1) (.tuple #[.agg #[.slice (some ⟨g34, 0, none⟩) n cq34], .int .i64 0, .int .i64 0]) [] (by kernel_rfl) (by kernel_rfl) al0 ?_
        refine om 6 [(6, .go (owns 9 0 1))] [4] (fun _ => [(5, .int .i64 0), (6, .int .i64 0)]) (fun _ L => (L.set 9 (bx (γ1 1) (#[.slice (some ⟨g34, 0, none⟩) n cq34]) 24))) (fun _ => []) (fun _ => by kernel_rfl) (fun _ => al0) (fun _ => ?_)
        refine ops_nil ?_
        refine done_seq ?_
        refine at_return (owns 9 0 1) (.tuple #[.agg #[.slice (some ⟨g34, 0, none⟩) n cq34], .int .i64 0, .int .i64 0]) [] (by kernel_rfl) (by kernel_rfl) al0 ?_
        exact fun w' hw => by rw [sendV_ok q8 hg70 q110 hg140, turnP_no (y := y140) (z := (⟨y140.num, y140.vcpu, y140.peer, true, y140.masked⟩ : Port)) (fun ⟨a, _⟩ => absurd (a.symm.trans q151) (by decide)), pos_of hg140]; exact ⟨_, _, _, _, rfl, (SlO.ofOwn (hOw34.put (x' := (⟨y140.num, y140.vcpu, y140.peer, true, y140.masked⟩ : Port)) hnq34 hy140 (f := 3) (by decide) rfl) (len_set hnq34)), hw.below, hw.tailN 11⟩
       ·
        refine calm_callD (.bool true) (by kernel_rfl) (by kernel_rfl) (by kernel_rfl) (fun args w => Try.call39 args w) (fun w hw => by have := due_d (⟨y140.num, y140.vcpu, y140.peer, true, y140.masked⟩ : Port) w; rw [show dueB (⟨y140.num, y140.vcpu, y140.peer, true, y140.masked⟩ : Port) = true from q151] at this; exact this) ?_
        refine cm 4 [(7, .go (outs b148 (o148 + (posB l y140.num) * 5) [.int .i64 y140.num, .int .i64 y140.vcpu, .int .i64 y140.peer, .bool y140.pending, .bool y140.masked]))] [4, 8, 10] [(43, .bool true), (46, .agg #[.int .i64 y140.num, .int .i64 y140.vcpu, .int .i64 y140.peer, .bool y140.pending, .bool y140.masked])] (cellsP w b148 (o148 + (posB l y140.num) * 5) [.int .i64 y140.num, .int .i64 y140.vcpu, .int .i64 y140.peer, .bool y140.pending, .bool y140.masked]) (by kernel_rfl) rfl (rd_pre (hsl.get (get_pos (ris_asc l 0 (right_ris q8)) (get_self hg140)).1) _ rfl) ?_
        rcases q177 : (y140.pending && !y140.masked) with _ | _
        ·
         refine calm_callD (.bool false) (by kernel_rfl) (by kernel_rfl) (by kernel_rfl) (fun args w => Try.call39 args w) (fun w hw => by have := due_d (⟨y140.num, y140.vcpu, y140.peer, y140.pending, y140.masked⟩ : Port) w; rw [show dueB (⟨y140.num, y140.vcpu, y140.peer, y140.pending, y140.masked⟩ : Port) = false from q177] at this; exact this) ?_
         refine cm 13 [] [4, 8] [(60, .bool true)] ([]) (by kernel_rfl) rfl al0 ?_
         refine calm_nil' ?_
         refine done_seq ?_
         refine at_true (by kernel_rfl) ?_
         refine am [(3, .go (ownps 10 (0 + (posB l y70.peer) * 5 + 1) [.int .i64 y140.vcpu])), (4, .go (owns 3 0 1))] [] (fun _ => []) (fun _ L => (L.set 3 (bx (γ4 0) (#[.int .i64 y140.vcpu]) 3))) (fun _ => acellsP ((cs34).setIfInBounds (0 + (posB l y70.peer) * 5 + 3) (.bool true)) (0 + (posB l y70.peer) * 5 + 1) [.int .i64 y140.vcpu]) (fun _ => by kernel_rfl) (fun _ => (rda_part (((hOw34.put (x' := (⟨y140.num, y140.vcpu, y140.peer, true, y140.masked⟩ : Port)) hnq34 hy140 (f := 3) (by decide) rfl).rdx (len_set hnq34) (get_set hy140))) 1 _ rfl)) (fun _ => ?_)
         refine done_seq ?_
         refine at_seq ?_
         refine aq [] [] [(6, .int .i64 0)] ([]) (fun _ => by kernel_rfl) al0 ?_
         refine done_seq ?_
         refine at_back ([]) (.int .i64 0) [] (by kernel_rfl) (by kernel_rfl) al0 ?_
         refine oq 1 [] [4, 7] [(8, .int .i64 0)] ([]) (fun _ => by kernel_rfl) al0 ?_
         refine ops_nil ?_
         refine done_seq ?_
         refine at_seq ?_
         refine aq [] [4, 7, 8] [(22, .bool false)] ([]) (fun _ => by kernel_rfl) al0 ?_
         refine done_seq ?_
         refine at_false (by kernel_rfl) ?_
         refine at_skip ?_
         refine done_seq ?_
         refine at_seq ?_
         refine am [(0, .go (owns 0 0 1)), (1, .go (owns 1 0 1))] [4] (fun _ => [(5, .int .i64 0)]) (fun _ L => (L.set 1 (bx (γ6 1) (#[.slice (some ⟨g34, 0, none⟩) n cq34]) 24))) (fun _ => []) (fun _ => by kernel_rfl) (fun _ => al0) (fun _ => ?_)
         refine done_seq ?_
         refine at_back (owns 1 0 1) (.tuple #[.agg #[.slice (some ⟨g34, 0, none⟩) n cq34], .int .i64 0]) [] (by kernel_rfl) (by kernel_rfl) al0 ?_
         refine om 6 [(7, .go (owns 0 0 1))] [6, 9] (fun γ184 => [(10, .pointer (some ⟨γ184 0, 0, none⟩)), (11, .int .i64 0)]) (fun γ184 L => bx (γ184 0) (#[.slice (some ⟨g34, 0, none⟩) n cq34]) 24 :: L) (fun γ184 => []) (fun _ => by kernel_rfl) (fun γ184 => al0) (fun γ184 => ?_)
         refine ops_nil ?_
         refine done_seq ?_
         refine at_seq ?_
         refine at_any (by kernel_rfl) ?_
         refine any_tk (f := 5) [2] [] [6, 9, 10] [(20, .int .i64 0)] ([]) #[false, false, true, false, false, false] (by kernel_rfl) (by kernel_rfl) al0 ?_
         refine any_cut 0 #[true, true, true, true, true, true] ([(6, .pointer (some ⟨γ3 3, 0, none⟩)), (7, .int .i64 y140.vcpu), (8, .int .i64 0)]) ([bx (γ184 0) (#[.slice (some ⟨g34, 0, none⟩) n cq34]) 24, bx (γ66 0) (#[.slice (some ⟨g34, 0, none⟩) n cq34]) 24, bx (γ6 1) (#[.slice (some ⟨g34, 0, none⟩) n cq34]) 24, bx (γ6 0) (#[.slice (some ⟨b148, o148, none⟩) n cap]) 24, bx (γ4 0) (#[.int .i64 y140.vcpu]) 3, bx (γ3 3) (#[.slice (some ⟨g34, 0, none⟩) n cq34]) 24, bx (γ3 2) (#[.func (.func 58) #[] #[]]) 75, bx (γ3 1) (#[.int .i64 k]) 3, bx (γ3 0) (#[.slice (some ⟨b148, o148, none⟩) n cap]) 24, bx (γ1 1) (#[.slice none 0 0]) 24, bx (γ1 0) (#[.slice (some ⟨b148, o148, none⟩) n cap]) 24, bx g34 ((cs34).setIfInBounds (0 + (posB l y70.peer) * 5 + 3) (.bool true)) 40]) ?_ (fun hm => ?_)
         rotate_left
         ·
          refine any_fork [0, 1] (by kernel_rfl) (by simp) (each_cons _ rfl ?_ (each_cons _ rfl ?_ (each_nil)))
          ·
           refine oq 1 [(0, .go (owns 0 0 1))] [6, 9, 20] [(18, .agg #[.slice (some ⟨g34, 0, none⟩) n cq34])] ([]) (fun _ => by kernel_rfl) al0 ?_
           refine ops_nil ?_
           refine done_any ?_
           refine any_fork [1, 3] (by kernel_rfl) (by simp) (each_cons _ rfl ?_ (each_cons _ rfl ?_ (each_nil)))
           ·
            refine oq 1 [(1, .go (owns 4 0 1))] [6, 18, 20] [(19, .int .i64 y140.vcpu)] ([]) (fun _ => by kernel_rfl) al0 ?_
            refine ops_nil ?_
            refine done_any ?_
            refine any_one 3 _ (by kernel_rfl) rfl ?_
            refine om 1 [(3, .go (owns 5 0 1))] [6, 19, 20] (fun _ => []) (fun _ L => (L.set 5 (bx (γ3 3) (#[.slice (some ⟨g34, 0, none⟩) n cq34]) 24))) (fun _ => []) (fun _ => by kernel_rfl) (fun _ => al0) (fun _ => ?_)
            refine ops_nil ?_
            refine done_any ?_
            refine any_tk (f := 0) [4, 5] [] [6] [(7, .int .i64 y140.vcpu), (8, .int .i64 0)] ([]) #[true, true, true, true, true, true] (by kernel_rfl) (by kernel_rfl) al0 ?_
            exact any_weak hm [6, 7, 8] (by kernel_rfl) rfl rfl rfl
           ·
            refine om 1 [(3, .go (owns 5 0 1))] [6, 9, 20] (fun _ => []) (fun _ L => (L.set 5 (bx (γ3 3) (#[.slice (some ⟨g34, 0, none⟩) n cq34]) 24))) (fun _ => []) (fun _ => by kernel_rfl) (fun _ => al0) (fun _ => ?_)
            refine ops_nil ?_
            refine done_any ?_
            refine any_one 1 _ (by kernel_rfl) rfl ?_
            refine oq 1 [(1, .go (owns 4 0 1))] [6, 20] [(19, .int .i64 y140.vcpu)] ([]) (fun _ => by kernel_rfl) al0 ?_
            refine ops_nil ?_
            refine done_any ?_
            refine any_tk (f := 0) [4, 5] [] [6] [(7, .int .i64 y140.vcpu), (8, .int .i64 0)] ([]) #[true, true, true, true, true, true] (by kernel_rfl) (by kernel_rfl) al0 ?_
            exact any_weak hm [6, 7, 8] (by kernel_rfl) rfl rfl rfl
          ·
           refine oq 1 [(1, .go (owns 4 0 1))] [6, 10, 20] [(19, .int .i64 y140.vcpu)] ([]) (fun _ => by kernel_rfl) al0 ?_
           refine ops_nil ?_
           refine done_any ?_
           refine any_one 0 _ (by kernel_rfl) rfl ?_
           refine oq 1 [(0, .go (owns 0 0 1))] [6, 19, 20] [(18, .agg #[.slice (some ⟨g34, 0, none⟩) n cq34])] ([]) (fun _ => by kernel_rfl) al0 ?_
           refine ops_nil ?_
           refine done_any ?_
           refine any_one 3 _ (by kernel_rfl) rfl ?_
           refine om 1 [(3, .go (owns 5 0 1))] [6, 19, 20] (fun _ => []) (fun _ L => (L.set 5 (bx (γ3 3) (#[.slice (some ⟨g34, 0, none⟩) n cq34]) 24))) (fun _ => []) (fun _ => by kernel_rfl) (fun _ => al0) (fun _ => ?_)
           refine ops_nil ?_
           refine done_any ?_
           refine any_tk (f := 0) [4, 5] [] [6] [(7, .int .i64 y140.vcpu), (8, .int .i64 0)] ([]) #[true, true, true, true, true, true] (by kernel_rfl) (by kernel_rfl) al0 ?_
           exact any_weak hm [6, 7, 8] (by kernel_rfl) rfl rfl rfl
         refine any_nil (by kernel_rfl) ?_
         refine done_seq ?_
         refine at_back (owns 5 0 1) (.tuple #[.agg #[.slice (some ⟨g34, 0, none⟩) n cq34], .int .i64 y140.vcpu, .int .i64 0]) [] (by kernel_rfl) (by kernel_rfl) al0 ?_
         refine om 6 [(6, .go (owns 9 0 1))] [4] (fun _ => [(5, .int .i64 y140.vcpu), (6, .int .i64 0)]) (fun _ L => (L.set 9 (bx (γ1 1) (#[.slice (some ⟨g34, 0, none⟩) n cq34]) 24))) (fun _ => []) (fun _ => by kernel_rfl) (fun _ => al0) (fun _ => ?_)
         refine ops_nil ?_
         refine done_seq ?_
         refine at_return (owns 9 0 1) (.tuple #[.agg #[.slice (some ⟨g34, 0, none⟩) n cq34], .int .i64 y140.vcpu, .int .i64 0]) [] (by kernel_rfl) (by kernel_rfl) al0 ?_
         exact fun w' hw => by rw [sendV_ok q8 hg70 q110 hg140, turnP_yes (y := y140) (z := (⟨y140.num, y140.vcpu, y140.peer, true, y140.masked⟩ : Port)) q151 (.inl q177), pos_of hg140]; exact ⟨_, _, _, _, rfl, (SlO.ofOwn (hOw34.put (x' := (⟨y140.num, y140.vcpu, y140.peer, true, y140.masked⟩ : Port)) hnq34 hy140 (f := 3) (by decide) rfl) (len_set hnq34)), hw.below, hw.tailN 11⟩
        ·
         refine calm_callD (.bool true) (by kernel_rfl) (by kernel_rfl) (by kernel_rfl) (fun args w => Try.call39 args w) (fun w hw => by have := due_d (⟨y140.num, y140.vcpu, y140.peer, y140.pending, y140.masked⟩ : Port) w; rw [show dueB (⟨y140.num, y140.vcpu, y140.peer, y140.pending, y140.masked⟩ : Port) = true from q177] at this; exact this) ?_
         refine cm 13 [(14, .go (outs b148 (o148 + (posB l y140.num) * 5 + 1) [.int .i64 y140.vcpu])), (18, .go (ownps 10 (0 + (posB l y70.peer) * 5 + 1) [.int .i64 y140.vcpu])), (19, .no)] [4, 8] [(60, .bool false)] (cellsP w b148 (o148 + (posB l y140.num) * 5 + 1) [.int .i64 y140.vcpu] ++ (acellsP ((cs34).setIfInBounds (0 + (posB l y70.peer) * 5 + 3) (.bool true)) (0 + (posB l y70.peer) * 5 + 1) [.int .i64 y140.vcpu] ++ ([¬ ((y140.vcpu : Int) ≠ (y140.vcpu : Int))]))) (by kernel_rfl) rfl (alA (rd_part (hsl.get (get_pos (ris_asc l 0 (right_ris q8)) (get_self hg140)).1) 1 _ rfl) (alA (rda_part (((hOw34.put (x' := (⟨y140.num, y140.vcpu, y140.peer, true, y140.masked⟩ : Port)) hnq34 hy140 (f := 3) (by decide) rfl).rdx (len_set hnq34) (get_set hy140))) 1 _ rfl) (al1 ((fun h => h rfl))))) ?_
         refine calm_nil' ?_
         refine done_seq ?_
         refine at_false (by kernel_rfl) ?_
         refine at_skip ?_
         refine done_seq ?_
         refine at_seq ?_
         refine aq [] [] [(6, .int .i64 0)] ([]) (fun _ => by kernel_rfl) al0 ?_
         refine done_seq ?_
         refine at_back ([]) (.int .i64 0) [] (by kernel_rfl) (by kernel_rfl) al0 ?_
         refine oq 1 [] [4, 7] [(8, .int .i64 0)] ([]) (fun _ => by kernel_rfl) al0 ?_
         refine ops_nil ?_
         refine done_seq ?_
         refine at_seq ?_
         refine aq [] [4, 7, 8] [(22, .bool false)] ([]) (fun _ => by kernel_rfl) al0 ?_
         refine done_seq ?_
         refine at_false (by kernel_rfl) ?_
         refine at_skip ?_
         refine done_seq ?_
         refine at_seq ?_
         refine am [(0, .go (owns 0 0 1)), (1, .go (owns 1 0 1))] [4] (fun _ => [(5, .int .i64 0)]) (fun _ L => (L.set 1 (bx (γ6 1) (#[.slice (some ⟨g34, 0, none⟩) n cq34]) 24))) (fun _ => []) (fun _ => by kernel_rfl) (fun _ => al0) (fun _ => ?_)
         refine done_seq ?_
         refine at_back (owns 1 0 1) (.tuple #[.agg #[.slice (some ⟨g34, 0, none⟩) n cq34], .int .i64 0]) [] (by kernel_rfl) (by kernel_rfl) al0 ?_
         refine om 6 [(7, .go (owns 0 0 1))] [6, 9] (fun γ208 => [(10, .pointer (some ⟨γ208 0, 0, none⟩)), (11, .int .i64 0)]) (fun γ208 L => bx (γ208 0) (#[.slice (some ⟨g34, 0, none⟩) n cq34]) 24 :: L) (fun γ208 => []) (fun _ => by kernel_rfl) (fun γ208 => al0) (fun γ208 => ?_)
         refine ops_nil ?_
         refine done_seq ?_
         refine at_seq ?_
         refine at_any (by kernel_rfl) ?_
         refine any_tk (f := 5) [2] [] [6, 9, 10] [(20, .int .i64 0)] ([]) #[false, false, true, false, false, false] (by kernel_rfl) (by kernel_rfl) al0 ?_
         refine any_cut 0 #[true, true, true, true, true, true] ([(6, .pointer (some ⟨γ3 3, 0, none⟩)), (7, .int .i64 0), (8, .int .i64 0)]) ([bx (γ208 0) (#[.slice (some ⟨g34, 0, none⟩) n cq34]) 24, bx (γ66 0) (#[.slice (some ⟨g34, 0, none⟩) n cq34]) 24, bx (γ6 1) (#[.slice (some ⟨g34, 0, none⟩) n cq34]) 24, bx (γ6 0) (#[.slice (some ⟨b148, o148, none⟩) n cap]) 24, bx (γ4 0) (#[.int .i64 0]) 3, bx (γ3 3) (#[.slice (some ⟨g34, 0, none⟩) n cq34]) 24, bx (γ3 2) (#[.func (.func 58) #[] #[]]) 75, bx (γ3 1) (#[.int .i64 k]) 3, bx (γ3 0) (#[.slice (some ⟨b148, o148, none⟩) n cap]) 24, bx (γ1 1) (#[.slice none 0 0]) 24, bx (γ1 0) (#[.slice (some ⟨b148, o148, none⟩) n cap]) 24, bx g34 ((cs34).setIfInBounds (0 + (posB l y70.peer) * 5 + 3) (.bool true)) 40]) ?_ (fun hm => ?_)
         rotate_left
         ·
          refine any_fork [0, 1] (by kernel_rfl) (by simp) (each_cons _ rfl ?_ (each_cons _ rfl ?_ (each_nil)))
          ·
           refine oq 1 [(0, .go (owns 0 0 1))] [6, 9, 20] [(18, .agg #[.slice (some ⟨g34, 0, none⟩) n cq34])] ([]) (fun _ => by kernel_rfl) al0 ?_
           refine ops_nil ?_
           refine done_any ?_
           refine any_fork [1, 3] (by kernel_rfl) (by simp) (each_cons _ rfl ?_ (each_cons _ rfl ?_ (each_nil)))
           ·
            refine oq 1 [(1, .go (owns 4 0 1))] [6, 18, 20] [(19, .int .i64 0)] ([]) (fun _ => by kernel_rfl) al0 ?_
            refine ops_nil ?_
            refine done_any ?_
            refine any_one 3 _ (by kernel_rfl) rfl ?_
            refine om 1 [(3, .go (owns 5 0 1))] [6, 19, 20] (fun _ => []) (fun _ L => (L.set 5 (bx (γ3 3) (#[.slice (some ⟨g34, 0, none⟩) n cq34]) 24))) (fun _ => []) (fun _ => by kernel_rfl) (fun _ => al0) (fun _ => ?_)
            refine ops_nil ?_
            refine done_any ?_
            refine any_tk (f := 0) [4, 5] [] [6] [(7, .int .i64 0), (8, .int .i64 0)] ([]) #[true, true, true, true, true, true] (by kernel_rfl) (by kernel_rfl) al0 ?_
            exact any_weak hm [6, 7, 8] (by kernel_rfl) rfl rfl rfl
           ·
            refine om 1 [(3, .go (owns 5 0 1))] [6, 9, 20] (fun _ => []) (fun _ L => (L.set 5 (bx (γ3 3) (#[.slice (some ⟨g34, 0, none⟩) n cq34]) 24))) (fun _ => []) (fun _ => by kernel_rfl) (fun _ => al0) (fun _ => ?_)
            refine ops_nil ?_
            refine done_any ?_
            refine any_one 1 _ (by kernel_rfl) rfl ?_
            refine oq 1 [(1, .go (owns 4 0 1))] [6, 20] [(19, .int .i64 0)] ([]) (fun _ => by kernel_rfl) al0 ?_
            refine ops_nil ?_
            refine done_any ?_
            refine any_tk (f := 0) [4, 5] [] [6] [(7, .int .i64 0), (8, .int .i64 0)] ([]) #[true, true, true, true, true, true] (by kernel_rfl) (by kernel_rfl) al0 ?_
            exact any_weak hm [6, 7, 8] (by kernel_rfl) rfl rfl rfl
          ·
           refine oq 1 [(1, .go (owns 4 0 1))] [6, 10, 20] [(19, .int .i64 0)] ([]) (fun _ => by kernel_rfl) al0 ?_
           refine ops_nil ?_
           refine done_any ?_
           refine any_one 0 _ (by kernel_rfl) rfl ?_
           refine oq 1 [(0, .go (owns 0 0 1))] [6, 19, 20] [(18, .agg #[.slice (some ⟨g34, 0, none⟩) n cq34])] ([]) (fun _ => by kernel_rfl) al0 ?_
           refine ops_nil ?_
           refine done_any ?_
           refine any_one 3 _ (by kernel_rfl) rfl ?_
           refine om 1 [(3, .go (owns 5 0 1))] [6, 19, 20] (fun _ => []) (fun _ L => (L.set 5 (bx (γ3 3) (#[.slice (some ⟨g34, 0, none⟩) n cq34]) 24))) (fun _ => []) (fun _ => by kernel_rfl) (fun _ => al0) (fun _ => ?_)
           refine ops_nil ?_
           refine done_any ?_
           refine any_tk (f := 0) [4, 5] [] [6] [(7, .int .i64 0), (8, .int .i64 0)] ([]) #[true, true, true, true, true, true] (by kernel_rfl) (by kernel_rfl) al0 ?_
           exact any_weak hm [6, 7, 8] (by kernel_rfl) rfl rfl rfl
         refine any_nil (by kernel_rfl) ?_
         refine done_seq ?_
         refine at_back (owns 5 0 1) (.tuple #[.agg #[.slice (some ⟨g34, 0, none⟩) n cq34], .int .i64 0, .int .i64 0]) [] (by kernel_rfl) (by kernel_rfl) al0 ?_
         refine om 6 [(6, .go (owns 9 0 1))] [4] (fun _ => [(5, .int .i64 0), (6, .int .i64 0)]) (fun _ L => (L.set 9 (bx (γ1 1) (#[.slice (some ⟨g34, 0, none⟩) n cq34]) 24))) (fun _ => []) (fun _ => by kernel_rfl) (fun _ => al0) (fun _ => ?_)
         refine ops_nil ?_
         refine done_seq ?_
         refine at_return (owns 9 0 1) (.tuple #[.agg #[.slice (some ⟨g34, 0, none⟩) n cq34], .int .i64 0, .int .i64 0]) [] (by kernel_rfl) (by kernel_rfl) al0 ?_
         exact fun w' hw => by rw [sendV_ok q8 hg70 q110 hg140, turnP_no (y := y140) (z := (⟨y140.num, y140.vcpu, y140.peer, true, y140.masked⟩ : Port)) (fun ⟨_, b⟩ => b.elim (fun e => absurd (e.symm.trans q177) (by decide)) (fun e => e rfl)), pos_of hg140]; exact ⟨_, _, _, _, rfl, (SlO.ofOwn (hOw34.put (x' := (⟨y140.num, y140.vcpu, y140.peer, true, y140.masked⟩ : Port)) hnq34 hy140 (f := 3) (by decide) rfl) (len_set hnq34)), hw.below, hw.tailN 11⟩
end Go.Proofs.Ytfhlmijdokfdpaa

/-! event.Due. -/
namespace Go.Proofs.Ytfhlmijdokfdpaa
open Go Go.RowKit

set_option maxRecDepth 100000 in
theorem edue_d (p : Option Addr) (n cap : Nat) (l : List Port) (own : Int) (w : World)
 (hsl : Sv w p l) (hn : n = l.length) (hb : n ≤ 1000)
 : Calls Try.prog 22 #[.agg #[.slice p n cap], .int .i64 own] w fun e w' => ∃ q m capq Y, e = .returned (.slice q m capq) ∧ SlO 3 Y q m capq (edueV l own) ∧ Below w.heap.size w w' ∧ Hs w Y w' := by
 refine enter (Hs.start w) Try.func22 rfl Try.ntmps22 rfl ?_
 refine at_seq ?_
 refine am [] [] (fun γ1 => [(2, .pointer (some ⟨γ1 0, 0, none⟩)), (3, .pointer (some ⟨γ1 1, 0, none⟩))]) (fun γ1 L => bx (γ1 1) (#[.int .i64 own]) 3 :: bx (γ1 0) (#[.slice p n cap]) 24 :: L) (fun γ1 => []) (fun _ => by kernel_rfl) (fun γ1 => al0) (fun γ1 => ?_)
 refine done_seq ?_
 refine at_seq ?_
 refine at_seq ?_
 refine at_ops ?_
 refine oq 1 [(0, .go (owns 1 0 1))] [2, 3] [(5, .agg #[.slice p n cap])] ([]) (fun _ => by kernel_rfl) al0 ?_
 rcases q3 : rightB l with _ | _
 ·
  refine ops_callD (.int .i64 260) (by kernel_rfl) (by kernel_rfl) (by kernel_rfl) (fun args w => Try.call16 args w) (fun w hw => by have := check_d p n cap l w (hsl.kept hw.below) hn hb; rw [q3] at this; exact this) ?_
  refine oq 1 [] [2, 3] [(7, .bool true)] ([]) (fun _ => by kernel_rfl) al0 ?_
  refine ops_nil ?_
  refine done_seq ?_
  refine at_true (by kernel_rfl) ?_
  refine at_seq ?_
  refine aq [] [] [(4, .slice none 0 0)] ([]) (fun _ => by kernel_rfl) al0 ?_
  refine done_seq ?_
  refine at_return ([]) (.slice none 0 0) [] (by kernel_rfl) (by kernel_rfl) al0 ?_
  exact fun w' hw => by rw [edueV_bad q3]; exact ⟨none, 0, 0, [], rfl, SlO.nil, hw.below, hw.sub (List.nil_sublist _)⟩
 ·
  refine ops_callD (.int .i64 0) (by kernel_rfl) (by kernel_rfl) (by kernel_rfl) (fun args w => Try.call16 args w) (fun w hw => by have := check_d p n cap l w (hsl.kept hw.below) hn hb; rw [q3] at this; exact this) ?_
  refine oq 1 [] [2, 3] [(7, .bool false)] ([]) (fun _ => by kernel_rfl) al0 ?_
  refine ops_nil ?_
  refine done_seq ?_
  refine at_false (by kernel_rfl) ?_
  refine at_skip ?_
  refine done_seq ?_
  refine at_seq ?_
  refine at_ops ?_
  refine oq 2 [(0, .go (owns 1 0 1))] [] [(8, .agg #[.slice p n cap]), (9, .func (.func 38) #[] #[.pointer (some ⟨γ1 1, 0, none⟩)])] ([]) (fun _ => by kernel_rfl) al0 ?_
  refine ops_inline (g := 37) (args := #[.agg #[.slice p n cap], .func (.func 38) #[] #[.pointer (some ⟨γ1 1, 0, none⟩)]]) (by kernel_rfl) (by kernel_rfl) (by kernel_rfl) (fun args w => Try.call37 args w) Try.func37 rfl Try.ntmps37 rfl ?_
  refine at_seq ?_
  refine am [] [] (fun γ8 => [(2, .pointer (some ⟨γ8 0, 0, none⟩)), (3, .pointer (some ⟨γ8 1, 0, none⟩))]) (fun γ8 L => bx (γ8 1) (#[.func (.func 38) #[] #[.pointer (some ⟨γ1 1, 0, none⟩)]]) 73 :: bx (γ8 0) (#[.slice p n cap]) 24 :: L) (fun γ8 => []) (fun _ => by kernel_rfl) (fun γ8 => al0) (fun γ8 => ?_)
  refine done_seq ?_
  refine at_seq ?_
  refine aq [] [] [(4, .func (.func 60) #[] #[.pointer (some ⟨γ8 0, 0, none⟩), .pointer (some ⟨γ8 1, 0, none⟩)])] ([]) (fun _ => by kernel_rfl) al0 ?_
  refine done_seq ?_
  refine at_back ([]) (.func (.func 60) #[] #[.pointer (some ⟨γ8 0, 0, none⟩), .pointer (some ⟨γ8 1, 0, none⟩)]) [] (by kernel_rfl) (by kernel_rfl) al0 ?_
  refine ops_inlineM (g := 36) (args := #[.func (.func 60) #[] #[.pointer (some ⟨γ8 0, 0, none⟩), .pointer (some ⟨γ8 1, 0, none⟩)]]) (by kernel_rfl) (by kernel_rfl) (by kernel_rfl) (fun args w => Try.call36 args w) Try.func36 rfl Try.ntmps36 rfl ?_
  refine at_seq ?_
  refine aq [] [0] [] ([]) (fun _ => by kernel_rfl) al0 ?_
  refine done_seq ?_
  refine at_seq ?_
  refine am [] [0] (fun γ12 => [(3, .pointer (some ⟨γ12 0, 0, none⟩))]) (fun γ12 L => bx (γ12 0) (#[.slice none 0 0]) 28 :: L) (fun γ12 => []) (fun _ => by kernel_rfl) (fun γ12 => al0) (fun γ12 => ?_)
  refine done_seq ?_
  refine at_seq ?_
  refine at_seq ?_
  refine aq [] [3] [(5, .func (.func 60) #[] #[.pointer (some ⟨γ8 0, 0, none⟩), .pointer (some ⟨γ8 1, 0, none⟩)])] ([]) (fun _ => by kernel_rfl) al0 ?_
  refine done_seq ?_
  refine at_block ?_
  refine at_range (gf := 60) (lb := #[.pointer (some ⟨γ8 0, 0, none⟩), .pointer (some ⟨γ8 1, 0, none⟩)]) (by kernel_rfl) (fun args w => Try.call60 args w) Try.func60 rfl Try.ntmps60 (by kernel_rfl) (fun γ14 r14 hr14 => ?_)
  refine at_seq ?_
  refine aq [(1, .go (owns 4 0 1))] [0, 2] [(7, .slice p n cap), (8, .int .i64 ((n : Nat))), (9, .int .i64 0)] ([]) (fun _ => by kernel_rfl) al0 ?_
  refine done_seq ?_
  refine at_block ?_
  refine at_loop (α := Nat × List Ob × Option Addr × Nat × Nat) [0, 2, 7, 8, 9] (fun ⟨j, Yo, po, m, co⟩ => [(0, .func (.yield (γ14 1)) #[] #[]), (2, .pointer (some ⟨γ8 1, 0, none⟩)), (7, .slice p n cap), (8, .int .i64 ((n : Nat))), (9, .int .i64 ((j : Nat)))]) (fun ⟨j, Yo, po, m, co⟩ => (γ14 1, .loop r14) :: (γ14 0, .deferred (some [])) :: bx (γ12 0) (#[.slice po m co]) 28 :: bx (γ8 1) (#[.func (.func 38) #[] #[.pointer (some ⟨γ1 1, 0, none⟩)]]) 73 :: bx (γ8 0) (#[.slice p n cap]) 24 :: bx (γ1 1) (#[.int .i64 own]) 3 :: bx (γ1 0) (#[.slice p n cap]) 24 :: (Yo ++ [])) (fun ⟨j, Yo, po, m, co⟩ => j ≤ n ∧ m ≤ j ∧ SlO 3 Yo po m co (suchL (isDue own) (l.take j))) (fun ⟨j, Yo, po, m, co⟩ => n - j) (0, [], none, 0, 0) (by kernel_rfl) rfl ⟨Nat.zero_le _, Nat.le_refl _, by rw [List.take_zero]; exact SlO.nil⟩ ?_
  rintro ⟨j, Yo, po, m, co⟩
  rintro ⟨hj, hm, hO⟩
  refine at_seq ?_
  by_cases q17 : ((j : Nat) : Int) < ((n : Nat) : Int)
  ·
   refine aq [(0, .yes)] [0, 2, 7, 8, 9] [(10, .bool true)] ([((j : Nat) : Int) < ((n : Nat) : Int)]) (fun _ => by kernel_rfl) (al1 q17) ?_
   refine done_seq ?_
   refine at_seq ?_
   refine at_true (by kernel_rfl) ?_
   refine at_skip ?_
   refine done_seq ?_
   refine at_seq ?_
   refine at_block ?_
   refine at_seq ?_
   obtain ⟨b20, o20, rfl⟩ := hsl.pos (i := j) (by omega)
   obtain ⟨x22, hx22⟩ := get_some (l := l) (m := j) (by omega)
   refine am [(0, .at b20 o20 j), (1, .go (outs b20 (o20 + j * 5) [.int .i64 x22.num, .int .i64 x22.vcpu, .int .i64 x22.peer, .bool x22.pending, .bool x22.masked])), (3, .go (owns 0 0 5))] [0, 2, 7, 8, 9] (fun γ23 => [(5, .pointer (some ⟨γ23 0, 0, none⟩))]) (fun γ23 L => bx (γ23 0) (#[.int .i64 x22.num, .int .i64 x22.vcpu, .int .i64 x22.peer, .bool x22.pending, .bool x22.masked]) 40 :: L) (fun γ23 => [(some ⟨b20, o20, none⟩ : Option Addr) = some ⟨b20, o20, none⟩, ((j : Nat)) = ((j : Nat) : Int), j < n] ++ (cellsP w b20 (o20 + j * 5) [.int .i64 x22.num, .int .i64 x22.vcpu, .int .i64 x22.peer, .bool x22.pending, .bool x22.masked])) (fun _ => by kernel_rfl) (fun γ23 => (alA (al2 rfl (al2 rfl (al1 (by omega)))) (rd_pre (hsl.get hx22) _ rfl))) (fun γ23 => ?_)
   refine done_seq ?_
   refine at_seq ?_
   refine at_ops ?_
   refine oq 2 [(0, .go (owns 4 0 1)), (1, .go (owns 0 0 5))] [0, 2, 5, 7, 8, 9] [(13, .func (.func 38) #[] #[.pointer (some ⟨γ1 1, 0, none⟩)]), (14, .agg #[.int .i64 x22.num, .int .i64 x22.vcpu, .int .i64 x22.peer, .bool x22.pending, .bool x22.masked])] ([]) (fun _ => by kernel_rfl) al0 ?_
   refine ops_inline (g := 38) (args := #[.agg #[.int .i64 x22.num, .int .i64 x22.vcpu, .int .i64 x22.peer, .bool x22.pending, .bool x22.masked], .pointer (some ⟨γ1 1, 0, none⟩)]) (by kernel_rfl) (by kernel_rfl) (by kernel_rfl) (fun args w => Try.call38 args w) Try.func38 rfl Try.ntmps38 rfl ?_
   refine at_seq ?_
   refine am [] [1] (fun γ25 => [(2, .pointer (some ⟨γ25 0, 0, none⟩))]) (fun γ25 L => bx (γ25 0) (#[.int .i64 x22.num, .int .i64 x22.vcpu, .int .i64 x22.peer, .bool x22.pending, .bool x22.masked]) 40 :: L) (fun γ25 => []) (fun _ => by kernel_rfl) (fun γ25 => al0) (fun γ25 => ?_)
   refine done_seq ?_
   refine at_seq ?_
   refine at_ops ?_
   refine oq 1 [(0, .go (owns 0 0 5))] [1, 2] [(4, .agg #[.int .i64 x22.num, .int .i64 x22.vcpu, .int .i64 x22.peer, .bool x22.pending, .bool x22.masked])] ([]) (fun _ => by kernel_rfl) al0 ?_
   rcases q27 : (x22.pending && !x22.masked) with _ | _
   ·
    refine ops_callD (.bool false) (by kernel_rfl) (by kernel_rfl) (by kernel_rfl) (fun args w => Try.call39 args w) (fun w hw => by have := due_d (⟨x22.num, x22.vcpu, x22.peer, x22.pending, x22.masked⟩ : Port) w; rw [show dueB (⟨x22.num, x22.vcpu, x22.peer, x22.pending, x22.masked⟩ : Port) = false from q27] at this; exact this) ?_
    refine oq 7 [] [] [(3, .bool false)] ([]) (fun _ => by kernel_rfl) al0 ?_
    refine ops_nil ?_
    refine done_seq ?_
    refine at_back ([]) (.bool false) [] (by kernel_rfl) (by kernel_rfl) al0 ?_
    refine oq 7 [] [0, 2, 7, 8, 9] [(22, .bool false)] ([]) (fun _ => by kernel_rfl) al0 ?_
    refine ops_nil ?_
    refine done_seq ?_
    refine at_false (by kernel_rfl) ?_
    refine at_skip ?_
    refine done_block ?_
    refine done_seq ?_
    refine aq [(0, .fit)] [0, 2, 7, 8] [(9, .int .i64 ((j + 1 : Nat)))] ([Fit .i64 ((j + 1 : Nat))]) (fun _ => by kernel_rfl) (al1 (fit64 (by omega) (by omega))) ?_
    refine Done.drop (L' := (γ14 1, .loop r14) :: (γ14 0, .deferred (some [])) :: bx (γ12 0) (#[.slice po m co]) 28 :: bx (γ8 1) (#[.func (.func 38) #[] #[.pointer (some ⟨γ1 1, 0, none⟩)]]) 73 :: bx (γ8 0) (#[.slice (some ⟨b20, o20, none⟩) n cap]) 24 :: bx (γ1 1) (#[.int .i64 own]) 3 :: bx (γ1 0) (#[.slice (some ⟨b20, o20, none⟩) n cap]) 24 :: (Yo ++ [])) ?_ (List.Sublist.cons _ (List.Sublist.cons _ (List.Sublist.cons_cons _ (List.Sublist.cons_cons _ (List.Sublist.cons_cons _ (List.Sublist.cons_cons _ (List.Sublist.cons_cons _ (List.Sublist.cons_cons _ (List.Sublist.cons_cons _ (List.Sublist.refl _))))))))))
    exact done_round [0, 2, 7, 8, 9] (j + 1, Yo, po, m, co) (by kernel_rfl) rfl ⟨by omega, by omega, by rw [← such_no hx22 (isDue_no q27)]; exact hO⟩ (by first | omega | (simp only; omega))
   ·
    refine ops_callD (.bool true) (by kernel_rfl) (by kernel_rfl) (by kernel_rfl) (fun args w => Try.call39 args w) (fun w hw => by have := due_d (⟨x22.num, x22.vcpu, x22.peer, x22.pending, x22.masked⟩ : Port) w; rw [show dueB (⟨x22.num, x22.vcpu, x22.peer, x22.pending, x22.masked⟩ : Port) = true from q27] at this; exact this) ?_
    by_cases q32 : (x22.vcpu : Int) = (own : Int)
    ·
     refine oq 7 [(4, .go (owns 0 1 1)), (5, .go (owns 7 0 1)), (6, .yes)] [] [(3, .bool true)] ([(x22.vcpu : Int) = (own : Int)]) (fun _ => by kernel_rfl) (al1 q32) ?_
     refine ops_nil ?_
     refine done_seq ?_
     refine at_back ([]) (.bool true) [] (by kernel_rfl) (by kernel_rfl) al0 ?_
     refine oq 4 [(6, .go (owns 1 0 1))] [0, 2, 7, 8, 9] [(16, .bool true), (17, .func (.yield (γ14 1)) #[] #[]), (19, .int .i64 x22.num)] ([]) (fun _ => by kernel_rfl) al0 ?_
     refine ops_yield (args := #[.int .i64 x22.num]) (by kernel_rfl) (by kernel_rfl) (by kernel_rfl) 2 rfl hr14 rfl (by kernel_rfl) ?_
     refine aq [] [3] [(4, .int .i64 x22.num)] ([]) (fun _ => by kernel_rfl) al0 ?_
     refine done_asg 2 rfl ?_
     refine at_block ?_
     refine at_ops ?_
     refine om 3 [(0, .go (owns 4 0 1))] [3] (fun γ36 => [(7, .slice po m co), (9, .slice (some ⟨γ36 0, 0, none⟩) 1 1)]) (fun γ36 L => bx (γ36 0) (#[.int .i64 x22.num]) 3 :: L) (fun γ36 => []) (fun _ => by kernel_rfl) (fun γ36 => al0) (fun γ36 => ?_)
     refine ops_append (α := Int) [bx (γ36 0) (#[.int .i64 x22.num]) 3, bx (γ25 0) (#[.int .i64 x22.num, .int .i64 x22.vcpu, .int .i64 x22.peer, .bool x22.pending, .bool x22.masked]) 40, bx (γ23 0) (#[.int .i64 x22.num, .int .i64 x22.vcpu, .int .i64 x22.peer, .bool x22.pending, .bool x22.masked]) 40, (γ14 1, .loop { r14 with state := .busy }), (γ14 0, .deferred (some [])), bx (γ12 0) (#[.slice po m co]) 28, bx (γ8 1) (#[.func (.func 38) #[] #[.pointer (some ⟨γ1 1, 0, none⟩)]]) 73, bx (γ8 0) (#[.slice (some ⟨b20, o20, none⟩) n cap]) 24, bx (γ1 1) (#[.int .i64 own]) 3, bx (γ1 0) (#[.slice (some ⟨b20, o20, none⟩) n cap]) 24] Yo ([]) (.refl _) rfl (by kernel_rfl) (by kernel_rfl) (p := po) (n := m) (cap := co) (m := 1) (yv := .slice (some ⟨γ36 0, 0, none⟩) 1 1) (by kernel_rfl) (by kernel_rfl) (T := 3) (by_ := 8) (by kernel_rfl) ((suchL (isDue own) (l.take j))) ([x22.num]) hO (fun w hw => src_svn Try.underlying28 (sv_row (hw.row 0 rfl) (by rfl)) (by rfl)) (by rfl) (by have hmx : maxLen = 9223372036854775807 := rfl; omega) (by have hmx : maxLen = 9223372036854775807 := rfl; omega) (fun Y37 p37 cap37 hO37 => ?_)
     refine om 1 [(4, .go (owns 5 0 1))] [] (fun _ => []) (fun _ L => (L.set 5 (bx (γ12 0) (#[.slice p37 (m + 1) cap37]) 28))) (fun _ => []) (fun _ => by kernel_rfl) (fun _ => al0) (fun _ => ?_)
     refine ops_nil ?_
     refine done_block ?_
     refine done_rnd 3 rfl ?_
     refine oq 2 [] [0, 2, 7, 8, 9] [(22, .bool false)] ([]) (fun _ => by kernel_rfl) al0 ?_
     refine ops_nil ?_
     refine done_seq ?_
     refine at_false (by kernel_rfl) ?_
     refine at_skip ?_
     refine done_block ?_
     refine done_seq ?_
     refine aq [(0, .fit)] [0, 2, 7, 8] [(9, .int .i64 ((j + 1 : Nat)))] ([Fit .i64 ((j + 1 : Nat))]) (fun _ => by kernel_rfl) (al1 (fit64 (by omega) (by omega))) ?_
     refine Done.drop (L' := (γ14 1, .loop r14) :: (γ14 0, .deferred (some [])) :: bx (γ12 0) (#[.slice p37 (m + 1) cap37]) 28 :: bx (γ8 1) (#[.func (.func 38) #[] #[.pointer (some ⟨γ1 1, 0, none⟩)]]) 73 :: bx (γ8 0) (#[.slice (some ⟨b20, o20, none⟩) n cap]) 24 :: bx (γ1 1) (#[.int .i64 own]) 3 :: bx (γ1 0) (#[.slice (some ⟨b20, o20, none⟩) n cap]) 24 :: (Y37 ++ [])) ?_ (List.Sublist.cons _ (List.Sublist.cons _ (List.Sublist.cons _ (List.Sublist.cons_cons _ (List.Sublist.cons_cons _ (List.Sublist.cons_cons _ (List.Sublist.cons_cons _ (List.Sublist.cons_cons _ (List.Sublist.cons_cons _ (List.Sublist.cons_cons _ (List.Sublist.refl _)))))))))))
     exact done_round [0, 2, 7, 8, 9] (j + 1, Y37, p37, m + 1, cap37) (by kernel_rfl) rfl ⟨by omega, by omega, by rw [← such_yes hx22 (isDue_yes q27 q32)]; exact hO37⟩ (by first | omega | (simp only; omega))
    ·
     refine oq 7 [(4, .go (owns 0 1 1)), (5, .go (owns 7 0 1)), (6, .no)] [] [(3, .bool false)] ([¬ ((x22.vcpu : Int) = (own : Int))]) (fun _ => by kernel_rfl) (al1 q32) ?_
     refine ops_nil ?_
     refine done_seq ?_
     refine at_back ([]) (.bool false) [] (by kernel_rfl) (by kernel_rfl) al0 ?_
     refine oq 7 [] [0, 2, 7, 8, 9] [(22, .bool false)] ([]) (fun _ => by kernel_rfl) al0 ?_
     refine ops_nil ?_
     refine done_seq ?_
     refine at_false (by kernel_rfl) ?_
     refine at_skip ?_
     refine done_block ?_
     refine done_seq ?_
     refine aq [(0, .fit)] [0, 2, 7, 8] [(9, .int .i64 ((j + 1 : Nat)))] ([Fit .i64 ((j + 1 : Nat))]) (fun _ => by kernel_rfl) (al1 (fit64 (by omega) (by omega))) ?_
     refine Done.drop (L' := (γ14 1, .loop r14) :: (γ14 0, .deferred (some [])) :: bx (γ12 0) (#[.slice po m co]) 28 :: bx (γ8 1) (#[.func (.func 38) #[] #[.pointer (some ⟨γ1 1, 0, none⟩)]]) 73 :: bx (γ8 0) (#[.slice (some ⟨b20, o20, none⟩) n cap]) 24 :: bx (γ1 1) (#[.int .i64 own]) 3 :: bx (γ1 0) (#[.slice (some ⟨b20, o20, none⟩) n cap]) 24 :: (Yo ++ [])) ?_ (List.Sublist.cons _ (List.Sublist.cons _ (List.Sublist.cons_cons _ (List.Sublist.cons_cons _ (List.Sublist.cons_cons _ (List.Sublist.cons_cons _ (List.Sublist.cons_cons _ (List.Sublist.cons_cons _ (List.Sublist.cons_cons _ (List.Sublist.refl _))))))))))
     exact done_round [0, 2, 7, 8, 9] (j + 1, Yo, po, m, co) (by kernel_rfl) rfl ⟨by omega, by omega, by rw [← such_no hx22 (isDue_not q32)]; exact hO⟩ (by first | omega | (simp only; omega))
  ·
   refine aq [(0, .no)] [0, 2, 7, 8, 9] [(10, .bool false)] ([¬ (((j : Nat) : Int) < ((n : Nat) : Int))]) (fun _ => by kernel_rfl) (al1 q17) ?_
   refine done_seq ?_
   refine at_seq ?_
   refine at_false (by kernel_rfl) ?_
   refine at_leave _ (by rfl) ?_
   refine done_back (by rfl) ?_
   refine ⟨0, rfl, ?_⟩
   refine done_block ?_
   refine done_seq ?_
   refine at_seq ?_
   refine aq [(0, .go (owns 1 0 1))] [] [(2, .slice po m co)] ([]) (fun _ => by kernel_rfl) al0 ?_
   refine done_seq ?_
   refine at_backM 0 rfl ([]) (.slice po m co) [] (by kernel_rfl) (by kernel_rfl) al0 ?_
   refine oq 1 [] [] [(4, .slice po m co)] ([]) (fun _ => by kernel_rfl) al0 ?_
   refine ops_nil ?_
   refine done_seq ?_
   refine at_return ([]) (.slice po m co) [] (by kernel_rfl) (by kernel_rfl) al0 ?_
   exact fun w' hw => by rw [edueV_ok q3, ← such_all (j := j) (by omega)]; exact ⟨_, _, _, _, rfl, hO, hw.below, ((hw.tailN 5).sub (List.sublist_append_left Yo ([])))⟩
end Go.Proofs.Ytfhlmijdokfdpaa

/-! The walker: what a row's inputs are: slices and structs, opened into lists. -/
namespace Go.Proofs.Ytfhlmijdokfdpaa
open Go Go.RowKit

section
variable {H : Type} {enc : TypeId × Value → H} {P : Program} {w : World} {base : Nat} {spare : Nat → Bool} {held : Bool}
theorem spot_none {a : Addr} (h : a.spot = none) : a = ⟨a.block, a.off, none⟩ := by
  cases a
  simp at h
  simp [h]
theorem trod_sv {α : Type} [Enc α] {t e : TypeId} {fuel : Nat} {cs : List Value} {x : DataW H × List MemPlace} {Good : α → Prop} (ht : P.underlying t = some (.slice e)) (hc : P.cellsOf e = Enc.k α)
    (hopen : ∀ (fuel : Nat) (cs : List Value) (x : DataW H × List MemPlace), DataW.trod enc P w base spare held fuel e cs = some x → ∃ a : α, cs = Enc.enc a ∧ Good a) (h : DataW.trod enc P w base spare held fuel t cs = some x) :
    ∃ (p : Option Addr) (n cap : Nat) (l : List α), cs = [.slice p n cap] ∧ Sv w p l ∧ n = l.length ∧ n ≤ cap ∧ cap ≤ maxLen ∧ ∀ y ∈ l, Good y := by
  rcases Deep.open_slice ht h with ⟨hcs, _⟩ | ⟨a, len, cap, m, n', D, Pl, hcs, _, hle, hmx, hm, _, hi⟩
  · exact ⟨none, 0, 0, [], hcs, Sv.nil, rfl, Nat.le_refl _, Nat.zero_le _, fun y hy => by cases hy⟩
  · have key : ∀ i, i < len → ∃ y : α, w.cells? base (a.add (i * Enc.k α)) (Enc.k α) = some (Enc.enc y) ∧ Good y := fun i hin => by
      have him : i < m := by rw [hm]; split <;> omega
      obtain ⟨cs', h1, h2⟩ := hi i him
      obtain ⟨y, rfl, hy⟩ := hopen _ _ _ h2
      rw [hc] at h1
      exact ⟨y, h1, hy⟩
    rcases Nat.eq_zero_or_pos len with h0 | h0
    · subst h0
      exact ⟨some a, 0, cap, [], hcs, Sv.nil, rfl, hle, hmx, fun y hy => by cases hy⟩
    · obtain ⟨y0, hy0, _⟩ := key 0 h0
      haveI : Inhabited α := ⟨y0⟩
      obtain ⟨f, hf⟩ := Deep.choose_lt key
      obtain ⟨_, _, hcell⟩ := World.cells?_some hy0
      have h00 := hcell 0 Enc.pos
      have hlen0 : 0 < (Enc.enc y0).length := by rw [Enc.len]; exact Enc.pos
      rw [List.getElem?_eq_getElem hlen0, Nat.zero_mul, show (a.add 0).add 0 = a by simp [Addr.add]] at h00
      have hsp := spot_none (World.cell?_spot h00)
      refine ⟨some a, len, cap, (List.range len).map f, hcs, ⟨fun _ => ⟨a.block, a.off, by rw [← hsp]⟩, fun b o hbo i hil => ?_⟩, by simp, hle, hmx, fun y hy => ?_⟩
      · have hil' : i < len := by simpa using hil
        obtain ⟨_, _, hc2⟩ := World.cells?_some (hf i hil').1
        have ha : a = ⟨b, o, none⟩ := by simpa using hbo
        subst ha
        intro j v hj
        have hjk : j < Enc.k α := by rw [← Enc.len (f i)]; have := (List.getElem?_eq_some_iff.1 hj).1; simpa using this
        have h3 := hc2 j hjk
        rw [Deep.add_add] at h3
        have h4 : (Enc.enc (f i))[j]? = some v := by simpa using hj
        rw [h4] at h3
        have h5 : (⟨b, o, none⟩ : Addr).add (i * Enc.k α + j) = ⟨b, o + i * Enc.k α + j, none⟩ := by
          unfold Addr.add; split <;> simp_all <;> omega
        rw [h5] at h3
        exact h3
      · obtain ⟨i, hir, rfl⟩ := List.mem_map.1 hy
        exact (hf i (List.mem_range.1 hir)).2
theorem list1 {α : Type} {cs : List α} (h : cs.length = 1) : ∃ c0, cs = [c0] := by
  match cs, h with
  | [a], _ => exact ⟨a, rfl⟩
theorem list2' {α : Type} {cs : List α} (h : cs.length = 2) : ∃ c0 c1, cs = [c0, c1] := by
  match cs, h with
  | [a, b], _ => exact ⟨a, b, rfl⟩
theorem list5 {α : Type} {cs : List α} (h : cs.length = 5) : ∃ c0 c1 c2 c3 c4, cs = [c0, c1, c2, c3, c4] := by
  match cs, h with
  | [a, b, c, d, e], _ => exact ⟨a, b, c, d, e, rfl⟩
theorem trod_int1 {t : TypeId} {fuel : Nat} {cs : List Value} {x : DataW H × List MemPlace} (ht : P.underlying t = some (.int .i64)) (h : DataW.trod enc P w base spare held fuel t cs = some x) : ∃ a : Int, cs = Enc.enc a ∧ True := by
  obtain ⟨a, rfl, _, _⟩ := DataW.trod_int ht h
  exact ⟨a, rfl, trivial⟩
end
end Go.Proofs.Ytfhlmijdokfdpaa

/-! event.Close, Drop. -/
namespace Go.Proofs.Ytfhlmijdokfdpaa
open Go Go.RowKit

set_option maxRecDepth 100000 in
theorem isnum_d (x : Port) (g : Nat) (k : Int) (w : World)
 (hk : Rd w g (0 + 0 * 1) [.int .i64 k])
 : Calls Try.prog 64 #[.agg #[.int .i64 x.num, .int .i64 x.vcpu, .int .i64 x.peer, .bool x.pending, .bool x.masked], .pointer (some ⟨g, 0 + 0 * 1, none⟩)] w fun e w' => e = .returned (.bool (isNum k x)) ∧ Below w.heap.size w w' := by
 refine enter (Hs.start w) Try.func64 rfl Try.ntmps64 rfl ?_
 refine at_seq ?_
 refine am [] [1] (fun γ1 => [(2, .pointer (some ⟨γ1 0, 0, none⟩))]) (fun γ1 L => bx (γ1 0) (#[.int .i64 x.num, .int .i64 x.vcpu, .int .i64 x.peer, .bool x.pending, .bool x.masked]) 40 :: L) (fun γ1 => []) (fun _ => by kernel_rfl) (fun γ1 => al0) (fun γ1 => ?_)
 refine done_seq ?_
 refine at_seq ?_
 by_cases q3 : (x.num : Int) = (k : Int)
 ·
  refine aq [(1, .go (owns 0 0 1)), (2, .go (outs g (0 + 0 * 1) [.int .i64 k])), (3, .yes)] [] [(3, .bool true)] (cellsP w g (0 + 0 * 1) [.int .i64 k] ++ ([(x.num : Int) = (k : Int)])) (fun _ => by kernel_rfl) (alA (rd_pre hk _ rfl) (al1 q3)) ?_
  refine done_seq ?_
  refine at_return ([]) (.bool true) [] (by kernel_rfl) (by kernel_rfl) al0 ?_
  exact fun w' hw => ⟨by rw [show isNum k x = true from decide_eq_true q3], hw.below⟩
 ·
  refine aq [(1, .go (owns 0 0 1)), (2, .go (outs g (0 + 0 * 1) [.int .i64 k])), (3, .no)] [] [(3, .bool false)] (cellsP w g (0 + 0 * 1) [.int .i64 k] ++ ([¬ ((x.num : Int) = (k : Int))])) (fun _ => by kernel_rfl) (alA (rd_pre hk _ rfl) (al1 q3)) ?_
  refine done_seq ?_
  refine at_return ([]) (.bool false) [] (by kernel_rfl) (by kernel_rfl) al0 ?_
  exact fun w' hw => ⟨by rw [show isNum k x = false from decide_eq_false q3], hw.below⟩

set_option maxRecDepth 100000 in
theorem isown_d (x : Port) (g : Nat) (own : Int) (w : World)
 (hk : Rd w g (0 + 0 * 1) [.int .i64 own])
 : Calls Try.prog 66 #[.agg #[.int .i64 x.num, .int .i64 x.vcpu, .int .i64 x.peer, .bool x.pending, .bool x.masked], .pointer (some ⟨g, 0 + 0 * 1, none⟩)] w fun e w' => e = .returned (.bool (isOwn own x)) ∧ Below w.heap.size w w' := by
 refine enter (Hs.start w) Try.func66 rfl Try.ntmps66 rfl ?_
 refine at_seq ?_
 refine am [] [1] (fun γ1 => [(2, .pointer (some ⟨γ1 0, 0, none⟩))]) (fun γ1 L => bx (γ1 0) (#[.int .i64 x.num, .int .i64 x.vcpu, .int .i64 x.peer, .bool x.pending, .bool x.masked]) 40 :: L) (fun γ1 => []) (fun _ => by kernel_rfl) (fun γ1 => al0) (fun γ1 => ?_)
 refine done_seq ?_
 refine at_seq ?_
 by_cases q3 : (x.vcpu : Int) = (own : Int)
 ·
  refine aq [(1, .go (owns 0 1 1)), (2, .go (outs g (0 + 0 * 1) [.int .i64 own])), (3, .yes)] [] [(3, .bool true)] (cellsP w g (0 + 0 * 1) [.int .i64 own] ++ ([(x.vcpu : Int) = (own : Int)])) (fun _ => by kernel_rfl) (alA (rd_pre hk _ rfl) (al1 q3)) ?_
  refine done_seq ?_
  refine at_return ([]) (.bool true) [] (by kernel_rfl) (by kernel_rfl) al0 ?_
  exact fun w' hw => ⟨by rw [show isOwn own x = true from decide_eq_true q3], hw.below⟩
 ·
  refine aq [(1, .go (owns 0 1 1)), (2, .go (outs g (0 + 0 * 1) [.int .i64 own])), (3, .no)] [] [(3, .bool false)] (cellsP w g (0 + 0 * 1) [.int .i64 own] ++ ([¬ ((x.vcpu : Int) = (own : Int))])) (fun _ => by kernel_rfl) (alA (rd_pre hk _ rfl) (al1 q3)) ?_
  refine done_seq ?_
  refine at_return ([]) (.bool false) [] (by kernel_rfl) (by kernel_rfl) al0 ?_
  exact fun w' hw => ⟨by rw [show isOwn own x = false from decide_eq_false q3], hw.below⟩

set_option maxRecDepth 100000 in
theorem close_d (p : Option Addr) (n cap : Nat) (l : List Port) (k : Int) (w : World)
 (hsl : Sv w p l) (hn : n = l.length) (hb : n ≤ 1000)
 : Calls Try.prog 42 #[.agg #[.slice p n cap], .int .i64 k] w fun e w' => ∃ q m capq Y, e = .returned (.tuple #[.agg #[.slice q m capq], .int .i64 (closeV l k).2]) ∧ SlO 40 Y q m capq (closeV l k).1 ∧ Below w.heap.size w w' ∧ Hs w Y w' := by
 refine enter (Hs.start w) Try.func42 rfl Try.ntmps42 rfl ?_
 refine at_seq ?_
 refine am [] [] (fun γ1 => [(2, .pointer (some ⟨γ1 0, 0, none⟩)), (3, .pointer (some ⟨γ1 1, 0, none⟩)), (4, .pointer (some ⟨γ1 2, 0, none⟩))]) (fun γ1 L => bx (γ1 2) (#[.slice none 0 0]) 24 :: bx (γ1 1) (#[.int .i64 k]) 3 :: bx (γ1 0) (#[.slice p n cap]) 24 :: L) (fun γ1 => []) (fun _ => by kernel_rfl) (fun γ1 => al0) (fun γ1 => ?_)
 refine done_seq ?_
 refine at_seq ?_
 refine at_ops ?_
 refine oq 2 [(0, .go (owns 2 0 1))] [4] [(6, .agg #[.slice p n cap]), (7, .func (.func 62) #[] #[.pointer (some ⟨γ1 1, 0, none⟩)])] ([]) (fun _ => by kernel_rfl) al0 ?_
 refine ops_inline (g := 54) (args := #[.agg #[.slice p n cap], .func (.func 62) #[] #[.pointer (some ⟨γ1 1, 0, none⟩)]]) (by kernel_rfl) (by kernel_rfl) (by kernel_rfl) (fun args w => Try.call54 args w) Try.func54 rfl Try.ntmps54 rfl ?_
 refine at_seq ?_
 refine am [] [1] (fun γ3 => [(2, .pointer (some ⟨γ3 0, 0, none⟩)), (4, .pointer (some ⟨γ3 1, 0, none⟩))]) (fun γ3 L => bx (γ3 1) (#[.slice none 0 0]) 24 :: bx (γ3 0) (#[.slice p n cap]) 24 :: L) (fun γ3 => []) (fun _ => by kernel_rfl) (fun γ3 => al0) (fun γ3 => ?_)
 refine done_seq ?_
 refine at_seq ?_
 refine at_seq ?_
 refine at_ops ?_
 refine oq 1 [(0, .go (owns 1 0 1))] [1, 2, 4] [(9, .agg #[.slice p n cap])] ([]) (fun _ => by kernel_rfl) al0 ?_
 rcases q5 : rightB l with _ | _
 ·
  refine ops_callD (.int .i64 260) (by kernel_rfl) (by kernel_rfl) (by kernel_rfl) (fun args w => Try.call16 args w) (fun w hw => by have := check_d p n cap l w (hsl.kept hw.below) hn hb; rw [q5] at this; exact this) ?_
  refine oq 1 [] [1, 2, 4] [(6, .int .i64 260)] ([]) (fun _ => by kernel_rfl) al0 ?_
  refine ops_nil ?_
  refine done_seq ?_
  refine at_seq ?_
  refine aq [] [1, 2, 4, 6] [(12, .bool true)] ([]) (fun _ => by kernel_rfl) al0 ?_
  refine done_seq ?_
  refine at_true (by kernel_rfl) ?_
  refine at_seq ?_
  refine aq [(2, .go (owns 0 0 1))] [4] [(5, .int .i64 260)] ([]) (fun _ => by kernel_rfl) al0 ?_
  refine done_seq ?_
  refine at_back (owns 0 0 1) (.tuple #[.agg #[.slice none 0 0], .int .i64 260]) [] (by kernel_rfl) (by kernel_rfl) al0 ?_
  refine oq 4 [(5, .go (owns 2 0 1))] [4] [(5, .int .i64 260)] ([]) (fun _ => by kernel_rfl) al0 ?_
  refine ops_nil ?_
  refine done_seq ?_
  refine at_return (owns 2 0 1) (.tuple #[.agg #[.slice none 0 0], .int .i64 260]) [] (by kernel_rfl) (by kernel_rfl) al0 ?_
  exact fun w' hw => by rw [closeV_bad q5]; exact ⟨none, 0, 0, [], rfl, SlO.nil, hw.below, hw.sub (List.nil_sublist _)⟩
 ·
  refine ops_callD (.int .i64 0) (by kernel_rfl) (by kernel_rfl) (by kernel_rfl) (fun args w => Try.call16 args w) (fun w hw => by have := check_d p n cap l w (hsl.kept hw.below) hn hb; rw [q5] at this; exact this) ?_
  refine oq 1 [] [1, 2, 4] [(6, .int .i64 0)] ([]) (fun _ => by kernel_rfl) al0 ?_
  refine ops_nil ?_
  refine done_seq ?_
  refine at_seq ?_
  refine aq [] [1, 2, 4, 6] [(12, .bool false)] ([]) (fun _ => by kernel_rfl) al0 ?_
  refine done_seq ?_
  refine at_false (by kernel_rfl) ?_
  refine at_skip ?_
  refine done_seq ?_
  refine at_seq ?_
  refine at_ops ?_
  refine oq 2 [(1, .go (owns 1 0 1))] [1, 4] [(16, .slice p n cap)] ([]) (fun _ => by kernel_rfl) al0 ?_
  refine ops_call (fun v L' => ∃ q capq Y, v = .slice q n capq ∧ L' = List.take 5 ([bx (γ3 1) (#[.slice none 0 0]) 24, bx (γ3 0) (#[.slice p n cap]) 24, bx (γ1 2) (#[.slice none 0 0]) 24, bx (γ1 1) (#[.int .i64 k]) 3, bx (γ1 0) (#[.slice p n cap]) 24]) ++ (Y ++ List.drop 5 ([bx (γ3 1) (#[.slice none 0 0]) 24, bx (γ3 0) (#[.slice p n cap]) 24, bx (γ1 2) (#[.slice none 0 0]) 24, bx (γ1 1) (#[.int .i64 k]) 3, bx (γ1 0) (#[.slice p n cap]) 24])) ∧ SlO 40 Y q n capq l) (by kernel_rfl) (by kernel_rfl) (by kernel_rfl) (fun args w => Try.call72 args w) (fun w hw => (clone_d p n cap l w (hsl.kept hw.below) hn (by omega)).mono fun e w' ⟨q, capq, Y, he, hO, hb, hY⟩ => ⟨_, _, he, ⟨q, capq, Y, rfl, rfl, hO⟩, hw.join hb hY 5⟩) ?_
  rintro v13 L13 ⟨q13, cq13, Y13, rfl, rfl, hO13⟩
  refine om 3 [(5, .go (owns 0 0 1))] [1, 4] (fun γ14 => [(7, .pointer (some ⟨γ14 0, 0, none⟩))]) (fun γ14 L => bx (γ14 0) (#[.slice q13 n cq13]) 24 :: L) (fun γ14 => []) (fun _ => by kernel_rfl) (fun γ14 => al0) (fun γ14 => ?_)
  refine ops_nil ?_
  refine done_seq ?_
  refine at_seq ?_
  refine at_seq ?_
  refine at_ops ?_
  refine oq 1 [] [4, 7] [(19, .func (.func 62) #[] #[.pointer (some ⟨γ1 1, 0, none⟩)])] ([]) (fun _ => by kernel_rfl) al0 ?_
  refine ops_inline (g := 62) (args := #[.pointer (some ⟨γ14 0, 0, none⟩), .pointer (some ⟨γ1 1, 0, none⟩)]) (by kernel_rfl) (by kernel_rfl) (by kernel_rfl) (fun args w => Try.call62 args w) Try.func62 rfl Try.ntmps62 rfl ?_
  refine at_seq ?_
  refine aq [] [0, 1] [] ([]) (fun _ => by kernel_rfl) al0 ?_
  refine done_seq ?_
  refine at_seq ?_
  refine at_seq ?_
  refine at_ops ?_
  refine oq 2 [] [] [(4, .pointer (some ⟨γ14 0, 0, none⟩)), (5, .func (.func 64) #[] #[.pointer (some ⟨γ1 1, 0, none⟩)])] ([]) (fun _ => by kernel_rfl) al0 ?_
  refine ops_inline (g := 63) (args := #[.pointer (some ⟨γ14 0, 0, none⟩), .func (.func 64) #[] #[.pointer (some ⟨γ1 1, 0, none⟩)]]) (by kernel_rfl) (by kernel_rfl) (by kernel_rfl) (fun args w => Try.call63 args w) Try.func63 rfl Try.ntmps63 rfl ?_
  refine at_seq ?_
  refine aq [] [0, 1] [] ([]) (fun _ => by kernel_rfl) al0 ?_
  refine done_seq ?_
  refine at_seq ?_
  refine at_ops ?_
  refine oq 4 [(2, .go (owns 0 0 1))] [0, 1] [(9, .agg #[.slice q13 n cq13]), (10, .func (.func 64) #[] #[.pointer (some ⟨γ1 1, 0, none⟩)])] ([]) (fun _ => by kernel_rfl) al0 ?_
  refine ops_inline (g := 37) (args := #[.agg #[.slice q13 n cq13], .func (.func 64) #[] #[.pointer (some ⟨γ1 1, 0, none⟩)]]) (by kernel_rfl) (by kernel_rfl) (by kernel_rfl) (fun args w => Try.call37 args w) Try.func37 rfl Try.ntmps37 rfl ?_
  refine at_seq ?_
  refine am [] [] (fun γ20 => [(2, .pointer (some ⟨γ20 0, 0, none⟩)), (3, .pointer (some ⟨γ20 1, 0, none⟩))]) (fun γ20 L => bx (γ20 1) (#[.func (.func 64) #[] #[.pointer (some ⟨γ1 1, 0, none⟩)]]) 73 :: bx (γ20 0) (#[.slice q13 n cq13]) 24 :: L) (fun γ20 => []) (fun _ => by kernel_rfl) (fun γ20 => al0) (fun γ20 => ?_)
  refine done_seq ?_
  refine at_seq ?_
  refine aq [] [] [(4, .func (.func 60) #[] #[.pointer (some ⟨γ20 0, 0, none⟩), .pointer (some ⟨γ20 1, 0, none⟩)])] ([]) (fun _ => by kernel_rfl) al0 ?_
  refine done_seq ?_
  refine at_back ([]) (.func (.func 60) #[] #[.pointer (some ⟨γ20 0, 0, none⟩), .pointer (some ⟨γ20 1, 0, none⟩)]) [] (by kernel_rfl) (by kernel_rfl) al0 ?_
  refine ops_inlineM (g := 36) (args := #[.func (.func 60) #[] #[.pointer (some ⟨γ20 0, 0, none⟩), .pointer (some ⟨γ20 1, 0, none⟩)]]) (by kernel_rfl) (by kernel_rfl) (by kernel_rfl) (fun args w => Try.call36 args w) Try.func36 rfl Try.ntmps36 rfl ?_
  refine at_seq ?_
  refine aq [] [0] [] ([]) (fun _ => by kernel_rfl) al0 ?_
  refine done_seq ?_
  refine at_seq ?_
  refine am [] [0] (fun γ24 => [(3, .pointer (some ⟨γ24 0, 0, none⟩))]) (fun γ24 L => bx (γ24 0) (#[.slice none 0 0]) 28 :: L) (fun γ24 => []) (fun _ => by kernel_rfl) (fun γ24 => al0) (fun γ24 => ?_)
  refine done_seq ?_
  refine at_seq ?_
  refine at_seq ?_
  refine aq [] [3] [(5, .func (.func 60) #[] #[.pointer (some ⟨γ20 0, 0, none⟩), .pointer (some ⟨γ20 1, 0, none⟩)])] ([]) (fun _ => by kernel_rfl) al0 ?_
  refine done_seq ?_
  refine at_block ?_
  refine at_range (gf := 60) (lb := #[.pointer (some ⟨γ20 0, 0, none⟩), .pointer (some ⟨γ20 1, 0, none⟩)]) (by kernel_rfl) (fun args w => Try.call60 args w) Try.func60 rfl Try.ntmps60 (by kernel_rfl) (fun γ26 r26 hr26 => ?_)
  refine at_seq ?_
  refine aq [(1, .go (owns 4 0 1))] [0, 2] [(7, .slice q13 n cq13), (8, .int .i64 ((n : Nat))), (9, .int .i64 0)] ([]) (fun _ => by kernel_rfl) al0 ?_
  refine done_seq ?_
  refine at_block ?_
  refine at_loop (α := Nat × List Ob × Option Addr × Nat × Nat) [0, 2, 7, 8, 9] (fun ⟨j, Yo, po, m, co⟩ => [(0, .func (.yield (γ26 1)) #[] #[]), (2, .pointer (some ⟨γ20 1, 0, none⟩)), (7, .slice q13 n cq13), (8, .int .i64 ((n : Nat))), (9, .int .i64 ((j : Nat)))]) (fun ⟨j, Yo, po, m, co⟩ => (γ26 1, .loop r26) :: (γ26 0, .deferred (some [])) :: bx (γ24 0) (#[.slice po m co]) 28 :: bx (γ20 1) (#[.func (.func 64) #[] #[.pointer (some ⟨γ1 1, 0, none⟩)]]) 73 :: bx (γ20 0) (#[.slice q13 n cq13]) 24 :: bx (γ14 0) (#[.slice q13 n cq13]) 24 :: bx (γ3 1) (#[.slice none 0 0]) 24 :: bx (γ3 0) (#[.slice p n cap]) 24 :: bx (γ1 2) (#[.slice none 0 0]) 24 :: bx (γ1 1) (#[.int .i64 k]) 3 :: bx (γ1 0) (#[.slice p n cap]) 24 :: (Yo ++ (Y13 ++ []))) (fun ⟨j, Yo, po, m, co⟩ => j ≤ n ∧ m ≤ j ∧ SlO 3 Yo po m co (suchL (isNum k) (l.take j))) (fun ⟨j, Yo, po, m, co⟩ => n - j) (0, [], none, 0, 0) (by kernel_rfl) rfl ⟨Nat.zero_le _, Nat.le_refl _, by rw [List.take_zero]; exact SlO.nil⟩ ?_
  rintro ⟨j, Yo, po, m, co⟩
  rintro ⟨hj, hm, hO⟩
  refine at_seq ?_
  by_cases q29 : ((j : Nat) : Int) < ((n : Nat) : Int)
  ·
   refine aq [(0, .yes)] [0, 2, 7, 8, 9] [(10, .bool true)] ([((j : Nat) : Int) < ((n : Nat) : Int)]) (fun _ => by kernel_rfl) (al1 q29) ?_
   refine done_seq ?_
   refine at_seq ?_
   refine at_true (by kernel_rfl) ?_
   refine at_skip ?_
   refine done_seq ?_
   refine at_seq ?_
   refine at_block ?_
   refine at_seq ?_
   refine At.pick [[(γ26 1, .loop r26)], [(γ26 0, .deferred (some []))], [bx (γ24 0) (#[.slice po m co]) 28], [bx (γ20 1) (#[.func (.func 64) #[] #[.pointer (some ⟨γ1 1, 0, none⟩)]]) 73], [bx (γ20 0) (#[.slice q13 n cq13]) 24], [bx (γ14 0) (#[.slice q13 n cq13]) 24], [bx (γ3 1) (#[.slice none 0 0]) 24], [bx (γ3 0) (#[.slice p n cap]) 24], [bx (γ1 2) (#[.slice none 0 0]) 24], [bx (γ1 1) (#[.int .i64 k]) 3], [bx (γ1 0) (#[.slice p n cap]) 24], Yo, Y13] [0, 1, 2, 3, 4, 5, 6, 7, 8, 9, 10, 12, 11] [] ((γ26 1, .loop r26) :: (γ26 0, .deferred (some [])) :: bx (γ24 0) (#[.slice po m co]) 28 :: bx (γ20 1) (#[.func (.func 64) #[] #[.pointer (some ⟨γ1 1, 0, none⟩)]]) 73 :: bx (γ20 0) (#[.slice q13 n cq13]) 24 :: bx (γ14 0) (#[.slice q13 n cq13]) 24 :: bx (γ3 1) (#[.slice none 0 0]) 24 :: bx (γ3 0) (#[.slice p n cap]) 24 :: bx (γ1 2) (#[.slice none 0 0]) 24 :: bx (γ1 1) (#[.int .i64 k]) 3 :: bx (γ1 0) (#[.slice p n cap]) 24 :: (Y13 ++ (Yo ++ []))) (by kernel_rfl) rfl rfl ?_
   have hln32 := hO13.len
   obtain ⟨g32, cs32, rfl, rfl, hOw32⟩ := hO13.rowOf (i := j) (by omega)
   obtain ⟨x34, hx34⟩ := get_some (l := l) (m := j) (by omega)
   refine am [(0, .at g32 0 j), (1, .go (ownps 11 (0 + j * 5) [.int .i64 x34.num, .int .i64 x34.vcpu, .int .i64 x34.peer, .bool x34.pending, .bool x34.masked])), (3, .go (owns 0 0 5))] [0, 2, 7, 8, 9] (fun γ35 => [(5, .pointer (some ⟨γ35 0, 0, none⟩))]) (fun γ35 L => bx (γ35 0) (#[.int .i64 x34.num, .int .i64 x34.vcpu, .int .i64 x34.peer, .bool x34.pending, .bool x34.masked]) 40 :: L) (fun γ35 => [(some ⟨g32, 0, none⟩ : Option Addr) = some ⟨g32, 0, none⟩, ((j : Nat)) = ((j : Nat) : Int), j < n] ++ (acellsP cs32 (0 + j * 5) [.int .i64 x34.num, .int .i64 x34.vcpu, .int .i64 x34.peer, .bool x34.pending, .bool x34.masked])) (fun _ => by kernel_rfl) (fun γ35 => (alA (al2 rfl (al2 rfl (al1 (by omega)))) (rda_pre ((hOw32.rdx hO13.len hx34)) _ rfl))) (fun γ35 => ?_)
   refine done_seq ?_
   refine at_seq ?_
   refine at_ops ?_
   refine oq 2 [(0, .go (owns 4 0 1)), (1, .go (owns 0 0 5))] [0, 2, 5, 7, 8, 9] [(13, .func (.func 64) #[] #[.pointer (some ⟨γ1 1, 0, none⟩)]), (14, .agg #[.int .i64 x34.num, .int .i64 x34.vcpu, .int .i64 x34.peer, .bool x34.pending, .bool x34.masked])] ([]) (fun _ => by kernel_rfl) al0 ?_
   refine ops_inline (g := 64) (args := #[.agg #[.int .i64 x34.num, .int .i64 x34.vcpu, .int .i64 x34.peer, .bool x34.pending, .bool x34.masked], .pointer (some ⟨γ1 1, 0, none⟩)]) (by kernel_rfl) (by kernel_rfl) (by kernel_rfl) (fun args w => Try.call64 args w) Try.func64 rfl Try.ntmps64 rfl ?_
   refine at_seq ?_
   refine am [] [1] (fun γ37 => [(2, .pointer (some ⟨γ37 0, 0, none⟩))]) (fun γ37 L => bx (γ37 0) (#[.int .i64 x34.num, .int .i64 x34.vcpu, .int .i64 x34.peer, .bool x34.pending, .bool x34.masked]) 40 :: L) (fun γ37 => []) (fun _ => by kernel_rfl) (fun γ37 => al0) (fun γ37 => ?_)
   refine done_seq ?_
   refine at_seq ?_
   by_cases q39 : (x34.num : Int) = (k : Int)
   ·
    refine aq [(1, .go (owns 0 0 1)), (2, .go (owns 11 0 1)), (3, .yes)] [] [(3, .bool true)] ([(x34.num : Int) = (k : Int)]) (fun _ => by kernel_rfl) (al1 q39) ?_
    refine done_seq ?_
    refine at_back ([]) (.bool true) [] (by kernel_rfl) (by kernel_rfl) al0 ?_
    refine oq 4 [(6, .go (owns 1 0 1))] [0, 2, 7, 8, 9] [(16, .bool true), (17, .func (.yield (γ26 1)) #[] #[]), (19, .int .i64 x34.num)] ([]) (fun _ => by kernel_rfl) al0 ?_
    refine ops_yield (args := #[.int .i64 x34.num]) (by kernel_rfl) (by kernel_rfl) (by kernel_rfl) 2 rfl hr26 rfl (by kernel_rfl) ?_
    refine aq [] [3] [(4, .int .i64 x34.num)] ([]) (fun _ => by kernel_rfl) al0 ?_
    refine done_asg 2 rfl ?_
    refine at_block ?_
    refine at_ops ?_
    refine om 3 [(0, .go (owns 4 0 1))] [3] (fun γ43 => [(7, .slice po m co), (9, .slice (some ⟨γ43 0, 0, none⟩) 1 1)]) (fun γ43 L => bx (γ43 0) (#[.int .i64 x34.num]) 3 :: L) (fun γ43 => []) (fun _ => by kernel_rfl) (fun γ43 => al0) (fun γ43 => ?_)
    refine ops_append (α := Int) [bx (γ43 0) (#[.int .i64 x34.num]) 3, bx (γ37 0) (#[.int .i64 x34.num, .int .i64 x34.vcpu, .int .i64 x34.peer, .bool x34.pending, .bool x34.masked]) 40, bx (γ35 0) (#[.int .i64 x34.num, .int .i64 x34.vcpu, .int .i64 x34.peer, .bool x34.pending, .bool x34.masked]) 40, (γ26 1, .loop { r26 with state := .busy }), (γ26 0, .deferred (some [])), bx (γ24 0) (#[.slice po m co]) 28, bx (γ20 1) (#[.func (.func 64) #[] #[.pointer (some ⟨γ1 1, 0, none⟩)]]) 73, bx (γ20 0) (#[.slice (some ⟨g32, 0, none⟩) n cq13]) 24, bx (γ14 0) (#[.slice (some ⟨g32, 0, none⟩) n cq13]) 24, bx (γ3 1) (#[.slice none 0 0]) 24, bx (γ3 0) (#[.slice p n cap]) 24, bx (γ1 2) (#[.slice none 0 0]) 24, bx (γ1 1) (#[.int .i64 k]) 3, bx (γ1 0) (#[.slice p n cap]) 24, bx g32 cs32 40] Yo ([]) (.refl _) rfl (by kernel_rfl) (by kernel_rfl) (p := po) (n := m) (cap := co) (m := 1) (yv := .slice (some ⟨γ43 0, 0, none⟩) 1 1) (by kernel_rfl) (by kernel_rfl) (T := 3) (by_ := 8) (by kernel_rfl) ((suchL (isNum k) (l.take j))) ([x34.num]) hO (fun w hw => src_svn Try.underlying28 (sv_row (hw.row 0 rfl) (by rfl)) (by rfl)) (by rfl) (by have hmx : maxLen = 9223372036854775807 := rfl; omega) (by have hmx : maxLen = 9223372036854775807 := rfl; omega) (fun Y44 p44 cap44 hO44 => ?_)
    refine om 1 [(4, .go (owns 5 0 1))] [] (fun _ => []) (fun _ L => (L.set 5 (bx (γ24 0) (#[.slice p44 (m + 1) cap44]) 28))) (fun _ => []) (fun _ => by kernel_rfl) (fun _ => al0) (fun _ => ?_)
    refine ops_nil ?_
    refine done_block ?_
    refine done_rnd 3 rfl ?_
    refine oq 2 [] [0, 2, 7, 8, 9] [(22, .bool false)] ([]) (fun _ => by kernel_rfl) al0 ?_
    refine ops_nil ?_
    refine done_seq ?_
    refine at_false (by kernel_rfl) ?_
    refine at_skip ?_
    refine done_block ?_
    refine done_seq ?_
    refine aq [(0, .fit)] [0, 2, 7, 8] [(9, .int .i64 ((j + 1 : Nat)))] ([Fit .i64 ((j + 1 : Nat))]) (fun _ => by kernel_rfl) (al1 (fit64 (by omega) (by omega))) ?_
    refine Done.pick [[bx (γ43 0) (#[.int .i64 x34.num]) 3], [bx (γ37 0) (#[.int .i64 x34.num, .int .i64 x34.vcpu, .int .i64 x34.peer, .bool x34.pending, .bool x34.masked]) 40], [bx (γ35 0) (#[.int .i64 x34.num, .int .i64 x34.vcpu, .int .i64 x34.peer, .bool x34.pending, .bool x34.masked]) 40], [(γ26 1, .loop r26)], [(γ26 0, .deferred (some []))], [bx (γ24 0) (#[.slice p44 (m + 1) cap44]) 28], [bx (γ20 1) (#[.func (.func 64) #[] #[.pointer (some ⟨γ1 1, 0, none⟩)]]) 73], [bx (γ20 0) (#[.slice (some ⟨g32, 0, none⟩) n cq13]) 24], [bx (γ14 0) (#[.slice (some ⟨g32, 0, none⟩) n cq13]) 24], [bx (γ3 1) (#[.slice none 0 0]) 24], [bx (γ3 0) (#[.slice p n cap]) 24], [bx (γ1 2) (#[.slice none 0 0]) 24], [bx (γ1 1) (#[.int .i64 k]) 3], [bx (γ1 0) (#[.slice p n cap]) 24], [bx g32 cs32 40], Y44] [3, 4, 5, 6, 7, 8, 9, 10, 11, 12, 13, 15, 14] [0, 1, 2] ((γ26 1, .loop r26) :: (γ26 0, .deferred (some [])) :: bx (γ24 0) (#[.slice p44 (m + 1) cap44]) 28 :: bx (γ20 1) (#[.func (.func 64) #[] #[.pointer (some ⟨γ1 1, 0, none⟩)]]) 73 :: bx (γ20 0) (#[.slice (some ⟨g32, 0, none⟩) n cq13]) 24 :: bx (γ14 0) (#[.slice (some ⟨g32, 0, none⟩) n cq13]) 24 :: bx (γ3 1) (#[.slice none 0 0]) 24 :: bx (γ3 0) (#[.slice p n cap]) 24 :: bx (γ1 2) (#[.slice none 0 0]) 24 :: bx (γ1 1) (#[.int .i64 k]) 3 :: bx (γ1 0) (#[.slice p n cap]) 24 :: (Y44 ++ ([bx g32 cs32 40]))) (by kernel_rfl) rfl rfl ?_
    exact done_round [0, 2, 7, 8, 9] (j + 1, Y44, p44, m + 1, cap44) (by kernel_rfl) rfl ⟨by omega, by omega, by rw [← such_yes hx34 (decide_eq_true q39)]; exact hO44⟩ (by first | omega | (simp only; omega))
   ·
    refine aq [(1, .go (owns 0 0 1)), (2, .go (owns 11 0 1)), (3, .no)] [] [(3, .bool false)] ([¬ ((x34.num : Int) = (k : Int))]) (fun _ => by kernel_rfl) (al1 q39) ?_
    refine done_seq ?_
    refine at_back ([]) (.bool false) [] (by kernel_rfl) (by kernel_rfl) al0 ?_
    refine oq 7 [] [0, 2, 7, 8, 9] [(22, .bool false)] ([]) (fun _ => by kernel_rfl) al0 ?_
    refine ops_nil ?_
    refine done_seq ?_
    refine at_false (by kernel_rfl) ?_
    refine at_skip ?_
    refine done_block ?_
    refine done_seq ?_
    refine aq [(0, .fit)] [0, 2, 7, 8] [(9, .int .i64 ((j + 1 : Nat)))] ([Fit .i64 ((j + 1 : Nat))]) (fun _ => by kernel_rfl) (al1 (fit64 (by omega) (by omega))) ?_
    refine Done.pick [[bx (γ37 0) (#[.int .i64 x34.num, .int .i64 x34.vcpu, .int .i64 x34.peer, .bool x34.pending, .bool x34.masked]) 40], [bx (γ35 0) (#[.int .i64 x34.num, .int .i64 x34.vcpu, .int .i64 x34.peer, .bool x34.pending, .bool x34.masked]) 40], [(γ26 1, .loop r26)], [(γ26 0, .deferred (some []))], [bx (γ24 0) (#[.slice po m co]) 28], [bx (γ20 1) (#[.func (.func 64) #[] #[.pointer (some ⟨γ1 1, 0, none⟩)]]) 73], [bx (γ20 0) (#[.slice (some ⟨g32, 0, none⟩) n cq13]) 24], [bx (γ14 0) (#[.slice (some ⟨g32, 0, none⟩) n cq13]) 24], [bx (γ3 1) (#[.slice none 0 0]) 24], [bx (γ3 0) (#[.slice p n cap]) 24], [bx (γ1 2) (#[.slice none 0 0]) 24], [bx (γ1 1) (#[.int .i64 k]) 3], [bx (γ1 0) (#[.slice p n cap]) 24], [bx g32 cs32 40], Yo] [2, 3, 4, 5, 6, 7, 8, 9, 10, 11, 12, 14, 13] [0, 1] ((γ26 1, .loop r26) :: (γ26 0, .deferred (some [])) :: bx (γ24 0) (#[.slice po m co]) 28 :: bx (γ20 1) (#[.func (.func 64) #[] #[.pointer (some ⟨γ1 1, 0, none⟩)]]) 73 :: bx (γ20 0) (#[.slice (some ⟨g32, 0, none⟩) n cq13]) 24 :: bx (γ14 0) (#[.slice (some ⟨g32, 0, none⟩) n cq13]) 24 :: bx (γ3 1) (#[.slice none 0 0]) 24 :: bx (γ3 0) (#[.slice p n cap]) 24 :: bx (γ1 2) (#[.slice none 0 0]) 24 :: bx (γ1 1) (#[.int .i64 k]) 3 :: bx (γ1 0) (#[.slice p n cap]) 24 :: (Yo ++ ([bx g32 cs32 40]))) (by kernel_rfl) rfl rfl ?_
    exact done_round [0, 2, 7, 8, 9] (j + 1, Yo, po, m, co) (by kernel_rfl) rfl ⟨by omega, by omega, by rw [← such_no hx34 (decide_eq_false q39)]; exact hO⟩ (by first | omega | (simp only; omega))
  ·
   refine aq [(0, .no)] [0, 2, 7, 8, 9] [(10, .bool false)] ([¬ (((j : Nat) : Int) < ((n : Nat) : Int))]) (fun _ => by kernel_rfl) (al1 q29) ?_
   refine done_seq ?_
   refine at_seq ?_
   refine at_false (by kernel_rfl) ?_
   refine at_leave _ (by rfl) ?_
   refine done_back (by rfl) ?_
   refine ⟨0, rfl, ?_⟩
   refine done_block ?_
   refine done_seq ?_
   refine at_seq ?_
   refine aq [(0, .go (owns 1 0 1))] [] [(2, .slice po m co)] ([]) (fun _ => by kernel_rfl) al0 ?_
   refine done_seq ?_
   refine at_backM 0 rfl ([]) (.slice po m co) [] (by kernel_rfl) (by kernel_rfl) al0 ?_
   refine oq 1 [] [0, 1] [(5, .slice po m co)] ([]) (fun _ => by kernel_rfl) al0 ?_
   refine ops_nil ?_
   refine done_seq ?_
   refine at_seq ?_
   have hOf := hO
   rw [such_all (j := j) (by omega)] at hOf
   have hlo := hOf.len
   have hls := such_len (isNum k) l
   refine at_ops ?_
   refine oq 6 [(4, .go (owns 3 0 1))] [0, 5] [(13, .pointer (some ⟨γ14 0, 0, none⟩)), (17, .slice q13 n cq13), (18, .func (.func 64) #[] #[.pointer (some ⟨γ1 1, 0, none⟩)])] ([]) (fun _ => by kernel_rfl) al0 ?_
   refine Ops.pick [[bx (γ24 0) (#[.slice po m co]) 28], [bx (γ20 1) (#[.func (.func 64) #[] #[.pointer (some ⟨γ1 1, 0, none⟩)]]) 73], [bx (γ20 0) (#[.slice q13 n cq13]) 24], [bx (γ14 0) (#[.slice q13 n cq13]) 24], [bx (γ3 1) (#[.slice none 0 0]) 24], [bx (γ3 0) (#[.slice p n cap]) 24], [bx (γ1 2) (#[.slice none 0 0]) 24], [bx (γ1 1) (#[.int .i64 k]) 3], [bx (γ1 0) (#[.slice p n cap]) 24], Yo, Y13] [0, 1, 2, 3, 4, 5, 6, 7, 8, 10, 9] [] (bx (γ24 0) (#[.slice po m co]) 28 :: bx (γ20 1) (#[.func (.func 64) #[] #[.pointer (some ⟨γ1 1, 0, none⟩)]]) 73 :: bx (γ20 0) (#[.slice q13 n cq13]) 24 :: bx (γ14 0) (#[.slice q13 n cq13]) 24 :: bx (γ3 1) (#[.slice none 0 0]) 24 :: bx (γ3 0) (#[.slice p n cap]) 24 :: bx (γ1 2) (#[.slice none 0 0]) 24 :: bx (γ1 1) (#[.int .i64 k]) 3 :: bx (γ1 0) (#[.slice p n cap]) 24 :: (Y13 ++ (Yo ++ []))) (by kernel_rfl) rfl rfl ?_
   refine ops_call (fun v L' => ∃ qz mz cz Yz, v = .slice qz mz cz ∧ L' = [bx (γ24 0) (#[.slice po m co]) 28, bx (γ20 1) (#[.func (.func 64) #[] #[.pointer (some ⟨γ1 1, 0, none⟩)]]) 73, bx (γ20 0) (#[.slice q13 n cq13]) 24, bx (γ14 0) (#[.slice q13 n cq13]) 24, bx (γ3 1) (#[.slice none 0 0]) 24, bx (γ3 0) (#[.slice p n cap]) 24, bx (γ1 2) (#[.slice none 0 0]) 24, bx (γ1 1) (#[.int .i64 k]) 3, bx (γ1 0) (#[.slice p n cap]) 24] ++ (Yz ++ (Yo ++ [])) ∧ SlO 40 Yz qz mz cz (l.filter fun x => !(isNum k) x)) (by kernel_rfl) (by kernel_rfl) (by kernel_rfl) (fun args w => Try.call77 args w) (fun w hw => (deletef_d _ ([bx (γ24 0) (#[.slice po m co]) 28, bx (γ20 1) (#[.func (.func 64) #[] #[.pointer (some ⟨γ1 1, 0, none⟩)]]) 73, bx (γ20 0) (#[.slice q13 n cq13]) 24, bx (γ14 0) (#[.slice q13 n cq13]) 24, bx (γ3 1) (#[.slice none 0 0]) 24, bx (γ3 0) (#[.slice p n cap]) 24, bx (γ1 2) (#[.slice none 0 0]) 24, bx (γ1 1) (#[.int .i64 k]) 3, bx (γ1 0) (#[.slice p n cap]) 24] ++ (Yo ++ [])) Y13 64 #[.pointer (some ⟨γ1 1, 0, none⟩)] (isNum k) q13 n cq13 l w (fun args w => Try.call64 args w) (hw.front (A := [bx (γ24 0) (#[.slice po m co]) 28, bx (γ20 1) (#[.func (.func 64) #[] #[.pointer (some ⟨γ1 1, 0, none⟩)]]) 73, bx (γ20 0) (#[.slice q13 n cq13]) 24, bx (γ14 0) (#[.slice q13 n cq13]) 24, bx (γ3 1) (#[.slice none 0 0]) 24, bx (γ3 0) (#[.slice p n cap]) 24, bx (γ1 2) (#[.slice none 0 0]) 24, bx (γ1 1) (#[.int .i64 k]) 3, bx (γ1 0) (#[.slice p n cap]) 24]) (Y := Y13) (R := (Yo ++ []))) hO13 (by omega) (fun x hx w' hX => isnum_d x (γ1 1) k w' (rd_one (hX.row 7 rfl)))).mono fun e w' ⟨qz, mz, cz, Yz, he, hO, hY⟩ => ⟨_, _, he, ⟨qz, mz, cz, Yz, rfl, rfl, hO⟩, hY.push⟩) ?_
   rintro v55 L55 ⟨q55, m55, cq55, Y55, rfl, rfl, hO55⟩
   have hml55 := hO55.len
   have hmf55 := List.length_filter_le (fun x => !(isNum k) x) l
   refine om 3 [(9, .go (owns 3 0 1))] [0, 5] (fun _ => []) (fun _ L => (L.set 3 (bx (γ14 0) (#[.slice q55 m55 cq55]) 24))) (fun _ => []) (fun _ => by kernel_rfl) (fun _ => al0) (fun _ => ?_)
   refine ops_nil ?_
   refine done_seq ?_
   refine at_seq ?_
   refine at_seq ?_
   refine aq [(3, .go (owns 3 0 1))] [0, 5] [(26, .int .i64 ((m55 : Nat))), (27, .int .i64 0)] ([]) (fun _ => by kernel_rfl) al0 ?_
   refine done_seq ?_
   refine at_block ?_
   refine at_loop (α := Nat × List Ob) [0, 5, 26, 27] (fun ⟨j3, Yp⟩ => [(0, .pointer (some ⟨γ14 0, 0, none⟩)), (5, .slice po m co), (26, .int .i64 ((m55 : Nat))), (27, .int .i64 ((j3 : Nat)))]) (fun ⟨j3, Yp⟩ => bx (γ24 0) (#[.slice po m co]) 28 :: bx (γ20 1) (#[.func (.func 64) #[] #[.pointer (some ⟨γ1 1, 0, none⟩)]]) 73 :: bx (γ20 0) (#[.slice q13 n cq13]) 24 :: bx (γ14 0) (#[.slice q55 m55 cq55]) 24 :: bx (γ3 1) (#[.slice none 0 0]) 24 :: bx (γ3 0) (#[.slice p n cap]) 24 :: bx (γ1 2) (#[.slice none 0 0]) 24 :: bx (γ1 1) (#[.int .i64 k]) 3 :: bx (γ1 0) (#[.slice p n cap]) 24 :: (Yp ++ (Yo ++ []))) (fun ⟨j3, Yp⟩ => j3 ≤ m55 ∧ SlO 40 Yp q55 m55 cq55 (mixV (unl (suchL (isNum k) l)) (l.filter fun x => !(isNum k) x) j3)) (fun ⟨j3, Yp⟩ => m55 - j3) (0, Y55) (by kernel_rfl) rfl ⟨Nat.zero_le _, by rw [mix_zero]; exact hO55⟩ ?_
   rintro ⟨j3, Yp⟩
   rintro ⟨hj3, hP⟩
   have hpl := hP.len
   rw [mix_len] at hpl
   refine at_seq ?_
   by_cases q59 : ((j3 : Nat) : Int) < ((m55 : Nat) : Int)
   ·
    refine aq [(0, .yes)] [0, 5, 26, 27] [(28, .bool true)] ([((j3 : Nat) : Int) < ((m55 : Nat) : Int)]) (fun _ => by kernel_rfl) (al1 q59) ?_
    refine done_seq ?_
    refine at_seq ?_
    refine at_true (by kernel_rfl) ?_
    refine at_skip ?_
    refine done_seq ?_
    refine at_seq ?_
    refine at_block ?_
    refine at_seq ?_
    refine aq [] [0, 5, 26, 27] [(6, .int .i64 ((j3 : Nat)))] ([]) (fun _ => by kernel_rfl) al0 ?_
    refine done_seq ?_
    refine at_seq ?_
    have hln63 := hP.len
    obtain ⟨g63, cs63, rfl, rfl, hOw63⟩ := hP.rowOf (i := j3) (by omega)
    obtain ⟨x65, hx65⟩ := get_some (l := (mixV (unl (suchL (isNum k) l)) (l.filter fun x => !(isNum k) x) j3)) (m := j3) (by omega)
    refine at_ops ?_
    refine oq 9 [(4, .go (owns 3 0 1)), (6, .at g63 0 j3), (8, .go (ownps 9 (0 + j3 * 5 + 2) [.int .i64 x65.peer]))] [0, 5, 6, 26, 27] [(30, .slice po m co), (38, .int .i64 x65.peer)] ([(some ⟨g63, 0, none⟩ : Option Addr) = some ⟨g63, 0, none⟩, ((j3 : Nat)) = ((j3 : Nat) : Int), j3 < m55] ++ (acellsP cs63 (0 + j3 * 5 + 2) [.int .i64 x65.peer])) (fun _ => by kernel_rfl) (alA (al2 rfl (al2 rfl (al1 (by omega)))) (rda_part ((hOw63.rdx hP.len hx65)) 2 _ rfl)) ?_
    rcases q67 : decide (x65.peer ∈ (suchL (isNum k) l)) with _ | _
    ·
     refine ops_callD (.bool false) (by kernel_rfl) (by kernel_rfl) (by kernel_rfl) (fun args w => Try.call27 args w) (fun w hw => by have := contains_d po m co ((suchL (isNum k) l)) x65.peer w (hOf.atN (A := [_, _, _, _, _, _, _, _, _, _]) hw) hOf.len (by omega); rw [q67] at this; exact this) ?_
     refine ops_nil ?_
     refine done_seq ?_
     refine at_false (by kernel_rfl) ?_
     refine at_skip ?_
     refine done_block ?_
     refine done_seq ?_
     refine aq [(0, .fit)] [0, 5, 26] [(27, .int .i64 ((j3 + 1 : Nat)))] ([Fit .i64 ((j3 + 1 : Nat))]) (fun _ => by kernel_rfl) (al1 (fit64 (by omega) (by omega))) ?_
     exact done_round [0, 5, 26, 27] (j3 + 1, [bx g63 cs63 40]) (by kernel_rfl) rfl ⟨by omega, by rw [← mix_same hx65 (show unl _ _ = _ from if_neg (of_decide_eq_false q67))]; exact hP⟩ (by first | omega | (simp only; omega))
    ·
     refine ops_callD (.bool true) (by kernel_rfl) (by kernel_rfl) (by kernel_rfl) (fun args w => Try.call27 args w) (fun w hw => by have := contains_d po m co ((suchL (isNum k) l)) x65.peer w (hOf.atN (A := [_, _, _, _, _, _, _, _, _, _]) hw) hOf.len (by omega); rw [q67] at this; exact this) ?_
     refine ops_nil ?_
     refine done_seq ?_
     refine at_true (by kernel_rfl) ?_
     refine am [(3, .go (owns 3 0 1)), (5, .at g63 0 j3), (7, .go (ownps 9 (0 + j3 * 5 + 2) [undef]))] [0, 5, 26, 27] (fun _ => []) (fun _ L => (L.set 9 (bx g63 ((cs63).setIfInBounds (0 + j3 * 5 + 2) (.int .i64 0)) 40))) (fun _ => [(some ⟨g63, 0, none⟩ : Option Addr) = some ⟨g63, 0, none⟩, ((j3 : Nat)) = ((j3 : Nat) : Int), j3 < m55] ++ ([0 + j3 * 5 + 2 < (cs63).size])) (fun _ => by kernel_rfl) (fun _ => (alA (al2 rfl (al2 rfl (al1 (by omega)))) (al1 (hOw63.room hP.len hx65 (f := 2) (by decide))))) (fun _ => ?_)
     refine done_block ?_
     refine done_seq ?_
     refine aq [(0, .fit)] [0, 5, 26] [(27, .int .i64 ((j3 + 1 : Nat)))] ([Fit .i64 ((j3 + 1 : Nat))]) (fun _ => by kernel_rfl) (al1 (fit64 (by omega) (by omega))) ?_
     exact done_round [0, 5, 26, 27] (j3 + 1, [bx g63 ((cs63).setIfInBounds (0 + j3 * 5 + 2) (.int .i64 0)) 40]) (by kernel_rfl) rfl ⟨by omega, by rw [← mix_put hx65 (show unl _ _ = _ from if_pos (of_decide_eq_true q67))]; exact (SlO.ofOwn (hOw63.put (x' := (⟨x65.num, x65.vcpu, 0, x65.pending, x65.masked⟩ : Port)) hP.len hx65 (f := 2) (by decide) rfl) (len_set hP.len))⟩ (by first | omega | (simp only; omega))
   ·
    refine aq [(0, .no)] [0, 5, 26, 27] [(28, .bool false)] ([¬ (((j3 : Nat) : Int) < ((m55 : Nat) : Int))]) (fun _ => by kernel_rfl) (al1 q59) ?_
    refine done_seq ?_
    refine at_seq ?_
    refine at_false (by kernel_rfl) ?_
    refine at_leave _ (by rfl) ?_
    refine done_seq ?_
    refine at_seq ?_
    have hPf := hP
    rw [mix_end (by omega)] at hPf
    refine aq [] [] [(4, .int .i64 ((m : Nat)))] ([]) (fun _ => by kernel_rfl) al0 ?_
    refine done_seq ?_
    refine at_back ([]) (.int .i64 ((m : Nat))) [] (by kernel_rfl) (by kernel_rfl) al0 ?_
    by_cases q76 : ((m : Nat) : Int) = (0 : Int)
    ·
     refine oq 1 [(3, .yes)] [] [(7, .bool true)] ([((m : Nat) : Int) = (0 : Int)]) (fun _ => by kernel_rfl) (al1 q76) ?_
     refine ops_nil ?_
     refine done_seq ?_
     refine at_true (by kernel_rfl) ?_
     refine at_seq ?_
     refine aq [] [] [(3, .int .i64 4)] ([]) (fun _ => by kernel_rfl) al0 ?_
     refine done_seq ?_
     refine at_back ([]) (.int .i64 4) [] (by kernel_rfl) (by kernel_rfl) al0 ?_
     refine oq 1 [] [4, 7] [(8, .int .i64 4)] ([]) (fun _ => by kernel_rfl) al0 ?_
     refine ops_nil ?_
     refine done_seq ?_
     refine at_seq ?_
     refine aq [] [4, 7, 8] [(22, .bool true)] ([]) (fun _ => by kernel_rfl) al0 ?_
     refine done_seq ?_
     refine at_true (by kernel_rfl) ?_
     refine at_seq ?_
     refine aq [(2, .go (owns 4 0 1))] [4] [(5, .int .i64 4)] ([]) (fun _ => by kernel_rfl) al0 ?_
     refine done_seq ?_
     refine at_back (owns 4 0 1) (.tuple #[.agg #[.slice none 0 0], .int .i64 4]) [] (by kernel_rfl) (by kernel_rfl) al0 ?_
     refine oq 4 [(5, .go (owns 6 0 1))] [4] [(5, .int .i64 4)] ([]) (fun _ => by kernel_rfl) al0 ?_
     refine ops_nil ?_
     refine done_seq ?_
     refine at_return (owns 6 0 1) (.tuple #[.agg #[.slice none 0 0], .int .i64 4]) [] (by kernel_rfl) (by kernel_rfl) al0 ?_
     exact fun w' hw => by rw [closeV_none q5 hlo q76]; exact ⟨none, 0, 0, [], rfl, SlO.nil, hw.below, hw.sub (List.nil_sublist _)⟩
    ·
     refine oq 1 [(3, .no)] [] [(7, .bool false)] ([¬ (((m : Nat) : Int) = (0 : Int))]) (fun _ => by kernel_rfl) (al1 q76) ?_
     refine ops_nil ?_
     refine done_seq ?_
     refine at_false (by kernel_rfl) ?_
     refine at_skip ?_
     refine done_seq ?_
     refine at_seq ?_
     refine aq [] [] [(3, .int .i64 0)] ([]) (fun _ => by kernel_rfl) al0 ?_
     refine done_seq ?_
     refine at_back ([]) (.int .i64 0) [] (by kernel_rfl) (by kernel_rfl) al0 ?_
     refine oq 1 [] [4, 7] [(8, .int .i64 0)] ([]) (fun _ => by kernel_rfl) al0 ?_
     refine ops_nil ?_
     refine done_seq ?_
     refine at_seq ?_
     refine aq [] [4, 7, 8] [(22, .bool false)] ([]) (fun _ => by kernel_rfl) al0 ?_
     refine done_seq ?_
     refine at_false (by kernel_rfl) ?_
     refine at_skip ?_
     refine done_seq ?_
     refine at_seq ?_
     refine am [(0, .go (owns 3 0 1)), (1, .go (owns 4 0 1))] [4] (fun _ => [(5, .int .i64 0)]) (fun _ L => (L.set 4 (bx (γ3 1) (#[.slice q55 m55 cq55]) 24))) (fun _ => []) (fun _ => by kernel_rfl) (fun _ => al0) (fun _ => ?_)
     refine done_seq ?_
     refine at_back (owns 4 0 1) (.tuple #[.agg #[.slice q55 m55 cq55], .int .i64 0]) [] (by kernel_rfl) (by kernel_rfl) al0 ?_
     refine om 4 [(5, .go (owns 6 0 1))] [4] (fun _ => [(5, .int .i64 0)]) (fun _ L => (L.set 6 (bx (γ1 2) (#[.slice q55 m55 cq55]) 24))) (fun _ => []) (fun _ => by kernel_rfl) (fun _ => al0) (fun _ => ?_)
     refine ops_nil ?_
     refine done_seq ?_
     refine at_return (owns 6 0 1) (.tuple #[.agg #[.slice q55 m55 cq55], .int .i64 0]) [] (by kernel_rfl) (by kernel_rfl) al0 ?_
     exact fun w' hw => by rw [closeV_ok q5 hlo q76]; exact ⟨_, _, _, _, rfl, hPf, hw.below, (hs_nil (Hs.pick [[bx (γ24 0) (#[.slice po m co]) 28], [bx (γ20 1) (#[.func (.func 64) #[] #[.pointer (some ⟨γ1 1, 0, none⟩)]]) 73], [bx (γ20 0) (#[.slice q13 n cq13]) 24], [bx (γ14 0) (#[.slice q55 m55 cq55]) 24], [bx (γ3 1) (#[.slice q55 m55 cq55]) 24], [bx (γ3 0) (#[.slice p n cap]) 24], [bx (γ1 2) (#[.slice q55 m55 cq55]) 24], [bx (γ1 1) (#[.int .i64 k]) 3], [bx (γ1 0) (#[.slice p n cap]) 24], Yp, Yo] [9] [0, 1, 2, 3, 4, 5, 6, 7, 8, 10] (by kernel_rfl) hw))⟩

set_option maxRecDepth 100000 in
theorem drop_d (p : Option Addr) (n cap : Nat) (l : List Port) (own : Int) (w : World)
 (hsl : Sv w p l) (hn : n = l.length) (hb : n ≤ 1000)
 : Calls Try.prog 43 #[.agg #[.slice p n cap], .int .i64 own] w fun e w' => ∃ q m capq Y, e = .returned (.tuple #[.agg #[.slice q m capq], .int .i64 (dropV l own).2.1, .int .i64 (dropV l own).2.2]) ∧ SlO 40 Y q m capq (dropV l own).1 ∧ Below w.heap.size w w' ∧ Hs w Y w' := by
 refine enter (Hs.start w) Try.func43 rfl Try.ntmps43 rfl ?_
 refine at_seq ?_
 refine am [] [] (fun γ1 => [(2, .pointer (some ⟨γ1 0, 0, none⟩)), (3, .pointer (some ⟨γ1 1, 0, none⟩)), (4, .pointer (some ⟨γ1 2, 0, none⟩))]) (fun γ1 L => bx (γ1 2) (#[.slice none 0 0]) 24 :: bx (γ1 1) (#[.int .i64 own]) 3 :: bx (γ1 0) (#[.slice p n cap]) 24 :: L) (fun γ1 => []) (fun _ => by kernel_rfl) (fun γ1 => al0) (fun γ1 => ?_)
 refine done_seq ?_
 refine at_seq ?_
 refine am [(1, .go (owns 0 0 1))] [2, 3, 4] (fun γ2 => [(7, .pointer (some ⟨γ2 0, 0, none⟩))]) (fun γ2 L => bx (γ2 0) (#[.int .i64 0]) 3 :: L) (fun γ2 => []) (fun _ => by kernel_rfl) (fun γ2 => al0) (fun γ2 => ?_)
 refine done_seq ?_
 refine at_seq ?_
 refine at_ops ?_
 refine oq 2 [(0, .go (owns 3 0 1))] [4, 7] [(11, .agg #[.slice p n cap]), (12, .func (.func 65) #[] #[.pointer (some ⟨γ1 1, 0, none⟩), .pointer (some ⟨γ2 0, 0, none⟩)])] ([]) (fun _ => by kernel_rfl) al0 ?_
 refine ops_inline (g := 54) (args := #[.agg #[.slice p n cap], .func (.func 65) #[] #[.pointer (some ⟨γ1 1, 0, none⟩), .pointer (some ⟨γ2 0, 0, none⟩)]]) (by kernel_rfl) (by kernel_rfl) (by kernel_rfl) (fun args w => Try.call54 args w) Try.func54 rfl Try.ntmps54 rfl ?_
 refine at_seq ?_
 refine am [] [1] (fun γ4 => [(2, .pointer (some ⟨γ4 0, 0, none⟩)), (4, .pointer (some ⟨γ4 1, 0, none⟩))]) (fun γ4 L => bx (γ4 1) (#[.slice none 0 0]) 24 :: bx (γ4 0) (#[.slice p n cap]) 24 :: L) (fun γ4 => []) (fun _ => by kernel_rfl) (fun γ4 => al0) (fun γ4 => ?_)
 refine done_seq ?_
 refine at_seq ?_
 refine at_seq ?_
 refine at_ops ?_
 refine oq 1 [(0, .go (owns 1 0 1))] [1, 2, 4] [(9, .agg #[.slice p n cap])] ([]) (fun _ => by kernel_rfl) al0 ?_
 rcases q6 : rightB l with _ | _
 ·
  refine ops_callD (.int .i64 260) (by kernel_rfl) (by kernel_rfl) (by kernel_rfl) (fun args w => Try.call16 args w) (fun w hw => by have := check_d p n cap l w (hsl.kept hw.below) hn hb; rw [q6] at this; exact this) ?_
  refine oq 1 [] [1, 2, 4] [(6, .int .i64 260)] ([]) (fun _ => by kernel_rfl) al0 ?_
  refine ops_nil ?_
  refine done_seq ?_
  refine at_seq ?_
  refine aq [] [1, 2, 4, 6] [(12, .bool true)] ([]) (fun _ => by kernel_rfl) al0 ?_
  refine done_seq ?_
  refine at_true (by kernel_rfl) ?_
  refine at_seq ?_
  refine aq [(2, .go (owns 0 0 1))] [4] [(5, .int .i64 260)] ([]) (fun _ => by kernel_rfl) al0 ?_
  refine done_seq ?_
  refine at_back (owns 0 0 1) (.tuple #[.agg #[.slice none 0 0], .int .i64 260]) [] (by kernel_rfl) (by kernel_rfl) al0 ?_
  refine om 6 [(7, .go (owns 0 0 1))] [4, 7] (fun γ10 => [(8, .pointer (some ⟨γ10 0, 0, none⟩)), (9, .int .i64 260)]) (fun γ10 L => bx (γ10 0) (#[.slice none 0 0]) 24 :: L) (fun γ10 => []) (fun _ => by kernel_rfl) (fun γ10 => al0) (fun γ10 => ?_)
  refine ops_nil ?_
  refine done_seq ?_
  refine at_seq ?_
  refine at_any (by kernel_rfl) ?_
  refine any_tk (f := 5) [2] [] [4, 7, 8] [(18, .int .i64 260)] ([]) #[false, false, true, false, false, false] (by kernel_rfl) (by kernel_rfl) al0 ?_
  refine any_cut 0 #[true, true, true, true, true, true] ([(4, .pointer (some ⟨γ1 2, 0, none⟩)), (5, .int .i64 0), (6, .int .i64 260)]) ([bx (γ10 0) (#[.slice none 0 0]) 24, bx (γ4 1) (#[.slice none 0 0]) 24, bx (γ4 0) (#[.slice p n cap]) 24, bx (γ2 0) (#[.int .i64 0]) 3, bx (γ1 2) (#[.slice none 0 0]) 24, bx (γ1 1) (#[.int .i64 own]) 3, bx (γ1 0) (#[.slice p n cap]) 24]) ?_ (fun hm => ?_)
  rotate_left
  ·
   refine any_fork [0, 1] (by kernel_rfl) (by simp) (each_cons _ rfl ?_ (each_cons _ rfl ?_ (each_nil)))
   ·
    refine oq 1 [(0, .go (owns 0 0 1))] [4, 7, 18] [(16, .agg #[.slice none 0 0])] ([]) (fun _ => by kernel_rfl) al0 ?_
    refine ops_nil ?_
    refine done_any ?_
    refine any_fork [1, 3] (by kernel_rfl) (by simp) (each_cons _ rfl ?_ (each_cons _ rfl ?_ (each_nil)))
    ·
     refine oq 1 [(1, .go (owns 3 0 1))] [4, 16, 18] [(17, .int .i64 0)] ([]) (fun _ => by kernel_rfl) al0 ?_
     refine ops_nil ?_
     refine done_any ?_
     refine any_one 3 _ (by kernel_rfl) rfl ?_
     refine oq 1 [(3, .go (owns 4 0 1))] [4, 17, 18] [] ([]) (fun _ => by kernel_rfl) al0 ?_
     refine ops_nil ?_
     refine done_any ?_
     refine any_tk (f := 0) [4, 5] [] [4] [(5, .int .i64 0), (6, .int .i64 260)] ([]) #[true, true, true, true, true, true] (by kernel_rfl) (by kernel_rfl) al0 ?_
     exact any_weak hm [4, 5, 6] (by kernel_rfl) rfl rfl rfl
    ·
     refine oq 1 [(3, .go (owns 4 0 1))] [4, 7, 18] [] ([]) (fun _ => by kernel_rfl) al0 ?_
     refine ops_nil ?_
     refine done_any ?_
     refine any_one 1 _ (by kernel_rfl) rfl ?_
     refine oq 1 [(1, .go (owns 3 0 1))] [4, 18] [(17, .int .i64 0)] ([]) (fun _ => by kernel_rfl) al0 ?_
     refine ops_nil ?_
     refine done_any ?_
     refine any_tk (f := 0) [4, 5] [] [4] [(5, .int .i64 0), (6, .int .i64 260)] ([]) #[true, true, true, true, true, true] (by kernel_rfl) (by kernel_rfl) al0 ?_
     exact any_weak hm [4, 5, 6] (by kernel_rfl) rfl rfl rfl
   ·
    refine oq 1 [(1, .go (owns 3 0 1))] [4, 8, 18] [(17, .int .i64 0)] ([]) (fun _ => by kernel_rfl) al0 ?_
    refine ops_nil ?_
    refine done_any ?_
    refine any_one 0 _ (by kernel_rfl) rfl ?_
    refine oq 1 [(0, .go (owns 0 0 1))] [4, 17, 18] [(16, .agg #[.slice none 0 0])] ([]) (fun _ => by kernel_rfl) al0 ?_
    refine ops_nil ?_
    refine done_any ?_
    refine any_one 3 _ (by kernel_rfl) rfl ?_
    refine oq 1 [(3, .go (owns 4 0 1))] [4, 17, 18] [] ([]) (fun _ => by kernel_rfl) al0 ?_
    refine ops_nil ?_
    refine done_any ?_
    refine any_tk (f := 0) [4, 5] [] [4] [(5, .int .i64 0), (6, .int .i64 260)] ([]) #[true, true, true, true, true, true] (by kernel_rfl) (by kernel_rfl) al0 ?_
    exact any_weak hm [4, 5, 6] (by kernel_rfl) rfl rfl rfl
  refine any_nil (by kernel_rfl) ?_
  refine done_seq ?_
  refine at_return (owns 4 0 1) (.tuple #[.agg #[.slice none 0 0], .int .i64 0, .int .i64 260]) [] (by kernel_rfl) (by kernel_rfl) al0 ?_
  exact fun w' hw => by rw [dropV_bad q6]; exact ⟨none, 0, 0, [], rfl, SlO.nil, hw.below, hw.sub (List.nil_sublist _)⟩
 ·
  refine ops_callD (.int .i64 0) (by kernel_rfl) (by kernel_rfl) (by kernel_rfl) (fun args w => Try.call16 args w) (fun w hw => by have := check_d p n cap l w (hsl.kept hw.below) hn hb; rw [q6] at this; exact this) ?_
  refine oq 1 [] [1, 2, 4] [(6, .int .i64 0)] ([]) (fun _ => by kernel_rfl) al0 ?_
  refine ops_nil ?_
  refine done_seq ?_
  refine at_seq ?_
  refine aq [] [1, 2, 4, 6] [(12, .bool false)] ([]) (fun _ => by kernel_rfl) al0 ?_
  refine done_seq ?_
  refine at_false (by kernel_rfl) ?_
  refine at_skip ?_
  refine done_seq ?_
  refine at_seq ?_
  refine at_ops ?_
  refine oq 2 [(1, .go (owns 1 0 1))] [1, 4] [(16, .slice p n cap)] ([]) (fun _ => by kernel_rfl) al0 ?_
  refine ops_call (fun v L' => ∃ q capq Y, v = .slice q n capq ∧ L' = List.take 6 ([bx (γ4 1) (#[.slice none 0 0]) 24, bx (γ4 0) (#[.slice p n cap]) 24, bx (γ2 0) (#[.int .i64 0]) 3, bx (γ1 2) (#[.slice none 0 0]) 24, bx (γ1 1) (#[.int .i64 own]) 3, bx (γ1 0) (#[.slice p n cap]) 24]) ++ (Y ++ List.drop 6 ([bx (γ4 1) (#[.slice none 0 0]) 24, bx (γ4 0) (#[.slice p n cap]) 24, bx (γ2 0) (#[.int .i64 0]) 3, bx (γ1 2) (#[.slice none 0 0]) 24, bx (γ1 1) (#[.int .i64 own]) 3, bx (γ1 0) (#[.slice p n cap]) 24])) ∧ SlO 40 Y q n capq l) (by kernel_rfl) (by kernel_rfl) (by kernel_rfl) (fun args w => Try.call72 args w) (fun w hw => (clone_d p n cap l w (hsl.kept hw.below) hn (by omega)).mono fun e w' ⟨q, capq, Y, he, hO, hb, hY⟩ => ⟨_, _, he, ⟨q, capq, Y, rfl, rfl, hO⟩, hw.join hb hY 6⟩) ?_
  rintro v31 L31 ⟨q31, cq31, Y31, rfl, rfl, hO31⟩
  refine om 3 [(5, .go (owns 0 0 1))] [1, 4] (fun γ32 => [(7, .pointer (some ⟨γ32 0, 0, none⟩))]) (fun γ32 L => bx (γ32 0) (#[.slice q31 n cq31]) 24 :: L) (fun γ32 => []) (fun _ => by kernel_rfl) (fun γ32 => al0) (fun γ32 => ?_)
  refine ops_nil ?_
  refine done_seq ?_
  refine at_seq ?_
  refine at_seq ?_
  refine at_ops ?_
  refine oq 1 [] [4, 7] [(19, .func (.func 65) #[] #[.pointer (some ⟨γ1 1, 0, none⟩), .pointer (some ⟨γ2 0, 0, none⟩)])] ([]) (fun _ => by kernel_rfl) al0 ?_
  refine ops_inline (g := 65) (args := #[.pointer (some ⟨γ32 0, 0, none⟩), .pointer (some ⟨γ1 1, 0, none⟩), .pointer (some ⟨γ2 0, 0, none⟩)]) (by kernel_rfl) (by kernel_rfl) (by kernel_rfl) (fun args w => Try.call65 args w) Try.func65 rfl Try.ntmps65 rfl ?_
  refine at_seq ?_
  refine aq [] [0, 1, 2] [] ([]) (fun _ => by kernel_rfl) al0 ?_
  refine done_seq ?_
  refine at_seq ?_
  refine at_seq ?_
  refine at_ops ?_
  refine oq 1 [(0, .go (owns 5 0 1))] [0, 1, 2] [(5, .int .i64 own)] ([]) (fun _ => by kernel_rfl) al0 ?_
  rcases q36 : vcpuB own with _ | _
  ·
   refine ops_callD (.bool false) (by kernel_rfl) (by kernel_rfl) (by kernel_rfl) (fun args w => Try.call31 args w) (fun w hw => by have := vcpu_d own w; rw [q36] at this; exact this) ?_
   refine oq 1 [] [0, 1, 2] [(7, .bool true)] ([]) (fun _ => by kernel_rfl) al0 ?_
   refine ops_nil ?_
   refine done_seq ?_
   refine at_true (by kernel_rfl) ?_
   refine at_seq ?_
   refine aq [] [] [(4, .int .i64 2)] ([]) (fun _ => by kernel_rfl) al0 ?_
   refine done_seq ?_
   refine at_back ([]) (.int .i64 2) [] (by kernel_rfl) (by kernel_rfl) al0 ?_
   refine oq 1 [] [4, 7] [(8, .int .i64 2)] ([]) (fun _ => by kernel_rfl) al0 ?_
   refine ops_nil ?_
   refine done_seq ?_
   refine at_seq ?_
   refine aq [] [4, 7, 8] [(22, .bool true)] ([]) (fun _ => by kernel_rfl) al0 ?_
   refine done_seq ?_
   refine at_true (by kernel_rfl) ?_
   refine at_seq ?_
   refine aq [(2, .go (owns 1 0 1))] [4] [(5, .int .i64 2)] ([]) (fun _ => by kernel_rfl) al0 ?_
   refine done_seq ?_
   refine at_back (owns 1 0 1) (.tuple #[.agg #[.slice none 0 0], .int .i64 2]) [] (by kernel_rfl) (by kernel_rfl) al0 ?_
   refine om 6 [(7, .go (owns 0 0 1))] [4, 7] (fun γ42 => [(8, .pointer (some ⟨γ42 0, 0, none⟩)), (9, .int .i64 2)]) (fun γ42 L => bx (γ42 0) (#[.slice none 0 0]) 24 :: L) (fun γ42 => []) (fun _ => by kernel_rfl) (fun γ42 => al0) (fun γ42 => ?_)
   refine ops_nil ?_
   refine done_seq ?_
   refine at_seq ?_
   refine at_any (by kernel_rfl) ?_
   refine any_tk (f := 5) [2] [] [4, 7, 8] [(18, .int .i64 2)] ([]) #[false, false, true, false, false, false] (by kernel_rfl) (by kernel_rfl) al0 ?_
   refine any_cut 0 #[true, true, true, true, true, true] ([(4, .pointer (some ⟨γ1 2, 0, none⟩)), (5, .int .i64 0), (6, .int .i64 2)]) (bx (γ42 0) (#[.slice none 0 0]) 24 :: bx (γ32 0) (#[.slice q31 n cq31]) 24 :: bx (γ4 1) (#[.slice none 0 0]) 24 :: bx (γ4 0) (#[.slice p n cap]) 24 :: bx (γ2 0) (#[.int .i64 0]) 3 :: bx (γ1 2) (#[.slice none 0 0]) 24 :: bx (γ1 1) (#[.int .i64 own]) 3 :: bx (γ1 0) (#[.slice p n cap]) 24 :: (Y31 ++ [])) ?_ (fun hm => ?_)
   rotate_left
   ·
    refine any_fork [0, 1] (by kernel_rfl) (by simp) (each_cons _ rfl ?_ (each_cons _ rfl ?_ (each_nil)))
    ·
     refine oq 1 [(0, .go (owns 0 0 1))] [4, 7, 18] [(16, .agg #[.slice none 0 0])] ([]) (fun _ => by kernel_rfl) al0 ?_
     refine ops_nil ?_
     refine done_any ?_
     refine any_fork [1, 3] (by kernel_rfl) (by simp) (each_cons _ rfl ?_ (each_cons _ rfl ?_ (each_nil)))
     ·
      refine oq 1 [(1, .go (owns 4 0 1))] [4, 16, 18] [(17, .int .i64 0)] ([]) (fun _ => by kernel_rfl) al0 ?_
      refine ops_nil ?_
      refine done_any ?_
      refine any_one 3 _ (by kernel_rfl) rfl ?_
      refine oq 1 [(3, .go (owns 5 0 1))] [4, 17, 18] [] ([]) (fun _ => by kernel_rfl) al0 ?_
      refine ops_nil ?_
      refine done_any ?_
      refine any_tk (f := 0) [4, 5] [] [4] [(5, .int .i64 0), (6, .int .i64 2)] ([]) #[true, true, true, true, true, true] (by kernel_rfl) (by kernel_rfl) al0 ?_
      exact any_weak hm [4, 5, 6] (by kernel_rfl) rfl rfl rfl
     ·
      refine oq 1 [(3, .go (owns 5 0 1))] [4, 7, 18] [] ([]) (fun _ => by kernel_rfl) al0 ?_
      refine ops_nil ?_
      refine done_any ?_
      refine any_one 1 _ (by kernel_rfl) rfl ?_
      refine oq 1 [(1, .go (owns 4 0 1))] [4, 18] [(17, .int .i64 0)] ([]) (fun _ => by kernel_rfl) al0 ?_
      refine ops_nil ?_
      refine done_any ?_
      refine any_tk (f := 0) [4, 5] [] [4] [(5, .int .i64 0), (6, .int .i64 2)] ([]) #[true, true, true, true, true, true] (by kernel_rfl) (by kernel_rfl) al0 ?_
      exact any_weak hm [4, 5, 6] (by kernel_rfl) rfl rfl rfl
    ·
     refine oq 1 [(1, .go (owns 4 0 1))] [4, 8, 18] [(17, .int .i64 0)] ([]) (fun _ => by kernel_rfl) al0 ?_
     refine ops_nil ?_
     refine done_any ?_
     refine any_one 0 _ (by kernel_rfl) rfl ?_
     refine oq 1 [(0, .go (owns 0 0 1))] [4, 17, 18] [(16, .agg #[.slice none 0 0])] ([]) (fun _ => by kernel_rfl) al0 ?_
     refine ops_nil ?_
     refine done_any ?_
     refine any_one 3 _ (by kernel_rfl) rfl ?_
     refine oq 1 [(3, .go (owns 5 0 1))] [4, 17, 18] [] ([]) (fun _ => by kernel_rfl) al0 ?_
     refine ops_nil ?_
     refine done_any ?_
     refine any_tk (f := 0) [4, 5] [] [4] [(5, .int .i64 0), (6, .int .i64 2)] ([]) #[true, true, true, true, true, true] (by kernel_rfl) (by kernel_rfl) al0 ?_
     exact any_weak hm [4, 5, 6] (by kernel_rfl) rfl rfl rfl
   refine any_nil (by kernel_rfl) ?_
   refine done_seq ?_
   refine at_return (owns 5 0 1) (.tuple #[.agg #[.slice none 0 0], .int .i64 0, .int .i64 2]) [] (by kernel_rfl) (by kernel_rfl) al0 ?_
   exact fun w' hw => by rw [dropV_arg q6 q36]; exact ⟨none, 0, 0, [], rfl, SlO.nil, hw.below, hw.sub (List.nil_sublist _)⟩
  ·
   refine ops_callD (.bool true) (by kernel_rfl) (by kernel_rfl) (by kernel_rfl) (fun args w => Try.call31 args w) (fun w hw => by have := vcpu_d own w; rw [q36] at this; exact this) ?_
   refine oq 1 [] [0, 1, 2] [(7, .bool false)] ([]) (fun _ => by kernel_rfl) al0 ?_
   refine ops_nil ?_
   refine done_seq ?_
   refine at_false (by kernel_rfl) ?_
   refine at_skip ?_
   refine done_seq ?_
   refine at_seq ?_
   refine at_ops ?_
   refine oq 2 [] [2] [(8, .pointer (some ⟨γ32 0, 0, none⟩)), (9, .func (.func 66) #[] #[.pointer (some ⟨γ1 1, 0, none⟩)])] ([]) (fun _ => by kernel_rfl) al0 ?_
   refine ops_inline (g := 63) (args := #[.pointer (some ⟨γ32 0, 0, none⟩), .func (.func 66) #[] #[.pointer (some ⟨γ1 1, 0, none⟩)]]) (by kernel_rfl) (by kernel_rfl) (by kernel_rfl) (fun args w => Try.call63 args w) Try.func63 rfl Try.ntmps63 rfl ?_
   refine at_seq ?_
   refine aq [] [0, 1] [] ([]) (fun _ => by kernel_rfl) al0 ?_
   refine done_seq ?_
   refine at_seq ?_
   refine at_ops ?_
   refine oq 4 [(2, .go (owns 0 0 1))] [0, 1] [(9, .agg #[.slice q31 n cq31]), (10, .func (.func 66) #[] #[.pointer (some ⟨γ1 1, 0, none⟩)])] ([]) (fun _ => by kernel_rfl) al0 ?_
   refine ops_inline (g := 37) (args := #[.agg #[.slice q31 n cq31], .func (.func 66) #[] #[.pointer (some ⟨γ1 1, 0, none⟩)]]) (by kernel_rfl) (by kernel_rfl) (by kernel_rfl) (fun args w => Try.call37 args w) Try.func37 rfl Try.ntmps37 rfl ?_
   refine at_seq ?_
   refine am [] [] (fun γ64 => [(2, .pointer (some ⟨γ64 0, 0, none⟩)), (3, .pointer (some ⟨γ64 1, 0, none⟩))]) (fun γ64 L => bx (γ64 1) (#[.func (.func 66) #[] #[.pointer (some ⟨γ1 1, 0, none⟩)]]) 73 :: bx (γ64 0) (#[.slice q31 n cq31]) 24 :: L) (fun γ64 => []) (fun _ => by kernel_rfl) (fun γ64 => al0) (fun γ64 => ?_)
   refine done_seq ?_
   refine at_seq ?_
   refine aq [] [] [(4, .func (.func 60) #[] #[.pointer (some ⟨γ64 0, 0, none⟩), .pointer (some ⟨γ64 1, 0, none⟩)])] ([]) (fun _ => by kernel_rfl) al0 ?_
   refine done_seq ?_
   refine at_back ([]) (.func (.func 60) #[] #[.pointer (some ⟨γ64 0, 0, none⟩), .pointer (some ⟨γ64 1, 0, none⟩)]) [] (by kernel_rfl) (by kernel_rfl) al0 ?_
   refine ops_inlineM (g := 36) (args := #[.func (.func 60) #[] #[.pointer (some ⟨γ64 0, 0, none⟩), .pointer (some ⟨γ64 1, 0, none⟩)]]) (by kernel_rfl) (by kernel_rfl) (by kernel_rfl) (fun args w => Try.call36 args w) Try.func36 rfl Try.ntmps36 rfl ?_
   refine at_seq ?_
   refine aq [] [0] [] ([]) (fun _ => by kernel_rfl) al0 ?_
   refine done_seq ?_
   refine at_seq ?_
   refine am [] [0] (fun γ68 => [(3, .pointer (some ⟨γ68 0, 0, none⟩))]) (fun γ68 L => bx (γ68 0) (#[.slice none 0 0]) 28 :: L) (fun γ68 => []) (fun _ => by kernel_rfl) (fun γ68 => al0) (fun γ68 => ?_)
   refine done_seq ?_
   refine at_seq ?_
   refine at_seq ?_
   refine aq [] [3] [(5, .func (.func 60) #[] #[.pointer (some ⟨γ64 0, 0, none⟩), .pointer (some ⟨γ64 1, 0, none⟩)])] ([]) (fun _ => by kernel_rfl) al0 ?_
   refine done_seq ?_
   refine at_block ?_
   refine at_range (gf := 60) (lb := #[.pointer (some ⟨γ64 0, 0, none⟩), .pointer (some ⟨γ64 1, 0, none⟩)]) (by kernel_rfl) (fun args w => Try.call60 args w) Try.func60 rfl Try.ntmps60 (by kernel_rfl) (fun γ70 r70 hr70 => ?_)
   refine at_seq ?_
   refine aq [(1, .go (owns 4 0 1))] [0, 2] [(7, .slice q31 n cq31), (8, .int .i64 ((n : Nat))), (9, .int .i64 0)] ([]) (fun _ => by kernel_rfl) al0 ?_
   refine done_seq ?_
   refine at_block ?_
   refine at_loop (α := Nat × List Ob × Option Addr × Nat × Nat) [0, 2, 7, 8, 9] (fun ⟨j, Yo, po, m, co⟩ => [(0, .func (.yield (γ70 1)) #[] #[]), (2, .pointer (some ⟨γ64 1, 0, none⟩)), (7, .slice q31 n cq31), (8, .int .i64 ((n : Nat))), (9, .int .i64 ((j : Nat)))]) (fun ⟨j, Yo, po, m, co⟩ => (γ70 1, .loop r70) :: (γ70 0, .deferred (some [])) :: bx (γ68 0) (#[.slice po m co]) 28 :: bx (γ64 1) (#[.func (.func 66) #[] #[.pointer (some ⟨γ1 1, 0, none⟩)]]) 73 :: bx (γ64 0) (#[.slice q31 n cq31]) 24 :: bx (γ32 0) (#[.slice q31 n cq31]) 24 :: bx (γ4 1) (#[.slice none 0 0]) 24 :: bx (γ4 0) (#[.slice p n cap]) 24 :: bx (γ2 0) (#[.int .i64 0]) 3 :: bx (γ1 2) (#[.slice none 0 0]) 24 :: bx (γ1 1) (#[.int .i64 own]) 3 :: bx (γ1 0) (#[.slice p n cap]) 24 :: (Yo ++ (Y31 ++ []))) (fun ⟨j, Yo, po, m, co⟩ => j ≤ n ∧ m ≤ j ∧ SlO 3 Yo po m co (suchL (isOwn own) (l.take j))) (fun ⟨j, Yo, po, m, co⟩ => n - j) (0, [], none, 0, 0) (by kernel_rfl) rfl ⟨Nat.zero_le _, Nat.le_refl _, by rw [List.take_zero]; exact SlO.nil⟩ ?_
   rintro ⟨j, Yo, po, m, co⟩
   rintro ⟨hj, hm, hO⟩
   refine at_seq ?_
   by_cases q73 : ((j : Nat) : Int) < ((n : Nat) : Int)
   ·
    refine aq [(0, .yes)] [0, 2, 7, 8, 9] [(10, .bool true)] ([((j : Nat) : Int) < ((n : Nat) : Int)]) (fun _ => by kernel_rfl) (al1 q73) ?_
    refine done_seq ?_
    refine at_seq ?_
    refine at_true (by kernel_rfl) ?_
    refine at_skip ?_
    refine done_seq ?_
    refine at_seq ?_
    refine at_block ?_
    refine at_seq ?_
    refine At.pick [[(γ70 1, .loop r70)], [(γ70 0, .deferred (some []))], [bx (γ68 0) (#[.slice po m co]) 28], [bx (γ64 1) (#[.func (.func 66) #[] #[.pointer (some ⟨γ1 1, 0, none⟩)]]) 73], [bx (γ64 0) (#[.slice q31 n cq31]) 24], [bx (γ32 0) (#[.slice q31 n cq31]) 24], [bx (γ4 1) (#[.slice none 0 0]) 24], [bx (γ4 0) (#[.slice p n cap]) 24], [bx (γ2 0) (#[.int .i64 0]) 3], [bx (γ1 2) (#[.slice none 0 0]) 24], [bx (γ1 1) (#[.int .i64 own]) 3], [bx (γ1 0) (#[.slice p n cap]) 24], Yo, Y31] [0, 1, 2, 3, 4, 5, 6, 7, 8, 9, 10, 11, 13, 12] [] ((γ70 1, .loop r70) :: (γ70 0, .deferred (some [])) :: bx (γ68 0) (#[.slice po m co]) 28 :: bx (γ64 1) (#[.func (.func 66) #[] #[.pointer (some ⟨γ1 1, 0, none⟩)]]) 73 :: bx (γ64 0) (#[.slice q31 n cq31]) 24 :: bx (γ32 0) (#[.slice q31 n cq31]) 24 :: bx (γ4 1) (#[.slice none 0 0]) 24 :: bx (γ4 0) (#[.slice p n cap]) 24 :: bx (γ2 0) (#[.int .i64 0]) 3 :: bx (γ1 2) (#[.slice none 0 0]) 24 :: bx (γ1 1) (#[.int .i64 own]) 3 :: bx (γ1 0) (#[.slice p n cap]) 24 :: (Y31 ++ (Yo ++ []))) (by kernel_rfl) rfl rfl ?_
    have hln76 := hO31.len
    obtain ⟨g76, cs76, rfl, rfl, hOw76⟩ := hO31.rowOf (i := j) (by omega)
    obtain ⟨x78, hx78⟩ := get_some (l := l) (m := j) (by omega)
    refine am [(0, .at g76 0 j), (1, .go (ownps 12 (0 + j * 5) [.int .i64 x78.num, .int .i64 x78.vcpu, .int .i64 x78.peer, .bool x78.pending, .bool x78.masked])), (3, .go (owns 0 0 5))] [0, 2, 7, 8, 9] (fun γ79 => [(5, .pointer (some ⟨γ79 0, 0, none⟩))]) (fun γ79 L => bx (γ79 0) (#[.int .i64 x78.num, .int .i64 x78.vcpu, .int .i64 x78.peer, .bool x78.pending, .bool x78.masked]) 40 :: L) (fun γ79 => [(some ⟨g76, 0, none⟩ : Option Addr) = some ⟨g76, 0, none⟩, ((j : Nat)) = ((j : Nat) : Int), j < n] ++ (acellsP cs76 (0 + j * 5) [.int .i64 x78.num, .int .i64 x78.vcpu, .int .i64 x78.peer, .bool x78.pending, .bool x78.masked])) (fun _ => by kernel_rfl) (fun γ79 => (alA (al2 rfl (al2 rfl (al1 (by omega)))) (rda_pre ((hOw76.rdx hO31.len hx78)) _ rfl))) (fun γ79 => ?_)
    refine done_seq ?_
    refine at_seq ?_
    refine at_ops ?_
    refine oq 2 [(0, .go (owns 4 0 1)), (1, .go (owns 0 0 5))] [0, 2, 5, 7, 8, 9] [(13, .func (.func 66) #[] #[.pointer (some ⟨γ1 1, 0, none⟩)]), (14, .agg #[.int .i64 x78.num, .int .i64 x78.vcpu, .int .i64 x78.peer, .bool x78.pending, .bool x78.masked])] ([]) (fun _ => by kernel_rfl) al0 ?_
    refine ops_inline (g := 66) (args := #[.agg #[.int .i64 x78.num, .int .i64 x78.vcpu, .int .i64 x78.peer, .bool x78.pending, .bool x78.masked], .pointer (some ⟨γ1 1, 0, none⟩)]) (by kernel_rfl) (by kernel_rfl) (by kernel_rfl) (fun args w => Try.call66 args w) Try.func66 rfl Try.ntmps66 rfl ?_
    refine at_seq ?_
    refine am [] [1] (fun γ81 => [(2, .pointer (some ⟨γ81 0, 0, none⟩))]) (fun γ81 L => bx (γ81 0) (#[.int .i64 x78.num, .int .i64 x78.vcpu, .int .i64 x78.peer, .bool x78.pending, .bool x78.masked]) 40 :: L) (fun γ81 => []) (fun _ => by kernel_rfl) (fun γ81 => al0) (fun γ81 => ?_)
    refine done_seq ?_
    refine at_seq ?_
    by_cases q83 : (x78.vcpu : Int) = (own : Int)
    ·
     refine aq [(1, .go (owns 0 1 1)), (2, .go (owns 12 0 1)), (3, .yes)] [] [(3, .bool true)] ([(x78.vcpu : Int) = (own : Int)]) (fun _ => by kernel_rfl) (al1 q83) ?_
     refine done_seq ?_
     refine at_back ([]) (.bool true) [] (by kernel_rfl) (by kernel_rfl) al0 ?_
     refine oq 4 [(6, .go (owns 1 0 1))] [0, 2, 7, 8, 9] [(16, .bool true), (17, .func (.yield (γ70 1)) #[] #[]), (19, .int .i64 x78.num)] ([]) (fun _ => by kernel_rfl) al0 ?_
     refine ops_yield (args := #[.int .i64 x78.num]) (by kernel_rfl) (by kernel_rfl) (by kernel_rfl) 2 rfl hr70 rfl (by kernel_rfl) ?_
     refine aq [] [3] [(4, .int .i64 x78.num)] ([]) (fun _ => by kernel_rfl) al0 ?_
     refine done_asg 2 rfl ?_
     refine at_block ?_
     refine at_ops ?_
     refine om 3 [(0, .go (owns 4 0 1))] [3] (fun γ87 => [(7, .slice po m co), (9, .slice (some ⟨γ87 0, 0, none⟩) 1 1)]) (fun γ87 L => bx (γ87 0) (#[.int .i64 x78.num]) 3 :: L) (fun γ87 => []) (fun _ => by kernel_rfl) (fun γ87 => al0) (fun γ87 => ?_)
     refine ops_append (α := Int) [bx (γ87 0) (#[.int .i64 x78.num]) 3, bx (γ81 0) (#[.int .i64 x78.num, .int .i64 x78.vcpu, .int .i64 x78.peer, .bool x78.pending, .bool x78.masked]) 40, bx (γ79 0) (#[.int .i64 x78.num, .int .i64 x78.vcpu, .int .i64 x78.peer, .bool x78.pending, .bool x78.masked]) 40, (γ70 1, .loop { r70 with state := .busy }), (γ70 0, .deferred (some [])), bx (γ68 0) (#[.slice po m co]) 28, bx (γ64 1) (#[.func (.func 66) #[] #[.pointer (some ⟨γ1 1, 0, none⟩)]]) 73, bx (γ64 0) (#[.slice (some ⟨g76, 0, none⟩) n cq31]) 24, bx (γ32 0) (#[.slice (some ⟨g76, 0, none⟩) n cq31]) 24, bx (γ4 1) (#[.slice none 0 0]) 24, bx (γ4 0) (#[.slice p n cap]) 24, bx (γ2 0) (#[.int .i64 0]) 3, bx (γ1 2) (#[.slice none 0 0]) 24, bx (γ1 1) (#[.int .i64 own]) 3, bx (γ1 0) (#[.slice p n cap]) 24, bx g76 cs76 40] Yo ([]) (.refl _) rfl (by kernel_rfl) (by kernel_rfl) (p := po) (n := m) (cap := co) (m := 1) (yv := .slice (some ⟨γ87 0, 0, none⟩) 1 1) (by kernel_rfl) (by kernel_rfl) (T := 3) (by_ := 8) (by kernel_rfl) ((suchL (isOwn own) (l.take j))) ([x78.num]) hO (fun w hw => src_svn Try.underlying28 (sv_row (hw.row 0 rfl) (by rfl)) (by rfl)) (by rfl) (by have hmx : maxLen = 9223372036854775807 := rfl; omega) (by have hmx : maxLen = 9223372036854775807 := rfl; omega) (fun Y88 p88 cap88 hO88 => ?_)
     refine om 1 [(4, .go (owns 5 0 1))] [] (fun _ => []) (fun _ L => (L.set 5 (bx (γ68 0) (#[.slice p88 (m + 1) cap88]) 28))) (fun _ => []) (fun _ => by kernel_rfl) (fun _ => al0) (fun _ => ?_)
     refine ops_nil ?_
     refine done_block ?_
     refine done_rnd 3 rfl ?_
     refine oq 2 [] [0, 2, 7, 8, 9] [(22, .bool false)] ([]) (fun _ => by kernel_rfl) al0 ?_
     refine ops_nil ?_
     refine done_seq ?_
     refine at_false (by kernel_rfl) ?_
     refine at_skip ?_
     refine done_block ?_
     refine done_seq ?_
     refine aq [(0, .fit)] [0, 2, 7, 8] [(9, .int .i64 ((j + 1 : Nat)))] ([Fit .i64 ((j + 1 : Nat))]) (fun _ => by kernel_rfl) (al1 (fit64 (by omega) (by omega))) ?_
     refine Done.pick [[bx (γ87 0) (#[.int .i64 x78.num]) 3], [bx (γ81 0) (#[.int .i64 x78.num, .int .i64 x78.vcpu, .int .i64 x78.peer, .bool x78.pending, .bool x78.masked]) 40], [bx (γ79 0) (#[.int .i64 x78.num, .int .i64 x78.vcpu, .int .i64 x78.peer, .bool x78.pending, .bool x78.masked]) 40], [(γ70 1, .loop r70)], [(γ70 0, .deferred (some []))], [bx (γ68 0) (#[.slice p88 (m + 1) cap88]) 28], [bx (γ64 1) (#[.func (.func 66) #[] #[.pointer (some ⟨γ1 1, 0, none⟩)]]) 73], [bx (γ64 0) (#[.slice (some ⟨g76, 0, none⟩) n cq31]) 24], [bx (γ32 0) (#[.slice (some ⟨g76, 0, none⟩) n cq31]) 24], [bx (γ4 1) (#[.slice none 0 0]) 24], [bx (γ4 0) (#[.slice p n cap]) 24], [bx (γ2 0) (#[.int .i64 0]) 3], [bx (γ1 2) (#[.slice none 0 0]) 24], [bx (γ1 1) (#[.int .i64 own]) 3], [bx (γ1 0) (#[.slice p n cap]) 24], [bx g76 cs76 40], Y88] [3, 4, 5, 6, 7, 8, 9, 10, 11, 12, 13, 14, 16, 15] [0, 1, 2] ((γ70 1, .loop r70) :: (γ70 0, .deferred (some [])) :: bx (γ68 0) (#[.slice p88 (m + 1) cap88]) 28 :: bx (γ64 1) (#[.func (.func 66) #[] #[.pointer (some ⟨γ1 1, 0, none⟩)]]) 73 :: bx (γ64 0) (#[.slice (some ⟨g76, 0, none⟩) n cq31]) 24 :: bx (γ32 0) (#[.slice (some ⟨g76, 0, none⟩) n cq31]) 24 :: bx (γ4 1) (#[.slice none 0 0]) 24 :: bx (γ4 0) (#[.slice p n cap]) 24 :: bx (γ2 0) (#[.int .i64 0]) 3 :: bx (γ1 2) (#[.slice none 0 0]) 24 :: bx (γ1 1) (#[.int .i64 own]) 3 :: bx (γ1 0) (#[.slice p n cap]) 24 :: (Y88 ++ ([bx g76 cs76 40]))) (by kernel_rfl) rfl rfl ?_
     exact done_round [0, 2, 7, 8, 9] (j + 1, Y88, p88, m + 1, cap88) (by kernel_rfl) rfl ⟨by omega, by omega, by rw [← such_yes hx78 (decide_eq_true q83)]; exact hO88⟩ (by first | omega | (simp only; omega))
    ·
     refine aq [(1, .go (owns 0 1 1)), (2, .go (owns 12 0 1)), (3, .no)] [] [(3, .bool false)] ([¬ ((x78.vcpu : Int) = (own : Int))]) (fun _ => by kernel_rfl) (al1 q83) ?_
     refine done_seq ?_
     refine at_back ([]) (.bool false) [] (by kernel_rfl) (by kernel_rfl) al0 ?_
     refine oq 7 [] [0, 2, 7, 8, 9] [(22, .bool false)] ([]) (fun _ => by kernel_rfl) al0 ?_
     refine ops_nil ?_
     refine done_seq ?_
     refine at_false (by kernel_rfl) ?_
     refine at_skip ?_
     refine done_block ?_
     refine done_seq ?_
     refine aq [(0, .fit)] [0, 2, 7, 8] [(9, .int .i64 ((j + 1 : Nat)))] ([Fit .i64 ((j + 1 : Nat))]) (fun _ => by kernel_rfl) (al1 (fit64 (by omega) (by omega))) ?_
     refine Done.pick [[bx (γ81 0) (#[.int .i64 x78.num, .int .i64 x78.vcpu, .int .i64 x78.peer, .bool x78.pending, .bool x78.masked]) 40], [bx (γ79 0) (#[.int .i64 x78.num, .int .i64 x78.vcpu, .int .i64 x78.peer, .bool x78.pending, .bool x78.masked]) 40], [(γ70 1, .loop r70)], [(γ70 0, .deferred (some []))], [bx (γ68 0) (#[.slice po m co]) 28], [bx (γ64 1) (#[.func (.func 66) #[] #[.pointer (some ⟨γ1 1, 0, none⟩)]]) 73], [bx (γ64 0) (#[.slice (some ⟨g76, 0, none⟩) n cq31]) 24], [bx (γ32 0) (#[.slice (some ⟨g76, 0, none⟩) n cq31]) 24], [bx (γ4 1) (#[.slice none 0 0]) 24], [bx (γ4 0) (#[.slice p n cap]) 24], [bx (γ2 0) (#[.int .i64 0]) 3], [bx (γ1 2) (#[.slice none 0 0]) 24], [bx (γ1 1) (#[.int .i64 own]) 3], [bx (γ1 0) (#[.slice p n cap]) 24], [bx g76 cs76 40], Yo] [2, 3, 4, 5, 6, 7, 8, 9, 10, 11, 12, 13, 15, 14] [0, 1] ((γ70 1, .loop r70) :: (γ70 0, .deferred (some [])) :: bx (γ68 0) (#[.slice po m co]) 28 :: bx (γ64 1) (#[.func (.func 66) #[] #[.pointer (some ⟨γ1 1, 0, none⟩)]]) 73 :: bx (γ64 0) (#[.slice (some ⟨g76, 0, none⟩) n cq31]) 24 :: bx (γ32 0) (#[.slice (some ⟨g76, 0, none⟩) n cq31]) 24 :: bx (γ4 1) (#[.slice none 0 0]) 24 :: bx (γ4 0) (#[.slice p n cap]) 24 :: bx (γ2 0) (#[.int .i64 0]) 3 :: bx (γ1 2) (#[.slice none 0 0]) 24 :: bx (γ1 1) (#[.int .i64 own]) 3 :: bx (γ1 0) (#[.slice p n cap]) 24 :: (Yo ++ ([bx g76 cs76 40]))) (by kernel_rfl) rfl rfl ?_
     exact done_round [0, 2, 7, 8, 9] (j + 1, Yo, po, m, co) (by kernel_rfl) rfl ⟨by omega, by omega, by rw [← such_no hx78 (decide_eq_false q83)]; exact hO⟩ (by first | omega | (simp only; omega))
   ·
    refine aq [(0, .no)] [0, 2, 7, 8, 9] [(10, .bool false)] ([¬ (((j : Nat) : Int) < ((n : Nat) : Int))]) (fun _ => by kernel_rfl) (al1 q73) ?_
    refine done_seq ?_
    refine at_seq ?_
    refine at_false (by kernel_rfl) ?_
    refine at_leave _ (by rfl) ?_
    refine done_back (by rfl) ?_
    refine ⟨0, rfl, ?_⟩
    refine done_block ?_
    refine done_seq ?_
    refine at_seq ?_
    refine aq [(0, .go (owns 1 0 1))] [] [(2, .slice po m co)] ([]) (fun _ => by kernel_rfl) al0 ?_
    refine done_seq ?_
    refine at_backM 0 rfl ([]) (.slice po m co) [] (by kernel_rfl) (by kernel_rfl) al0 ?_
    refine oq 1 [] [0, 1] [(5, .slice po m co)] ([]) (fun _ => by kernel_rfl) al0 ?_
    refine ops_nil ?_
    refine done_seq ?_
    refine at_seq ?_
    have hOf := hO
    rw [such_all (j := j) (by omega)] at hOf
    have hlo := hOf.len
    have hls := such_len (isOwn own) l
    refine at_ops ?_
    refine oq 6 [(4, .go (owns 3 0 1))] [0, 5] [(13, .pointer (some ⟨γ32 0, 0, none⟩)), (17, .slice q31 n cq31), (18, .func (.func 66) #[] #[.pointer (some ⟨γ1 1, 0, none⟩)])] ([]) (fun _ => by kernel_rfl) al0 ?_
    refine Ops.pick [[bx (γ68 0) (#[.slice po m co]) 28], [bx (γ64 1) (#[.func (.func 66) #[] #[.pointer (some ⟨γ1 1, 0, none⟩)]]) 73], [bx (γ64 0) (#[.slice q31 n cq31]) 24], [bx (γ32 0) (#[.slice q31 n cq31]) 24], [bx (γ4 1) (#[.slice none 0 0]) 24], [bx (γ4 0) (#[.slice p n cap]) 24], [bx (γ2 0) (#[.int .i64 0]) 3], [bx (γ1 2) (#[.slice none 0 0]) 24], [bx (γ1 1) (#[.int .i64 own]) 3], [bx (γ1 0) (#[.slice p n cap]) 24], Yo, Y31] [0, 1, 2, 3, 4, 5, 6, 7, 8, 9, 11, 10] [] (bx (γ68 0) (#[.slice po m co]) 28 :: bx (γ64 1) (#[.func (.func 66) #[] #[.pointer (some ⟨γ1 1, 0, none⟩)]]) 73 :: bx (γ64 0) (#[.slice q31 n cq31]) 24 :: bx (γ32 0) (#[.slice q31 n cq31]) 24 :: bx (γ4 1) (#[.slice none 0 0]) 24 :: bx (γ4 0) (#[.slice p n cap]) 24 :: bx (γ2 0) (#[.int .i64 0]) 3 :: bx (γ1 2) (#[.slice none 0 0]) 24 :: bx (γ1 1) (#[.int .i64 own]) 3 :: bx (γ1 0) (#[.slice p n cap]) 24 :: (Y31 ++ (Yo ++ []))) (by kernel_rfl) rfl rfl ?_
    refine ops_call (fun v L' => ∃ qz mz cz Yz, v = .slice qz mz cz ∧ L' = [bx (γ68 0) (#[.slice po m co]) 28, bx (γ64 1) (#[.func (.func 66) #[] #[.pointer (some ⟨γ1 1, 0, none⟩)]]) 73, bx (γ64 0) (#[.slice q31 n cq31]) 24, bx (γ32 0) (#[.slice q31 n cq31]) 24, bx (γ4 1) (#[.slice none 0 0]) 24, bx (γ4 0) (#[.slice p n cap]) 24, bx (γ2 0) (#[.int .i64 0]) 3, bx (γ1 2) (#[.slice none 0 0]) 24, bx (γ1 1) (#[.int .i64 own]) 3, bx (γ1 0) (#[.slice p n cap]) 24] ++ (Yz ++ (Yo ++ [])) ∧ SlO 40 Yz qz mz cz (l.filter fun x => !(isOwn own) x)) (by kernel_rfl) (by kernel_rfl) (by kernel_rfl) (fun args w => Try.call77 args w) (fun w hw => (deletef_d _ ([bx (γ68 0) (#[.slice po m co]) 28, bx (γ64 1) (#[.func (.func 66) #[] #[.pointer (some ⟨γ1 1, 0, none⟩)]]) 73, bx (γ64 0) (#[.slice q31 n cq31]) 24, bx (γ32 0) (#[.slice q31 n cq31]) 24, bx (γ4 1) (#[.slice none 0 0]) 24, bx (γ4 0) (#[.slice p n cap]) 24, bx (γ2 0) (#[.int .i64 0]) 3, bx (γ1 2) (#[.slice none 0 0]) 24, bx (γ1 1) (#[.int .i64 own]) 3, bx (γ1 0) (#[.slice p n cap]) 24] ++ (Yo ++ [])) Y31 66 #[.pointer (some ⟨γ1 1, 0, none⟩)] (isOwn own) q31 n cq31 l w (fun args w => Try.call66 args w) (hw.front (A := [bx (γ68 0) (#[.slice po m co]) 28, bx (γ64 1) (#[.func (.func 66) #[] #[.pointer (some ⟨γ1 1, 0, none⟩)]]) 73, bx (γ64 0) (#[.slice q31 n cq31]) 24, bx (γ32 0) (#[.slice q31 n cq31]) 24, bx (γ4 1) (#[.slice none 0 0]) 24, bx (γ4 0) (#[.slice p n cap]) 24, bx (γ2 0) (#[.int .i64 0]) 3, bx (γ1 2) (#[.slice none 0 0]) 24, bx (γ1 1) (#[.int .i64 own]) 3, bx (γ1 0) (#[.slice p n cap]) 24]) (Y := Y31) (R := (Yo ++ []))) hO31 (by omega) (fun x hx w' hX => isown_d x (γ1 1) own w' (rd_one (hX.row 8 rfl)))).mono fun e w' ⟨qz, mz, cz, Yz, he, hO, hY⟩ => ⟨_, _, he, ⟨qz, mz, cz, Yz, rfl, rfl, hO⟩, hY.push⟩) ?_
    rintro v99 L99 ⟨q99, m99, cq99, Y99, rfl, rfl, hO99⟩
    have hml99 := hO99.len
    have hmf99 := List.length_filter_le (fun x => !(isOwn own) x) l
    refine om 3 [(9, .go (owns 3 0 1))] [0, 5] (fun _ => []) (fun _ L => (L.set 3 (bx (γ32 0) (#[.slice q99 m99 cq99]) 24))) (fun _ => []) (fun _ => by kernel_rfl) (fun _ => al0) (fun _ => ?_)
    refine ops_nil ?_
    refine done_seq ?_
    refine at_seq ?_
    refine at_seq ?_
    refine aq [(3, .go (owns 3 0 1))] [0, 5] [(26, .int .i64 ((m99 : Nat))), (27, .int .i64 0)] ([]) (fun _ => by kernel_rfl) al0 ?_
    refine done_seq ?_
    refine at_block ?_
    refine at_loop (α := Nat × List Ob) [0, 5, 26, 27] (fun ⟨j3, Yp⟩ => [(0, .pointer (some ⟨γ32 0, 0, none⟩)), (5, .slice po m co), (26, .int .i64 ((m99 : Nat))), (27, .int .i64 ((j3 : Nat)))]) (fun ⟨j3, Yp⟩ => bx (γ68 0) (#[.slice po m co]) 28 :: bx (γ64 1) (#[.func (.func 66) #[] #[.pointer (some ⟨γ1 1, 0, none⟩)]]) 73 :: bx (γ64 0) (#[.slice q31 n cq31]) 24 :: bx (γ32 0) (#[.slice q99 m99 cq99]) 24 :: bx (γ4 1) (#[.slice none 0 0]) 24 :: bx (γ4 0) (#[.slice p n cap]) 24 :: bx (γ2 0) (#[.int .i64 0]) 3 :: bx (γ1 2) (#[.slice none 0 0]) 24 :: bx (γ1 1) (#[.int .i64 own]) 3 :: bx (γ1 0) (#[.slice p n cap]) 24 :: (Yp ++ (Yo ++ []))) (fun ⟨j3, Yp⟩ => j3 ≤ m99 ∧ SlO 40 Yp q99 m99 cq99 (mixV (unl (suchL (isOwn own) l)) (l.filter fun x => !(isOwn own) x) j3)) (fun ⟨j3, Yp⟩ => m99 - j3) (0, Y99) (by kernel_rfl) rfl ⟨Nat.zero_le _, by rw [mix_zero]; exact hO99⟩ ?_
    rintro ⟨j3, Yp⟩
    rintro ⟨hj3, hP⟩
    have hpl := hP.len
    rw [mix_len] at hpl
    refine at_seq ?_
    by_cases q103 : ((j3 : Nat) : Int) < ((m99 : Nat) : Int)
    ·
     refine aq [(0, .yes)] [0, 5, 26, 27] [(28, .bool true)] ([((j3 : Nat) : Int) < ((m99 : Nat) : Int)]) (fun _ => by kernel_rfl) (al1 q103) ?_
     refine done_seq ?_
     refine at_seq ?_
     refine at_true (by kernel_rfl) ?_
     refine at_skip ?_
     refine done_seq ?_
     refine at_seq ?_
     refine at_block ?_
     refine at_seq ?_
     refine aq [] [0, 5, 26, 27] [(6, .int .i64 ((j3 : Nat)))] ([]) (fun _ => by kernel_rfl) al0 ?_
     refine done_seq ?_
     refine at_seq ?_
     have hln107 := hP.len
     obtain ⟨g107, cs107, rfl, rfl, hOw107⟩ := hP.rowOf (i := j3) (by omega)
     obtain ⟨x109, hx109⟩ := get_some (l := (mixV (unl (suchL (isOwn own) l)) (l.filter fun x => !(isOwn own) x) j3)) (m := j3) (by omega)
     refine at_ops ?_
     refine oq 9 [(4, .go (owns 3 0 1)), (6, .at g107 0 j3), (8, .go (ownps 10 (0 + j3 * 5 + 2) [.int .i64 x109.peer]))] [0, 5, 6, 26, 27] [(30, .slice po m co), (38, .int .i64 x109.peer)] ([(some ⟨g107, 0, none⟩ : Option Addr) = some ⟨g107, 0, none⟩, ((j3 : Nat)) = ((j3 : Nat) : Int), j3 < m99] ++ (acellsP cs107 (0 + j3 * 5 + 2) [.int .i64 x109.peer])) (fun _ => by kernel_rfl) (alA (al2 rfl (al2 rfl (al1 (by omega)))) (rda_part ((hOw107.rdx hP.len hx109)) 2 _ rfl)) ?_
     rcases q111 : decide (x109.peer ∈ (suchL (isOwn own) l)) with _ | _
     ·
      refine ops_callD (.bool false) (by kernel_rfl) (by kernel_rfl) (by kernel_rfl) (fun args w => Try.call27 args w) (fun w hw => by have := contains_d po m co ((suchL (isOwn own) l)) x109.peer w (hOf.atN (A := [_, _, _, _, _, _, _, _, _, _, _]) hw) hOf.len (by omega); rw [q111] at this; exact this) ?_
      refine ops_nil ?_
      refine done_seq ?_
      refine at_false (by kernel_rfl) ?_
      refine at_skip ?_
      refine done_block ?_
      refine done_seq ?_
      refine aq [(0, .fit)] [0, 5, 26] [(27, .int .i64 ((j3 + 1 : Nat)))] ([Fit .i64 ((j3 + 1 : Nat))]) (fun _ => by kernel_rfl) (al1 (fit64 (by omega) (by omega))) ?_
      exact done_round [0, 5, 26, 27] (j3 + 1, [bx g107 cs107 40]) (by kernel_rfl) rfl ⟨by omega, by rw [← mix_same hx109 (show unl _ _ = _ from if_neg (of_decide_eq_false q111))]; exact hP⟩ (by first | omega | (simp only; omega))
     ·
      refine ops_callD (.bool true) (by kernel_rfl) (by kernel_rfl) (by kernel_rfl) (fun args w => Try.call27 args w) (fun w hw => by have := contains_d po m co ((suchL (isOwn own) l)) x109.peer w (hOf.atN (A := [_, _, _, _, _, _, _, _, _, _, _]) hw) hOf.len (by omega); rw [q111] at this; exact this) ?_
      refine ops_nil ?_
      refine done_seq ?_
      refine at_true (by kernel_rfl) ?_
      refine am [(3, .go (owns 3 0 1)), (5, .at g107 0 j3), (7, .go (ownps 10 (0 + j3 * 5 + 2) [undef]))] [0, 5, 26, 27] (fun _ => []) (fun _ L => (L.set 10 (bx g107 ((cs107).setIfInBounds (0 + j3 * 5 + 2) (.int .i64 0)) 40))) (fun _ => [(some ⟨g107, 0, none⟩ : Option Addr) = some ⟨g107, 0, none⟩, ((j3 : Nat)) = ((j3 : Nat) : Int), j3 < m99] ++ ([0 + j3 * 5 + 2 < (cs107).size])) (fun _ => by kernel_rfl) (fun _ => (alA (al2 rfl (al2 rfl (al1 (by omega)))) (al1 (hOw107.room hP.len hx109 (f := 2) (by decide))))) (fun _ => ?_)
      refine done_block ?_
      refine done_seq ?_
      refine aq [(0, .fit)] [0, 5, 26] [(27, .int .i64 ((j3 + 1 : Nat)))] ([Fit .i64 ((j3 + 1 : Nat))]) (fun _ => by kernel_rfl) (al1 (fit64 (by omega) (by omega))) ?_
      exact done_round [0, 5, 26, 27] (j3 + 1, [bx g107 ((cs107).setIfInBounds (0 + j3 * 5 + 2) (.int .i64 0)) 40]) (by kernel_rfl) rfl ⟨by omega, by rw [← mix_put hx109 (show unl _ _ = _ from if_pos (of_decide_eq_true q111))]; exact (SlO.ofOwn (hOw107.put (x' := (⟨x109.num, x109.vcpu, 0, x109.pending, x109.masked⟩ : Port)) hP.len hx109 (f := 2) (by decide) rfl) (len_set hP.len))⟩ (by first | omega | (simp only; omega))
    ·
     refine aq [(0, .no)] [0, 5, 26, 27] [(28, .bool false)] ([¬ (((j3 : Nat) : Int) < ((m99 : Nat) : Int))]) (fun _ => by kernel_rfl) (al1 q103) ?_
     refine done_seq ?_
     refine at_seq ?_
     refine at_false (by kernel_rfl) ?_
     refine at_leave _ (by rfl) ?_
     refine done_seq ?_
     refine at_seq ?_
     have hPf := hP
     rw [mix_end (by omega)] at hPf
     refine aq [] [] [(4, .int .i64 ((m : Nat)))] ([]) (fun _ => by kernel_rfl) al0 ?_
     refine done_seq ?_
     refine at_back ([]) (.int .i64 ((m : Nat))) [] (by kernel_rfl) (by kernel_rfl) al0 ?_
     refine om 1 [(3, .go (owns 6 0 1))] [] (fun _ => []) (fun _ L => (L.set 6 (bx (γ2 0) (#[.int .i64 ((m : Nat))]) 3))) (fun _ => []) (fun _ => by kernel_rfl) (fun _ => al0) (fun _ => ?_)
     refine ops_nil ?_
     refine done_seq ?_
     refine at_seq ?_
     refine aq [] [] [(4, .int .i64 0)] ([]) (fun _ => by kernel_rfl) al0 ?_
     refine done_seq ?_
     refine at_back ([]) (.int .i64 0) [] (by kernel_rfl) (by kernel_rfl) al0 ?_
     refine oq 1 [] [4, 7] [(8, .int .i64 0)] ([]) (fun _ => by kernel_rfl) al0 ?_
     refine ops_nil ?_
     refine done_seq ?_
     refine at_seq ?_
     refine aq [] [4, 7, 8] [(22, .bool false)] ([]) (fun _ => by kernel_rfl) al0 ?_
     refine done_seq ?_
     refine at_false (by kernel_rfl) ?_
     refine at_skip ?_
     refine done_seq ?_
     refine at_seq ?_
     refine am [(0, .go (owns 3 0 1)), (1, .go (owns 4 0 1))] [4] (fun _ => [(5, .int .i64 0)]) (fun _ L => (L.set 4 (bx (γ4 1) (#[.slice q99 m99 cq99]) 24))) (fun _ => []) (fun _ => by kernel_rfl) (fun _ => al0) (fun _ => ?_)
     refine done_seq ?_
     refine at_back (owns 4 0 1) (.tuple #[.agg #[.slice q99 m99 cq99], .int .i64 0]) [] (by kernel_rfl) (by kernel_rfl) al0 ?_
     refine om 6 [(7, .go (owns 0 0 1))] [4, 7] (fun γ124 => [(8, .pointer (some ⟨γ124 0, 0, none⟩)), (9, .int .i64 0)]) (fun γ124 L => bx (γ124 0) (#[.slice q99 m99 cq99]) 24 :: L) (fun γ124 => []) (fun _ => by kernel_rfl) (fun γ124 => al0) (fun γ124 => ?_)
     refine ops_nil ?_
     refine done_seq ?_
     refine at_seq ?_
     refine at_any (by kernel_rfl) ?_
     refine any_tk (f := 5) [2] [] [4, 7, 8] [(18, .int .i64 0)] ([]) #[false, false, true, false, false, false] (by kernel_rfl) (by kernel_rfl) al0 ?_
     refine any_cut 0 #[true, true, true, true, true, true] ([(4, .pointer (some ⟨γ1 2, 0, none⟩)), (5, .int .i64 ((m : Nat))), (6, .int .i64 0)]) (bx (γ124 0) (#[.slice q99 m99 cq99]) 24 :: bx (γ68 0) (#[.slice po m co]) 28 :: bx (γ64 1) (#[.func (.func 66) #[] #[.pointer (some ⟨γ1 1, 0, none⟩)]]) 73 :: bx (γ64 0) (#[.slice q31 n cq31]) 24 :: bx (γ32 0) (#[.slice q99 m99 cq99]) 24 :: bx (γ4 1) (#[.slice q99 m99 cq99]) 24 :: bx (γ4 0) (#[.slice p n cap]) 24 :: bx (γ2 0) (#[.int .i64 ((m : Nat))]) 3 :: bx (γ1 2) (#[.slice q99 m99 cq99]) 24 :: bx (γ1 1) (#[.int .i64 own]) 3 :: bx (γ1 0) (#[.slice p n cap]) 24 :: (Yp ++ (Yo ++ []))) ?_ (fun hm => ?_)
     rotate_left
     ·
      refine any_fork [0, 1] (by kernel_rfl) (by simp) (each_cons _ rfl ?_ (each_cons _ rfl ?_ (each_nil)))
      ·
       refine oq 1 [(0, .go (owns 0 0 1))] [4, 7, 18] [(16, .agg #[.slice q99 m99 cq99])] ([]) (fun _ => by kernel_rfl) al0 ?_
       refine ops_nil ?_
       refine done_any ?_
       refine any_fork [1, 3] (by kernel_rfl) (by simp) (each_cons _ rfl ?_ (each_cons _ rfl ?_ (each_nil)))
       ·
        refine oq 1 [(1, .go (owns 7 0 1))] [4, 16, 18] [(17, .int .i64 ((m : Nat)))] ([]) (fun _ => by kernel_rfl) al0 ?_
        refine ops_nil ?_
        refine done_any ?_
        refine any_one 3 _ (by kernel_rfl) rfl ?_
        refine om 1 [(3, .go (owns 8 0 1))] [4, 17, 18] (fun _ => []) (fun _ L => (L.set 8 (bx (γ1 2) (#[.slice q99 m99 cq99]) 24))) (fun _ => []) (fun _ => by kernel_rfl) (fun _ => al0) (fun _ => ?_)
        refine ops_nil ?_
        refine done_any ?_
        refine any_tk (f := 0) [4, 5] [] [4] [(5, .int .i64 ((m : Nat))), (6, .int .i64 0)] ([]) #[true, true, true, true, true, true] (by kernel_rfl) (by kernel_rfl) al0 ?_
        exact any_weak hm [4, 5, 6] (by kernel_rfl) rfl rfl rfl
       ·
        refine om 1 [(3, .go (owns 8 0 1))] [4, 7, 18] (fun _ => []) (fun _ L => (L.set 8 (bx (γ1 2) (#[.slice q99 m99 cq99]) 24))) (fun _ => []) (fun _ => by kernel_rfl) (fun _ => al0) (fun _ => ?_)
        refine ops_nil ?_
        refine done_any ?_
        refine any_one 1 _ (by kernel_rfl) rfl ?_
        refine oq 1 [(1, .go (owns 7 0 1))] [4, 18] [(17, .int .i64 ((m : Nat)))] ([]) (fun _ => by kernel_rfl) al0 ?_
        refine ops_nil ?_
        refine done_any ?_
        refine any_tk (f := 0) [4, 5] [] [4] [(5, .int .i64 ((m : Nat))), (6, .int .i64 0)] ([]) #[true, true, true, true, true, true] (by kernel_rfl) (by kernel_rfl) al0 ?_
        exact any_weak hm [4, 5, 6] (by kernel_rfl) rfl rfl rfl
      ·
       refine oq 1 [(1, .go (owns 7 0 1))] [4, 8, 18] [(17, .int .i64 ((m : Nat)))] ([]) (fun _ => by kernel_rfl) al0 ?_
       refine ops_nil ?_
       refine done_any ?_
       refine any_one 0 _ (by kernel_rfl) rfl ?_
       refine oq 1 [(0, .go (owns 0 0 1))] [4, 17, 18] [(16, .agg #[.slice q99 m99 cq99])] ([]) (fun _ => by kernel_rfl) al0 ?_
       refine ops_nil ?_
       refine done_any ?_
       refine any_one 3 _ (by kernel_rfl) rfl ?_
       refine om 1 [(3, .go (owns 8 0 1))] [4, 17, 18] (fun _ => []) (fun _ L => (L.set 8 (bx (γ1 2) (#[.slice q99 m99 cq99]) 24))) (fun _ => []) (fun _ => by kernel_rfl) (fun _ => al0) (fun _ => ?_)
       refine ops_nil ?_
       refine done_any ?_
       refine any_tk (f := 0) [4, 5] [] [4] [(5, .int .i64 ((m : Nat))), (6, .int .i64 0)] ([]) #[true, true, true, true, true, true] (by kernel_rfl) (by kernel_rfl) al0 ?_
       exact any_weak hm [4, 5, 6] (by kernel_rfl) rfl rfl rfl
     refine any_nil (by kernel_rfl) ?_
     refine done_seq ?_
     refine at_return (owns 8 0 1) (.tuple #[.agg #[.slice q99 m99 cq99], .int .i64 ((m : Nat)), .int .i64 0]) [] (by kernel_rfl) (by kernel_rfl) al0 ?_
     exact fun w' hw => by rw [dropV_ok q6 q36 hlo]; exact ⟨_, _, _, _, rfl, hPf, hw.below, (hs_nil (Hs.pick [[bx (γ124 0) (#[.slice q99 m99 cq99]) 24], [bx (γ68 0) (#[.slice po m co]) 28], [bx (γ64 1) (#[.func (.func 66) #[] #[.pointer (some ⟨γ1 1, 0, none⟩)]]) 73], [bx (γ64 0) (#[.slice q31 n cq31]) 24], [bx (γ32 0) (#[.slice q99 m99 cq99]) 24], [bx (γ4 1) (#[.slice q99 m99 cq99]) 24], [bx (γ4 0) (#[.slice p n cap]) 24], [bx (γ2 0) (#[.int .i64 ((m : Nat))]) 3], [bx (γ1 2) (#[.slice q99 m99 cq99]) 24], [bx (γ1 1) (#[.int .i64 own]) 3], [bx (γ1 0) (#[.slice p n cap]) 24], Yp, Yo] [11] [0, 1, 2, 3, 4, 5, 6, 7, 8, 9, 10, 12] (by kernel_rfl) hw))⟩
end Go.Proofs.Ytfhlmijdokfdpaa
