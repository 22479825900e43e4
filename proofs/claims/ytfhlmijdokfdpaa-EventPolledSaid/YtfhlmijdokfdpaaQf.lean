/- Ports of which some are cleared: plain laws for the polls of one's own. -/
import Derived.Test.YtfhlmijdokfdpaaQa
namespace Go.Proofs.Ytfhlmijdokfdpaa
open Go Go.RowKit

/-- Ports, those of ns cleared. -/
def clr (ns : List Int) (l : List Port) : List Port := l.map fun x => if x.num ∈ ns then ⟨x.num, x.vcpu, x.peer, false, x.masked⟩ else x
section
variable {l : List Port} {ns : List Int} {k last : Int} {x : Port}
theorem clr_len : (clr ns l).length = l.length := by simp [clr]
theorem clr_nil : clr [] l = l := by simp [clr]
theorem clr_one_num : (if x.num ∈ ns then (⟨x.num, x.vcpu, x.peer, false, x.masked⟩ : Port) else x).num = x.num := by split <;> rfl
theorem ris_clr : ∀ (l : List Port) (last : Int), risB last (clr ns l) = risB last l
  | [], _ => rfl
  | x :: l, last => by
    have h := ris_clr l x.num
    by_cases hx : x.num ∈ ns <;> simp [clr, risB, hx] at h ⊢ <;> rw [h]
theorem get_clr : ∀ (l : List Port), getB (clr ns l) k = (getB l k).map fun x => if x.num ∈ ns then ⟨x.num, x.vcpu, x.peer, false, x.masked⟩ else x
  | [] => rfl
  | x :: l => by
    have h := get_clr l
    unfold getB at h ⊢
    unfold clr at h ⊢
    rw [List.map_cons, List.find?_cons, List.find?_cons, clr_one_num]
    split
    · rfl
    · exact h
theorem link_clr (l' : List Port) (hg : ∀ k, getB l' k = (getB l k).map fun x => if x.num ∈ ns then ⟨x.num, x.vcpu, x.peer, false, x.masked⟩ else x) (x : Port) : linkB l' (if x.num ∈ ns then ⟨x.num, x.vcpu, x.peer, false, x.masked⟩ else x) = linkB l x := by
  have e : ∀ y : Port, (if y.num ∈ ns then (⟨y.num, y.vcpu, y.peer, false, y.masked⟩ : Port) else y).peer = y.peer := fun y => by split <;> rfl
  unfold linkB
  rw [e, clr_one_num, hg]
  cases getB l x.peer with
  | none => rfl
  | some y => simp only [Option.map_some]; rw [e, clr_one_num]
theorem right_clr : rightB (clr ns l) = rightB l := by
  unfold rightB
  rw [ris_clr]
  congr 1
  have h := fun x => link_clr (l := l) (ns := ns) (clr ns l) (fun k => get_clr l) x
  rw [show (clr ns l).all (linkB (clr ns l)) = l.all (fun x => linkB (clr ns l) (if x.num ∈ ns then ⟨x.num, x.vcpu, x.peer, false, x.masked⟩ else x)) from by rw [clr, List.all_map]; rfl]
  congr 1
  funext x
  exact h x
/-- A poll of ports that are there, all of them one's own. -/
theorem pollGo_own : ∀ (ns : List Int) (own : Int) (pd : Bool), (∀ n ∈ ns, ∃ x, getB l n = some x ∧ x.vcpu = own) → pollGo l own ns pd 0 = (pd || ns.any (fun n => match getB l n with | some x => x.pending | none => false), 0)
  | [], own, pd, _ => by simp [pollGo]
  | n :: ns, own, pd, h => by
    obtain ⟨x, hx, hv⟩ := h n (List.mem_cons_self ..)
    have := pollGo_own ns own (pd || x.pending) (fun m hm => h m (List.mem_cons_of_mem _ hm))
    simp only [pollGo, hx, if_pos hv, this, List.any_cons]
    rw [Bool.or_assoc]
theorem clr_get (i : Nat) : (clr ns l)[i]? = (l[i]?).map fun x => if x.num ∈ ns then ⟨x.num, x.vcpu, x.peer, false, x.masked⟩ else x := by unfold clr; rw [List.getElem?_map]
theorem clr_set (hr : rightB l = true) (hx : getB l k = some x) : (clr ns l).set (posB (clr ns l) k) ⟨x.num, x.vcpu, x.peer, false, x.masked⟩ = clr (ns ++ [k]) l := by
  have ha := ris_asc l 0 (right_ris hr)
  have hr' : rightB (clr ns l) = true := by rw [right_clr]; exact hr
  have hn := (get_yes hx).2.1
  obtain ⟨h1, h2⟩ := get_pos ha hx
  have hx' : getB (clr ns l) k = some (if x.num ∈ ns then ⟨x.num, x.vcpu, x.peer, false, x.masked⟩ else x) := by rw [get_clr, hx]; rfl
  obtain ⟨h3, h4⟩ := get_pos (ris_asc _ 0 (right_ris hr')) hx'
  have hp : posB (clr ns l) k = posB l k := by
    rw [clr_get] at h3
    obtain ⟨y, hy, hye⟩ := Option.map_eq_some_iff.1 h3
    have hyn : y.num = x.num := by
      have := congrArg Port.num hye
      rwa [clr_one_num, clr_one_num] at this
    rcases Nat.lt_trichotomy (posB (clr ns l) k) (posB l k) with h | h | h
    · have := ha _ _ _ _ h hy h1; omega
    · exact h
    · have := ha _ _ _ _ h h1 hy; omega
  rw [hp]
  apply List.ext_getElem?
  intro i
  rw [List.getElem?_set, clr_get, clr_get]
  have hlen : (clr ns l).length = l.length := by unfold clr; rw [List.length_map]
  by_cases hi : posB l k = i
  · subst hi
    rw [if_pos rfl, if_pos (by omega), h1]
    simp [hn]
  · rw [if_neg hi]
    rcases he : l[i]? with _ | y
    · rfl
    · have hne : ¬ y.num = k := fun e => by
        rcases Nat.lt_trichotomy (posB l k) i with h | h | h
        · have := ha _ _ _ _ h h1 he; omega
        · exact hi h
        · have := ha _ _ _ _ h he h1; omega
      simp [hne]
theorem clear_clr (hr : rightB l = true) (hx : getB l k = some x) : clearV (clr ns l) k = (clr (ns ++ [k]) l, (x.pending && decide (k ∉ ns)), 0) := by
  have hr' : rightB (clr ns l) = true := by rw [right_clr]; exact hr
  have hn := (get_yes hx).2.1
  have hx' : getB (clr ns l) k = some (if x.num ∈ ns then ⟨x.num, x.vcpu, x.peer, false, x.masked⟩ else x) := by rw [get_clr, hx]; rfl
  rw [clearV_ok hr' hx', clr_one_num, hn, ← clr_set (ns := ns) hr hx]
  by_cases h : k ∈ ns <;> simp [hn, h]
theorem such_mem {is : Port → Bool} (hr : rightB l = true) {n : Int} (h : n ∈ suchL is l) : ∃ x, getB l n = some x ∧ is x = true := by
  unfold suchL at h
  obtain ⟨x, hx, rfl⟩ := List.mem_map.1 h
  obtain ⟨hm, hi⟩ := List.mem_filter.1 hx
  rcases hg : getB l x.num with _ | y
  · have := get_none hg
    have : hasB l x.num = true := List.any_eq_true.2 ⟨x, hm, decide_eq_true rfl⟩
    simp_all
  · obtain ⟨hym, hyn, _⟩ := get_yes hg
    obtain ⟨i, hi1⟩ := List.mem_iff_getElem?.1 hm
    obtain ⟨j, hj1⟩ := List.mem_iff_getElem?.1 hym
    have ha := ris_asc l 0 (right_ris hr)
    have : i = j := by
      rcases Nat.lt_trichotomy i j with h | h | h
      · have := ha _ _ _ _ h hi1 hj1; omega
      · exact h
      · have := ha _ _ _ _ h hj1 hi1; omega
    subst this
    rw [hi1] at hj1; cases hj1
    exact ⟨x, rfl, hi⟩
/-- The ports of a virtual CPU. -/
def isOwn (own : Int) (x : Port) : Bool := decide (x.vcpu = own)
theorem due_clr (hr : rightB l = true) {own : Int} : edueV (clr (suchL (isOwn own) l) l) own = [] := by
  have hr' : rightB (clr (suchL (isOwn own) l) l) = true := by rw [right_clr]; exact hr
  rw [edueV_ok hr']
  unfold suchL
  rw [List.map_eq_nil_iff, List.filter_eq_nil_iff]
  intro y hy
  unfold clr at hy
  obtain ⟨x, hx, rfl⟩ := List.mem_map.1 hy
  by_cases hv : x.vcpu = own
  · rw [if_pos (List.mem_map.2 ⟨x, List.mem_filter.2 ⟨hx, by simp [isOwn, hv]⟩, rfl⟩)]
    simp [isDue, dueB]
  · split <;> simp [isDue, hv]
theorem ris_len : ∀ (l : List Port) (last : Int), last ≤ 32 → risB last l = true → (l.length : Int) + last ≤ 32
  | [], last, h, _ => by simpa using h
  | x :: l, last, _, h => by
    simp only [risB, Bool.and_eq_true, decide_eq_true_eq] at h
    have := ris_len l x.num h.1.1.2 h.2
    simp only [List.length_cons]
    omega
/-- Is the port of that number pending? -/
def pendB (l : List Port) (n : Int) : Bool := match getB l n with
  | some x => x.pending
  | none => false
theorem poll_own (hr : rightB l = true) {own : Int} (h0 : suchL (isOwn own) l ≠ []) : pollV l own (suchL (isOwn own) l) = ((suchL (isOwn own) l).any (pendB l), 0) := by
  have hall : ∀ n ∈ suchL (isOwn own) l, ∃ x, getB l n = some x ∧ x.vcpu = own := fun n hn => by
    obtain ⟨x, hx, hi⟩ := such_mem hr hn
    exact ⟨x, hx, by simpa [isOwn] using hi⟩
  obtain ⟨n0, hn0⟩ := List.exists_mem_of_ne_nil _ h0
  obtain ⟨x0, hx0, hv0⟩ := hall n0 hn0
  have hv : vcpuB own = true := by rw [← hv0]; exact (ris_mem l 0 (right_ris hr) x0 (get_yes hx0).1).2.2
  have hl := ris_len l 0 (by omega) (right_ris hr)
  have hs := such_len (isOwn own) l
  have hpos : 0 < (suchL (isOwn own) l).length := List.length_pos_iff.2 h0
  rw [pollV_of hr hv (by omega) (by omega), pollGo_own _ own false hall, Bool.false_or]
  rfl
theorem poll_nobody (hr : rightB l = true) {own : Int} : pollV l own [] = (false, 2) := pollV_no hr (by rintro ⟨_, h, _⟩; simp at h)
theorem such_clr {own : Int} : ∀ (l : List Port), suchL (isOwn own) (clr ns l) = suchL (isOwn own) l
  | [] => rfl
  | x :: l => by
    have h := such_clr (own := own) l
    unfold suchL clr at h ⊢
    by_cases hx : x.num ∈ ns <;> by_cases hv : x.vcpu = own <;> simp [isOwn, hx, hv] at h ⊢ <;> exact h
theorem poll_clr (hr : rightB l = true) {own : Int} (h0 : suchL (isOwn own) l ≠ []) : pollV (clr (suchL (isOwn own) l) l) own (suchL (isOwn own) l) = (false, 0) := by
  have hr' : rightB (clr (suchL (isOwn own) l) l) = true := by rw [right_clr]; exact hr
  have e : suchL (isOwn own) (clr (suchL (isOwn own) l) l) = suchL (isOwn own) l := such_clr l
  have := poll_own hr' (own := own) (by rw [e]; exact h0)
  rw [e] at this
  rw [this]
  congr 1
  rw [List.any_eq_false]
  intro n hn
  obtain ⟨x, hx, _⟩ := such_mem hr hn
  unfold pendB
  rw [get_clr, hx]
  simp [(get_yes hx).2.1, hn]
/-- The count of those that were pending. -/
theorem cnt_on {own : List Int} {j n : Nat} (hI : 0 < n ↔ (own.take j).any (pendB l) = true) (hk : own[j]? = some k) (hx : getB l k = some x) {b : Bool} (hb : b = (x.pending && decide (k ∉ own.take j))) :
    0 < (if b = true then n + 1 else n) ↔ (own.take (j + 1)).any (pendB l) = true := by
  have hp : pendB l k = x.pending := by simp [pendB, hx]
  have e : (own.take (j + 1)).any (pendB l) = ((own.take j).any (pendB l) || x.pending) := by rw [List.take_add_one, hk]; simp [hp]
  rw [e, Bool.or_eq_true, ← hI]
  subst hb
  by_cases h1 : x.pending = true
  · by_cases h2 : k ∈ own.take j
    · have : (own.take j).any (pendB l) = true := List.any_eq_true.2 ⟨k, h2, by rw [hp]; exact h1⟩
      have := hI.2 this
      simp [h1, h2, this]
    · simp [h1, h2]
  · simp [h1]
end
end Go.Proofs.Ytfhlmijdokfdpaa
