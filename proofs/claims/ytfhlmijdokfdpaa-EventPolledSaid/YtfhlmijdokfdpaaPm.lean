/- Ports: what becomes of them, in plain Lean. -/
import Derived.Test.YtfhlmijdokfdpaaPa
namespace Go.Proofs.Ytfhlmijdokfdpaa
open Go Go.RowKit

/-- The first number that no port has, less one: how far the numbers run on from one. -/
def openI : List Port → Nat → Nat
  | [], i => i
  | x :: l, i => if x.num = ((i + 1 : Nat) : Int) then openI l (i + 1) else i
/-- What the layer's Open answers. -/
def openV (l : List Port) (own : Int) : List Port × Int × Int :=
  if rightB l = true then
    if vcpuB own = true then
      if openI l 0 = 32 then ([], 0, 6)
      else (l.take (openI l 0) ++ [⟨((openI l 0 + 1 : Nat) : Int), own, 0, false, false⟩] ++ l.drop (openI l 0), ((openI l 0 + 1 : Nat) : Int), 0)
    else ([], 0, 2)
  else ([], 0, 260)
section
variable {l : List Port} {own : Int} {j n : Nat} {x : Port}
theorem open_on (hI : openI (l.drop j) j = openI l 0) (hx : l[j]? = some x) (h : x.num = ((j + 1 : Nat) : Int)) : openI (l.drop (j + 1)) (j + 1) = openI l 0 := by
  rw [← hI, drop_cons hx]; simp only [openI]; rw [if_pos h]
theorem open_at (hI : openI (l.drop j) j = openI l 0) (hx : l[j]? = some x) (h : ¬ x.num = ((j + 1 : Nat) : Int)) : openI l 0 = j := by
  rw [← hI, drop_cons hx]; simp only [openI]; rw [if_neg h]
theorem open_end (hI : openI (l.drop j) j = openI l 0) (hj : l.length ≤ j) : openI l 0 = j := by
  rw [← hI, List.drop_of_length_le hj]; rfl
theorem openV_bad (h : rightB l = false) : openV l own = ([], 0, 260) := by simp [openV, h]
theorem openV_arg (h : rightB l = true) (h1 : vcpuB own = false) : openV l own = ([], 0, 2) := by simp [openV, h, h1]
theorem openV_full (h : rightB l = true) (h1 : vcpuB own = true) (hj : openI l 0 = j) (h2 : ((j : Nat) : Int) = (32 : Int)) : openV l own = ([], 0, 6) := by
  unfold openV; rw [if_pos h, if_pos h1, if_pos (by omega)]
theorem openV_ok (h : rightB l = true) (h1 : vcpuB own = true) (hj : openI l 0 = j) (h2 : ¬ ((j : Nat) : Int) = (32 : Int)) : openV l own = (l.take j ++ [⟨((j + 1 : Nat) : Int), own, 0, false, false⟩] ++ l.drop j, ((j + 1 : Nat) : Int), 0) := by
  unfold openV; rw [if_pos h, if_pos h1, if_neg (by omega), hj]
end

/-- Is a port due? -/
def dueB (x : Port) : Bool := x.pending && !x.masked
/-- What the layer's Link answers. -/
def linkV (l : List Port) (a b : Int) : List Port × Int :=
  if rightB l = true then
    match getB l a, getB l b with
    | some x, some y =>
      if a = b then ([], 2)
      else if x.peer = 0 ∧ y.peer = 0 then ((l.set (posB l a) ⟨x.num, x.vcpu, b, x.pending, x.masked⟩).set (posB l b) ⟨y.num, y.vcpu, a, y.pending, y.masked⟩, 0)
      else ([], 261)
    | _, _ => ([], 4)
  else ([], 260)
/-- What comes of the port y when it is as z. -/
def turnP (l : List Port) (y z : Port) : List Port × Int × Int :=
  (l.set (posB l y.num) z, if dueB z = true ∧ (dueB y = false ∨ y.vcpu ≠ z.vcpu) then z.vcpu else 0, 0)
/-- What the layer's Send answers. -/
def sendV (l : List Port) (k : Int) : List Port × Int × Int :=
  if rightB l = true then
    match getB l k with
    | none => ([], 0, 4)
    | some x =>
      if x.peer = 0 then ([], 0, 261)
      else match getB l x.peer with
        | none => ([], 0, 0)
        | some y => turnP l y ⟨y.num, y.vcpu, y.peer, true, y.masked⟩
  else ([], 0, 260)
section
variable {l : List Port} {a b k : Int} {x y z : Port}
theorem get_self (h : getB l k = some y) : getB l y.num = some y := by rw [(get_yes h).2.1]; exact h
theorem get_of {y2 : Port} (h : getB l k = some y) (h2 : getB l y.num = some y2) : y2 = y := by rw [get_self h] at h2; cases h2; rfl
theorem pos_of (h : getB l k = some y) : posB l y.num = posB l k := by rw [(get_yes h).2.1]
theorem pos_inj (hr : rightB l = true) (h1 : getB l a = some x) (h2 : getB l b = some y) (h : posB l a = posB l b) : a = b := by
  have p1 := (get_pos (ris_asc l 0 (right_ris hr)) h1).1
  have p2 := (get_pos (ris_asc l 0 (right_ris hr)) h2).1
  rw [h, p2] at p1; cases p1
  rw [← (get_yes h1).2.1, ← (get_yes h2).2.1]
theorem right_peer (hr : rightB l = true) (h : getB l k = some x) (h0 : ¬ x.peer = 0) : ∃ y, getB l x.peer = some y ∧ y.peer = x.num ∧ ¬ y.num = x.num := by
  have hm := (get_yes h).1
  have : linkB l x = true := by
    unfold rightB at hr
    simp only [Bool.and_eq_true, List.all_eq_true] at hr
    exact hr.2 x hm
  rcases hg : getB l x.peer with _ | y
  · rw [link_none h0 hg] at this; cases this
  · rw [link_some h0 hg] at this
    simp only [Bool.and_eq_true, decide_eq_true_eq, Bool.not_eq_true', decide_eq_false_iff_not] at this
    exact ⟨y, rfl, this.1, this.2⟩
theorem linkV_bad (h : rightB l = false) : linkV l a b = ([], 260) := by simp [linkV, h]
theorem linkV_n1 (h : rightB l = true) (h1 : getB l a = none) : linkV l a b = ([], 4) := by simp [linkV, h, h1]
theorem linkV_n2 (h : rightB l = true) (h1 : getB l b = none) : linkV l a b = ([], 4) := by cases h2 : getB l a <;> simp [linkV, h, h1, h2]
theorem linkV_same (h : rightB l = true) (h1 : getB l a = some x) (h2 : getB l b = some y) (e : a = b) : linkV l a b = ([], 2) := by simp only [linkV, h, h1, h2, if_pos e, if_true]
theorem linkV_has (h : rightB l = true) (h1 : getB l a = some x) (h2 : getB l b = some y) (e : ¬ a = b) (hp : ¬ (x.peer = 0 ∧ y.peer = 0)) : linkV l a b = ([], 261) := by simp only [linkV, h, h1, h2, if_neg e, if_true, if_neg hp]
theorem linkV_ok (h : rightB l = true) (h1 : getB l a = some x) (h2 : getB l b = some y) (e : ¬ a = b) (hp : x.peer = 0 ∧ y.peer = 0) :
    linkV l a b = ((l.set (posB l a) ⟨x.num, x.vcpu, b, x.pending, x.masked⟩).set (posB l b) ⟨y.num, y.vcpu, a, y.pending, y.masked⟩, 0) := by simp only [linkV, h, h1, h2, if_neg e, if_true, if_pos hp]
theorem sendV_bad (h : rightB l = false) : sendV l k = ([], 0, 260) := by simp [sendV, h]
theorem sendV_none (h : rightB l = true) (h1 : getB l k = none) : sendV l k = ([], 0, 4) := by simp [sendV, h, h1]
theorem sendV_alone (h : rightB l = true) (h1 : getB l k = some x) (h0 : x.peer = 0) : sendV l k = ([], 0, 261) := by simp [sendV, h, h1, h0]
theorem sendV_ok (h : rightB l = true) (h1 : getB l k = some x) (h0 : ¬ x.peer = 0) (h2 : getB l x.peer = some y) : sendV l k = turnP l y ⟨y.num, y.vcpu, y.peer, true, y.masked⟩ := by simp [sendV, h, h1, h0, h2]
theorem turnP_yes (h : dueB z = true) (h1 : dueB y = false ∨ y.vcpu ≠ z.vcpu) : turnP l y z = (l.set (posB l y.num) z, z.vcpu, 0) := by simp only [turnP, if_pos (And.intro h h1)]
theorem turnP_no (h : ¬ (dueB z = true ∧ (dueB y = false ∨ y.vcpu ≠ z.vcpu))) : turnP l y z = (l.set (posB l y.num) z, 0, 0) := by simp only [turnP, if_neg h]
end

/-- The numbers of the ports that something holds of. -/
def suchL (is : Port → Bool) (l : List Port) : List Int := (l.filter is).map Port.num
def isDue (own : Int) (x : Port) : Bool := dueB x && decide (x.vcpu = own)
/-- What the layer's Due answers. -/
def edueV (l : List Port) (own : Int) : List Int := if rightB l = true then suchL (isDue own) l else []
section
variable {l : List Port} {j : Nat} {x : Port} {is : Port → Bool} {own : Int}
theorem such_yes (hx : l[j]? = some x) (h : is x = true) : suchL is (l.take j) ++ [x.num] = suchL is (l.take (j + 1)) := by
  rw [List.take_add_one, hx]; simp [suchL, h]
theorem such_no (hx : l[j]? = some x) (h : is x = false) : suchL is (l.take j) = suchL is (l.take (j + 1)) := by
  rw [List.take_add_one, hx]; simp [suchL, h]
theorem such_len (is : Port → Bool) (l : List Port) : (suchL is l).length ≤ l.length := by unfold suchL; rw [List.length_map]; exact List.length_filter_le ..
theorem such_all (hj : l.length ≤ j) : suchL is (l.take j) = suchL is l := by rw [List.take_of_length_le hj]
theorem isDue_yes (h : dueB x = true) (hv : x.vcpu = own) : isDue own x = true := by simp [isDue, h, hv]
theorem isDue_no (h : dueB x = false) : isDue own x = false := by simp [isDue, h]
theorem isDue_not (hv : ¬ x.vcpu = own) : isDue own x = false := by simp [isDue, hv]
theorem edueV_bad (h : rightB l = false) : edueV l own = [] := by simp [edueV, h]
theorem edueV_ok (h : rightB l = true) : edueV l own = suchL (isDue own) l := by simp [edueV, h]
end
/-- What the sample does. -/
theorem wk1 : openV [] 1 = ([⟨1, 1, 0, false, false⟩], 1, 0) := by kernel_rfl
theorem wk2 : openV [⟨1, 1, 0, false, false⟩] 2 = ([⟨1, 1, 0, false, false⟩, ⟨2, 2, 0, false, false⟩], 2, 0) := by kernel_rfl
theorem wk3 : linkV [⟨1, 1, 0, false, false⟩, ⟨2, 2, 0, false, false⟩] 1 2 = ([⟨1, 1, 2, false, false⟩, ⟨2, 2, 1, false, false⟩], 0) := by kernel_rfl
theorem wk4 : sendV [⟨1, 1, 2, false, false⟩, ⟨2, 2, 1, false, false⟩] 1 = ([⟨1, 1, 2, false, false⟩, ⟨2, 2, 1, true, false⟩], 2, 0) := by kernel_rfl
theorem wk5 : edueV [⟨1, 1, 2, false, false⟩, ⟨2, 2, 1, true, false⟩] 2 = [2] := by kernel_rfl
end Go.Proofs.Ytfhlmijdokfdpaa
