/- The walker: slices, read and owned; append. -/
import Derived.Test.YtfhlmijdokfdpaaEc
namespace Go.Proofs.Ytfhlmijdokfdpaa
open Go Go.RowKit

theorem alA : ∀ {a b : List Prop}, AllP a → AllP b → AllP (a ++ b)
  | [], _, _, h => h
  | [p], [], h, _ => h
  | [p], q :: l, h, h2 => ⟨h, h2⟩
  | p :: q :: l, b, h, h2 => ⟨h.1, alA (a := q :: l) h.2 h2⟩
theorem allP_of : ∀ {l : List Prop}, (∀ p ∈ l, p) → AllP l
  | [], _ => trivial
  | [p], h => h p (by simp)
  | p :: q :: l, h => ⟨h p (by simp), allP_of fun r hr => h r (by simp [hr])⟩
theorem fit64 {n : Int} (h : -9223372036854775808 ≤ n) (h2 : n ≤ 9223372036854775807) : Fit .i64 n := ⟨h, h2⟩
theorem fitU {n : Int} (h : 0 ≤ n) (h2 : n ≤ 18446744073709551615) : Fit .u64 n := ⟨h, h2⟩

/-- A block of cells. -/
abbrev bx (g : Nat) (c : Array Value) (T : TypeId) : Ob := (g, .cells c T (0, 0))

/-- The memory at b, o holds these cells. -/
def Rd (w : World) (b o : Nat) (vs : List Value) : Prop := ∀ j v, vs[j]? = some v → w.cell? ⟨b, o + j, none⟩ = some v
def cellsP (w : World) (b : Nat) : Nat → List Value → List Prop
  | _, [] => []
  | o, v :: vs => (w.cell? ⟨b, o, none⟩ = some v) :: cellsP w b (o + 1) vs
def outs (b : Nat) : Nat → List Value → List Src
  | _, [] => []
  | o, v :: vs => .out ⟨b, o, none⟩ v :: outs b (o + 1) vs
def owns (j : Nat) : Nat → Nat → List Src
  | _, 0 => []
  | o, n + 1 => .own j o :: owns j (o + 1) n
def RdA (c : Array Value) (o : Nat) (vs : List Value) : Prop := ∀ j v, vs[j]? = some v → c[o + j]? = some v
def acellsP (c : Array Value) : Nat → List Value → List Prop
  | _, [] => []
  | o, v :: vs => (c[o]? = some v) :: acellsP c (o + 1) vs
def ownps (j : Nat) : Nat → List Value → List Src
  | _, [] => []
  | o, v :: vs => .ownp j o v :: ownps j (o + 1) vs
def roomP (c : Array Value) : Nat → Nat → List Prop
  | _, 0 => []
  | o, n + 1 => (o < c.size) :: roomP c (o + 1) n

theorem rd_all {w : World} {b : Nat} : ∀ {vs : List Value} {o : Nat}, Rd w b o vs → AllP (cellsP w b o vs)
  | [], _, _ => trivial
  | v :: vs, o, h => by
    have h1 : w.cell? ⟨b, o, none⟩ = some v := h 0 v rfl
    have h2 := rd_all (w := w) (b := b) (vs := vs) (o := o + 1) (fun j u hj => by have := h (j + 1) u (by simpa using hj); rwa [show o + (j + 1) = o + 1 + j by omega] at this)
    exact alA (a := [_]) h1 h2
theorem rd_part {w : World} {b o : Nat} {vs : List Value} (h : Rd w b o vs) (f : Nat) (us : List Value) (hu : (vs.drop f).take us.length = us) : AllP (cellsP w b (o + f) us) :=
  rd_all fun j u hj => by
    have hlt := (List.getElem?_eq_some_iff.1 hj).1
    have : vs[f + j]? = some u := by
      rw [← hu, List.getElem?_take, if_pos hlt, List.getElem?_drop] at hj
      exact hj
    have := h (f + j) u this
    rwa [← Nat.add_assoc] at this
theorem rd_pre {w : World} {b o : Nat} {vs : List Value} (h : Rd w b o vs) (us : List Value) (hu : vs.take us.length = us) : AllP (cellsP w b o us) := rd_part (f := 0) h us (by simpa using hu)
theorem rda_all {c : Array Value} : ∀ {vs : List Value} {o : Nat}, RdA c o vs → AllP (acellsP c o vs)
  | [], _, _ => trivial
  | v :: vs, o, h => by
    have h1 : c[o]? = some v := h 0 v rfl
    have h2 := rda_all (c := c) (vs := vs) (o := o + 1) (fun j u hj => by have := h (j + 1) u (by simpa using hj); rwa [show o + (j + 1) = o + 1 + j by omega] at this)
    exact alA (a := [_]) h1 h2
theorem rda_part {c : Array Value} {o : Nat} {vs : List Value} (h : RdA c o vs) (f : Nat) (us : List Value) (hu : (vs.drop f).take us.length = us) : AllP (acellsP c (o + f) us) :=
  rda_all fun j u hj => by
    have hlt := (List.getElem?_eq_some_iff.1 hj).1
    have : vs[f + j]? = some u := by
      rw [← hu, List.getElem?_take, if_pos hlt, List.getElem?_drop] at hj
      exact hj
    have := h (f + j) u this
    rwa [← Nat.add_assoc] at this
theorem rda_pre {c : Array Value} {o : Nat} {vs : List Value} (h : RdA c o vs) (us : List Value) (hu : vs.take us.length = us) : AllP (acellsP c o us) := rda_part (f := 0) h us (by simpa using hu)
theorem room_all {c : Array Value} : ∀ {n o : Nat}, o + n ≤ c.size → AllP (roomP c o n)
  | 0, _, _ => trivial
  | n + 1, o, h => alA (a := [_]) (show o < c.size by omega) (room_all (by omega))

/-- How elements of a kind lie in memory: k cells each. -/
class Enc (α : Type) where
  enc : α → List Value
  k : Nat
  len : ∀ x, (enc x).length = k
  one : ∀ x, ∀ v ∈ enc x, v.oneCell' = true
  pos : 0 < k
instance : Enc Int := ⟨fun n => [.int .i64 n], 1, fun _ => rfl, fun _ _ h => by simp at h; subst h; rfl, by decide⟩

section
variable {α : Type} [Enc α]
theorem flat_len : ∀ l : List α, (l.flatMap Enc.enc).length = l.length * Enc.k α
  | [] => by simp
  | x :: l => by rw [List.flatMap_cons, List.length_append, Enc.len, flat_len l, List.length_cons, Nat.add_mul]; omega
theorem flat_get : ∀ (l : List α) (i : Nat) (hi : i < l.length) (j : Nat), j < Enc.k α → (l.flatMap Enc.enc)[i * Enc.k α + j]? = (Enc.enc l[i])[j]?
  | x :: l, 0, _, j, hj => by simp [List.getElem?_append, Enc.len, hj]
  | x :: l, i + 1, hi, j, hj => by
    rw [List.flatMap_cons, List.getElem?_append_right (by rw [Enc.len, Nat.add_mul]; omega), Enc.len]
    have e : (i + 1) * Enc.k α + j - Enc.k α = i * Enc.k α + j := by rw [Nat.add_mul]; omega
    rw [e, flat_get l i (by simpa using hi) j hj]
    rfl

/-- A slice (nil, or at p) reads as l. -/
structure Sv (w : World) (p : Option Addr) (l : List α) : Prop where
  addr : l ≠ [] → ∃ b o, p = some ⟨b, o, none⟩
  cell : ∀ b o, p = some ⟨b, o, none⟩ → ∀ i (h : i < l.length), Rd w b (o + i * Enc.k α) (Enc.enc l[i])
variable {w w0 w1 : World} {p : Option Addr} {l : List α}
theorem Rd.kept {b o : Nat} {vs : List Value} (h : Rd w b o vs) (hb : Below w.heap.size w w1) : Rd w1 b o vs := fun j v hj => by
  have := h j v hj
  have hlt : b < w.heap.size := by
    rcases Nat.lt_or_ge b w.heap.size with h | h
    · exact h
    · simp [World.cell?, Array.getElem?_eq_none h] at this
  exact (hb.cell (p := ⟨b, o + j, none⟩) hlt).trans this
theorem Sv.kept (h : Sv w p l) (hb : Below w.heap.size w w1) : Sv w1 p l := ⟨h.addr, fun b o e i hi => (h.cell b o e i hi).kept hb⟩
theorem Sv.get {b o i : Nat} {x : α} (h : Sv w (some ⟨b, o, none⟩) l) (hx : l[i]? = some x) : Rd w b (o + i * Enc.k α) (Enc.enc x) := by
  obtain ⟨hi, rfl⟩ := List.getElem?_eq_some_iff.1 hx
  exact h.cell b o rfl i hi
theorem Sv.nil : Sv w p ([] : List α) := ⟨fun h => absurd rfl h, fun _ _ _ _ h => by simp at h⟩
theorem Sv.pos (h : Sv w p l) {i : Nat} (hi : i < l.length) : ∃ b o, p = some ⟨b, o, none⟩ := h.addr fun e => by subst e; simp at hi

/-- A slice of one's own: nil, or the one block of Y. -/
def SlO (T : TypeId) (Y : List Ob) (p : Option Addr) (n cap : Nat) (l : List α) : Prop :=
  (Y = [] ∧ p = none ∧ n = 0 ∧ cap = 0 ∧ l = []) ∨ ∃ g cs, Y = [(g, .cells cs T (0, 0))] ∧ p = some ⟨g, 0, none⟩ ∧ n = l.length ∧ OwnS (Enc.k α) (l.flatMap Enc.enc) n cap cs
theorem SlO.nil {T : TypeId} : SlO T [] none 0 0 ([] : List α) := .inl ⟨rfl, rfl, rfl, rfl, rfl⟩
theorem SlO.len {T : TypeId} {Y : List Ob} {n cap : Nat} (h : SlO T Y p n cap l) : n = l.length := by
  rcases h with ⟨_, _, h, _, rfl⟩ | ⟨g, cs, _, _, h, _⟩
  · simpa using h
  · exact h
theorem OwnS.rda {n cap : Nat} {cs : Array Value} (h : OwnS (Enc.k α) (l.flatMap Enc.enc) n cap cs) (hn : n = l.length) (i : Nat) (hi : i < l.length) : RdA cs (i * Enc.k α) (Enc.enc l[i]) := fun j v hj => by
  have hjk : j < Enc.k α := by rw [← Enc.len l[i]]; exact (List.getElem?_eq_some_iff.1 hj).1
  have hm : (i + 1) * Enc.k α ≤ n * Enc.k α := Nat.mul_le_mul_right _ (by omega)
  rw [Nat.add_mul] at hm
  rw [h.get _ (by omega), flat_get l i hi j hjk, hj]
theorem SlO.at {T : TypeId} {Y R : List Ob} {n cap : Nat} (h : SlO T Y p n cap l) (H : Hs w0 (Y ++ R) w) : Sv w p l := by
  rcases h with ⟨rfl, rfl, _, _, rfl⟩ | ⟨g, cs, rfl, rfl, hn, hO⟩
  · exact Sv.nil
  · have hg : w.heap[g]? = some (.cells cs T (0, 0)) := H.rows (g, .cells cs T (0, 0)) (by simp)
    refine ⟨fun _ => ⟨g, 0, rfl⟩, fun b o e i hi j v hj => ?_⟩
    simp at e
    obtain ⟨rfl, rfl⟩ := e
    have := hO.rda hn i hi j v hj
    rw [Nat.zero_add, cell_own hg]
    exact this
end

/-- What append asks of its slice's type. -/
def elemB (P : Program) (t T : TypeId) (k by_ : Nat) : Bool := match P.underlying t with
  | some (.slice T') => T' == T && (match P.info? T with
    | some i => (match i.zero with
      | some z => z.cells.size == i.size
      | none => false) && i.size == k && i.bytes == by_
    | none => false)
  | _ => false

theorem turn_put {g : Nat} {cs : Array Value} {t : TypeId} {w w1 : World} (hp : Put g cs t w w1) : Turn g (.cells cs t (0, 0)) w w1 := by
  have := hp.below 0 w (Nat.zero_le _) (Below.refl _ _)
  exact ⟨hp.row, hp.rest, hp.size, this.os, this.tape, this.output⟩

section
variable {P : Program} {w w0 : World} {t tx ty T : TypeId} {k by_ : Nat}
theorem elemB_spec (h : elemB P t T k by_ = true) : P.underlying t = some (.slice T) ∧ ∃ i z, P.info? T = some i ∧ i.zero = some z ∧ z.cells.size = i.size ∧ i.size = k ∧ i.bytes = by_ := by
  unfold elemB at h
  split at h <;> try cases h
  rename_i T' hu
  simp only [Bool.and_eq_true, beq_iff_eq] at h
  obtain ⟨rfl, h⟩ := h
  split at h <;> try cases h
  rename_i i hi
  simp only [Bool.and_eq_true, beq_iff_eq] at h
  obtain ⟨⟨h1, h2⟩, h3⟩ := h
  split at h1 <;> try cases h1
  rename_i z hz
  exact ⟨hu, i, z, hi, hz, by simpa using h1, h2, h3⟩

/-- append onto one's own slice. -/
theorem run_appO {α : Type} [Enc α] (hE : elemB P t T (Enc.k α) by_ = true) {Y R : List Ob} {p : Option Addr} {n cap m : Nat} {l l2 : List α} {y : Value} (H : Hs w0 (Y ++ R) w) (hO : SlO T Y p n cap l) (hs : Go.Src P (Enc.k α) tx y m (l2.flatMap Enc.enc) w) (hm : m = l2.length)
    (hmax : n + m ≤ maxLen) (hb : (n + m) * by_ ≤ 140737488355328) :
    ∃ p' cap' w' Y', (Builtin.append_ #[t, tx] ty #[.slice p n cap, y]).run P w = .ok (.slice p' (n + m) cap') w' ∧ SlO T Y' p' (n + m) cap' (l ++ l2) ∧ Hs w0 (Y' ++ R) w' := by
  obtain ⟨ht, i, z, hi, hz, hzs, hk, hby⟩ := elemB_spec hE
  have h0 : 0 < i.size := by rw [hk]; exact Enc.pos
  rw [← hk] at hs
  subst hby
  have hlen := hs.newsLen
  rcases hO with ⟨rfl, rfl, rfl, rfl, rfl⟩ | ⟨g, cs, rfl, rfl, hn, hO⟩
  · by_cases hm0 : m = 0
    · subst hm0
      obtain rfl : l2 = [] := List.length_eq_zero_iff.1 hm.symm
      refine ⟨none, 0, w, [], ?_, SlO.nil, H⟩
      rcases hs.kind with ⟨e', hkd⟩ | hkd <;> simp [Builtin.append_, run_underlying ht, run_underlying hkd, sizeOf, typeInfo, hi, hs.len, hs.cells]
    · have hfit := growslice_fits (need := 0 + m) (old := 0) (bytes := i.bytes) (by omega) hb
      refine ⟨_, _, _, [(w.heap.size, _)], run_append_grow_src w t tx ty T i z ht hi hz none 0 0 [] (run_firstCells_none _ _ _ _ _) _ m _ hs (by omega) (by simp only [maxLen] at hmax; omega) hfit, .inr ⟨_, _, rfl, rfl, by simp [hm], ⟨?_, grownCap_ge w (0 + m) 0 T, grownCap_le_maxLen w (0 + m) 0 T hmax, ?_, ?_⟩⟩, H.drew.cons _⟩
      · rw [List.nil_append, hlen, ← hk, Nat.zero_add]
      · have hge := grownCap_ge w (0 + m) 0 T
        rw [Array.size_append, size_zeroCells, ← hk]
        simp only [List.size_toArray, List.nil_append, hlen, hzs, ← Nat.add_mul]
        congr 1; omega
      · rw [Array.toList_append, ← hk]
        simp only [List.toList_toArray]
        rw [List.take_append_of_le_length (by simp [hlen]), List.take_of_length_le (by simp [hlen])]
        simp
  · rw [← hk] at hO
    have hrow : IsR w g cs T := H.rows (g, _) (by simp)
    by_cases hroom : n + m ≤ cap
    · have hsz : (n + m) * i.size ≤ cap * i.size := Nat.mul_le_mul_right _ hroom
      have hadd : (n + m) * i.size = n * i.size + m * i.size := Nat.add_mul ..
      by_cases hnew : l2 = []
      · subst hnew
        have hm0 : m = 0 := by simpa using hm
        subst hm0
        refine ⟨_, _, w, [(g, _)], run_append_room_src w t tx ty T i ht hi g 0 n cap _ 0 _ hs hroom (by simp) (by simp), .inr ⟨g, cs, rfl, rfl, by simpa using hn, by simpa [hk] using hO⟩, H⟩
      · have hne : l2.flatMap Enc.enc ≠ [] := fun e => hnew (by
          rw [e] at hlen
          have : m = 0 := by
            rcases Nat.mul_eq_zero.1 hlen.symm with h1 | h1
            · exact h1
            · omega
          rw [hm] at this
          exact List.length_eq_zero_iff.1 this)
        obtain ⟨cs', hp, hs1, ht1⟩ := put_setCells g T (l2.flatMap Enc.enc) (0 + n * i.size) w cs hrow (by rw [hO.csz, hlen]; omega) hne
        refine ⟨_, _, _, [(g, _)], run_append_room_src w t tx ty T i ht hi g 0 n cap _ m _ hs hroom (fun j hj => ?_) (fun j _ => hrow.froz _), .inr ⟨g, cs', rfl, rfl, by simp [hn, hm], ?_⟩, H.turn 0 rfl (turn_put hp)⟩
        · rw [hrow.cell, Array.getElem?_eq_getElem (by rw [hO.csz]; omega)]; rfl
        · rw [← hk]
          refine ⟨by rw [List.flatMap_append, List.length_append, hO.len, hlen, hadd], hroom, hO.max, hs1.trans hO.csz, ?_⟩
          rw [hadd, ← hlen, ← Nat.zero_add (n * i.size), ht1, Nat.zero_add, hO.pre, List.flatMap_append]
    · have hfit := growslice_fits (need := n + m) (old := cap) (bytes := i.bytes) (by omega) hb
      refine ⟨_, _, _, [(w.heap.size, _)], run_append_grow_src w t tx ty T i z ht hi hz _ n cap _ (run_firstCells_some _ i.size n ⟨g, 0, none⟩ n cap _ hO.len (fun j v hj => ?_)) _ m _ hs (by omega) (by simp only [maxLen] at hmax; omega) hfit, .inr ⟨_, _, rfl, rfl, by simp [hn, hm], ⟨?_, grownCap_ge w (n + m) cap T, grownCap_le_maxLen w (n + m) cap T hmax, ?_, ?_⟩⟩, ((H.sub (List.sublist_cons_self ..)).drew.cons _)⟩
      · have hkl : j < n * i.size := by rw [← hO.len]; exact (List.getElem?_eq_some_iff.1 hj).1
        have hadd : (⟨g, 0, none⟩ : Addr).add j = ⟨g, j, none⟩ := by unfold Addr.add; split <;> simp_all
        rw [hadd]
        show w.drew.cell? _ = _
        rw [World.cell?_drew, hrow.cell, hO.get j hkl, hj]
      · rw [List.flatMap_append, List.length_append, hO.len, hlen, ← hk, Nat.add_mul]
      · have hge := grownCap_ge w (n + m) cap T
        rw [Array.size_append, size_zeroCells, ← hk]
        simp only [List.size_toArray, List.length_append, hO.len, hlen, hzs, ← Nat.add_mul]
        congr 1; omega
      · rw [Array.toList_append, List.flatMap_append, ← hk]
        simp only [List.toList_toArray]
        rw [List.take_append_of_le_length (by rw [List.length_append, hO.len, hlen, ← Nat.add_mul]; exact Nat.le_refl _), List.take_of_length_le (by rw [List.length_append, hO.len, hlen, ← Nat.add_mul]; exact Nat.le_refl _)]
end

section
variable {E : Env} {k : List Fr} {l : Sl} {L : List Ob} {all os : List Oper} {o : Oper} {i : Nat}
theorem src_sv {α : Type} [Enc α] {P : Program} {tx e : TypeId} {w : World} {p : Option Addr} {cap : Nat} {l2 : List α} (hu : P.underlying tx = some (.slice e)) (h : Sv w p l2) : Go.Src P (Enc.k α) tx (.slice p l2.length cap) l2.length (l2.flatMap Enc.enc) w := by
  by_cases hl : l2 = []
  · subst hl
    cases p with
    | none => exact Go.Src.ofNil _ hu _
    | some q => exact Go.Src.ofSlice _ hu q 0 cap [] (by simp) (fun j u hj => by simp at hj) (fun _ h => by cases h)
  · obtain ⟨b, o, rfl⟩ := h.addr hl
    refine Go.Src.ofSlice _ hu ⟨b, o, none⟩ _ cap _ (flat_len l2) (fun j u hj => ?_) (fun u hu => ?_)
    · have hlt : j < l2.length * Enc.k α := by rw [← flat_len]; exact (List.getElem?_eq_some_iff.1 hj).1
      have hk : 0 < Enc.k α := Enc.pos
      have hi : j / Enc.k α < l2.length := Nat.div_lt_of_lt_mul (by rwa [Nat.mul_comm])
      have hjm : j % Enc.k α < Enc.k α := Nat.mod_lt _ hk
      have ej : j / Enc.k α * Enc.k α + j % Enc.k α = j := by rw [Nat.mul_comm]; exact Nat.div_add_mod ..
      have h2 := flat_get l2 _ hi _ hjm
      rw [ej, hj] at h2
      have h3 := h.cell b o rfl _ hi (j % Enc.k α) u h2.symm
      have e : (⟨b, o, none⟩ : Addr).add j = ⟨b, o + j, none⟩ := by unfold Addr.add; split <;> simp_all
      rw [e]
      rwa [Nat.add_assoc, ej] at h3
    · obtain ⟨x, _, hx⟩ := List.mem_flatMap.1 hu
      exact Enc.one x u hx

theorem mv0 {y : Ob} {A R : List Ob} : (y :: (A ++ R)).Perm (A ++ ([y] ++ R)) := List.perm_middle.symm
theorem mvE {y : Ob} {L A R : List Ob} (h : L = y :: (A ++ R)) : L.Perm (A ++ ([y] ++ R)) := h ▸ mv0
/-- append onto a slice of one's own. -/
theorem ops_append {α : Type} [Enc α] (A Y R : List Ob) (hL : L.Perm (A ++ (Y ++ R))) {x y : Operand} {t tx T : TypeId} {by_ : Nat} (ho : o.op = .call { callee := .builtin .append, args := #[x, y], argTypes := #[t, tx] })
    (hw : wantL all l o = some true) (hd : (okD E.n o.dst && knownO l o) = true) {p : Option Addr} {n cap m : Nat} {yv : Value} (hx : look l x = .slice p n cap) (hy : look l y = yv) (hE : elemB E.P t T (Enc.k α) by_ = true) (xs ys : List α) (hO : SlO T Y p n cap xs)
    (hs : ∀ w, Hs E.w0 L w → Go.Src E.P (Enc.k α) tx yv m (ys.flatMap Enc.enc) w) (hm : m = ys.length) (hmax : n + m ≤ maxLen) (hb : (n + m) * by_ ≤ 140737488355328)
    (h : ∀ Y' p' cap', SlO T Y' p' (n + m) cap' (xs ++ ys) → Ops E k all os (i + 1) (putL o.dst (.slice p' (n + m) cap') l) (A ++ (Y' ++ R))) : Ops E k all (o :: os) i l L := by
  refine ⟨fun a w ha hw' => ?_⟩
  simp only [Bool.and_eq_true] at hd
  have hg := wantL_spec ha hw
  refine wpListIn_step fun K hK => ?_
  rw [if_pos hg]
  have H : Hs E.w0 (Y ++ (A ++ R)) w := (hw'.perm hL).perm (by rw [← List.append_assoc, ← List.append_assoc]; exact List.perm_append_comm.append_right R)
  obtain ⟨p', cap', w', Y', hr, hO', H'⟩ := run_appO (ty := o.type) hE H hO (hs w hw') hm hmax hb
  refine ⟨fun _ _ => trivial, ?_⟩
  rw [Oper.semAt_eq _ _ _ (fun c e => by rw [ho] at e; cases e), look_exec ha hd.2]
  have e : (execOp (look l) o).run E.P w = .ok (.value (.slice p' (n + m) cap')) w' := by
    simp [execOp, ho, resolve, invoke, builtin, hx, hy, hr]
  rw [e]
  exact hK _ _ ((h Y' p' cap' hO').out _ _ (ha.put hd.1 _) (H'.perm (by rw [← List.append_assoc, ← List.append_assoc]; exact List.perm_append_comm.append_right R)))
theorem src_svn {α : Type} [Enc α] {P : Program} {tx e : TypeId} {w : World} {p : Option Addr} {cap m : Nat} {l2 : List α} (hu : P.underlying tx = some (.slice e)) (h : Sv w p l2) (hm : m = l2.length) : Go.Src P (Enc.k α) tx (.slice p m cap) m (l2.flatMap Enc.enc) w := by
  subst hm
  exact src_sv hu h
theorem owns_lit {α : Type} [Enc α] {xs : List α} {n : Nat} {cs : Array Value} (hn : n = xs.length) (hc : cs.toList = xs.flatMap Enc.enc) (hm : n ≤ maxLen) : OwnS (Enc.k α) (xs.flatMap Enc.enc) n n cs := by
  subst hn
  refine ⟨flat_len xs, Nat.le_refl _, hm, by rw [← Array.length_toList, hc, flat_len], ?_⟩
  rw [hc, List.take_of_length_le (by rw [flat_len]; exact Nat.le_refl _)]
theorem SlO.lit {α : Type} [Enc α] {T : TypeId} {xs : List α} {n g : Nat} {cs : Array Value} (hn : n = xs.length) (hc : cs.toList = xs.flatMap Enc.enc) (hm : n ≤ maxLen) : SlO T [bx g cs T] (some ⟨g, 0, none⟩) n n xs := .inr ⟨g, cs, rfl, rfl, hn, owns_lit hn hc hm⟩
theorem SlO.atN {α : Type} [Enc α] {T : TypeId} {A Y R : List Ob} {p : Option Addr} {n cap : Nat} {l : List α} {w0 w : World} (h : SlO T Y p n cap l) (H : Hs w0 (A ++ (Y ++ R)) w) : Sv w p l :=
  h.at (R := A ++ R) (H.perm (by rw [← List.append_assoc, ← List.append_assoc]; exact List.perm_append_comm.append_right R))
theorem SlO.rowOf {α : Type} [Enc α] {T : TypeId} {Y : List Ob} {p : Option Addr} {n cap i : Nat} {l : List α} (h : SlO T Y p n cap l) (hi : i < l.length) : ∃ g cs, Y = [bx g cs T] ∧ p = some ⟨g, 0, none⟩ ∧ OwnS (Enc.k α) (l.flatMap Enc.enc) n cap cs := by
  rcases h with ⟨_, _, _, _, rfl⟩ | ⟨g, cs, h1, h2, _, h4⟩
  · simp at hi
  · exact ⟨g, cs, h1, h2, h4⟩
theorem Hs.tailN {w0 w : World} {L : List Ob} (h : Hs w0 L w) (n : Nat) : Hs w0 (L.drop n) w := h.sub (List.drop_sublist _ _)
/-- A slice of one's own that a call has made is laid behind the first n blocks. -/
theorem Hs.join {w0 w w' : World} {L Y : List Ob} (h : Hs w0 L w) (hb : Below w.heap.size w w') (hY : Hs w Y w') (n : Nat) : Hs w0 (L.take n ++ (Y ++ L.drop n)) w' := by
  have h1 := h.kept hb
  have : Hs w0 (Y ++ L) w' := by
    refine ⟨fun r hr => ?_, fun r hr => ?_, ?_, h1.below⟩
    · rcases List.mem_append.1 hr with hr | hr
      · exact hY.rows r hr
      · exact h1.rows r hr
    · rcases List.mem_append.1 hr with hr | hr
      · exact Nat.le_trans h.below.size (hY.low r hr)
      · exact h1.low r hr
    · rw [List.map_append, List.nodup_append]
      refine ⟨hY.apart, h1.apart, fun a ha b hb' e => ?_⟩
      obtain ⟨r, hr1, rfl⟩ := List.mem_map.1 ha
      obtain ⟨s, hs1, rfl⟩ := List.mem_map.1 hb'
      have := hs_lt (h.rows s hs1)
      have := hY.low r hr1
      omega
  refine this.perm ?_
  have e : L = L.take n ++ L.drop n := (List.take_append_drop n L).symm
  calc Y ++ L = Y ++ (L.take n ++ L.drop n) := by rw [← e]
    _ = (Y ++ L.take n) ++ L.drop n := (List.append_assoc ..).symm
    List.Perm _ ((L.take n ++ Y) ++ L.drop n) := List.perm_append_comm.append_right _
    _ = L.take n ++ (Y ++ L.drop n) := List.append_assoc ..
theorem sv_row {α : Type} [Enc α] {T : TypeId} {w : World} {g : Nat} {cs : Array Value} {xs : List α} (hg : w.heap[g]? = some (.cells cs T (0, 0))) (hc : cs.toList = xs.flatMap Enc.enc) : Sv w (some ⟨g, 0, none⟩) xs :=
  ⟨fun _ => ⟨g, 0, rfl⟩, fun b o e i hi j v hj => by
    simp at e
    obtain ⟨rfl, rfl⟩ := e
    have hjk : j < Enc.k α := by rw [← Enc.len xs[i]]; exact (List.getElem?_eq_some_iff.1 hj).1
    have := flat_get xs i hi j hjk
    rw [hj, ← hc] at this
    rw [Nat.zero_add, cell_own hg]
    simpa using this⟩
end
end Go.Proofs.Ytfhlmijdokfdpaa
