/- Texts of this proof, one behind the other. -/
import Derived.Test.YtfhlmijdokfdpaaZe
import Derived.Test.YtfhlmijdokfdpaaZc
/-! Ports: what an op does, told by what is in the rows. -/
namespace Go.Proofs.Ytfhlmijdokfdpaa
open Go Go.RowKit

section
variable {l : List Port} {k n own a b : Int} {x y z : Port} {f : Port → Port} {p : Port → Bool} {o : OpA}
theorem kd_range (k : Int) : 0 ≤ kdI k ∧ kdI k < 12 := by
  unfold kdI
  have h : 0 ≤ IntKind.u64.wrap k := by
    simp only [IntKind.wrap, IntKind.bits, IntKind.signed]
    simp only [Bool.false_and, Bool.false_eq_true, if_false]
    exact Int.emod_nonneg _ (by decide)
  rw [Int.tmod_eq_emod_of_nonneg h]
  omega
theorem get_map (h : Good l) (hf : ∀ x ∈ l, (f x).num = x.num) (hx : x ∈ l) : getB (l.map f) x.num = some (f x) := by
  have hp : (l.map f).Pairwise fun x y => x.num < y.num := by
    rw [List.pairwise_map]
    refine List.Pairwise.imp_of_mem (fun {a b} ha hb hab => ?_) h.rise
    rw [hf a ha, hf b hb]; exact hab
  exact (get_iff hp).2 ⟨List.mem_map.2 ⟨x, hx, rfl⟩, hf x hx⟩
theorem get_remove (h : Good l) (hx : x ∈ l) : getB (removeV p l) x.num = if p x = true then none else some (unl (suchL p l) x) := by
  have hg := good_remove (p := p) h
  split
  · rename_i hp
    rw [get_no]
    intro y hy e
    obtain ⟨z, hz, hpz, rfl⟩ := mem_remove.1 hy
    rw [unl_num] at e
    rw [rise_inj h.rise hz hx e, hp] at hpz; cases hpz
  · rename_i hp
    exact (get_iff hg.rise).2 ⟨mem_remove.2 ⟨x, hx, by simpa using hp, rfl⟩, unl_num⟩
/-! ### what each mover leaves, where there is no error -/
theorem open_good (h : Good l) (he : (openV l own).2.2 = 0) : vcpuB own = true ∧ ¬ openI l 0 = 32 ∧ openV l own = (l.take (openI l 0) ++ [⟨((openI l 0 + 1 : Nat) : Int), own, 0, false, false⟩] ++ l.drop (openI l 0), ((openI l 0 + 1 : Nat) : Int), 0) := by
  have hr := right_iff.2 h
  unfold openV at he ⊢
  rw [if_pos hr] at he ⊢
  by_cases hv : vcpuB own = true
  · rw [if_pos hv] at he ⊢
    by_cases h32 : openI l 0 = 32
    · rw [if_pos h32] at he; cases he
    · rw [if_neg h32]; exact ⟨hv, h32, rfl⟩
  · rw [if_neg hv] at he; cases he
def linF (a b : Int) (x : Port) : Port := if x.num = a then ⟨x.num, x.vcpu, b, x.pending, x.masked⟩ else if x.num = b then ⟨x.num, x.vcpu, a, x.pending, x.masked⟩ else x
theorem link_good (h : Good l) (he : (linkV l a b).2 = 0) : ∃ x y, x ∈ l ∧ y ∈ l ∧ x.num = a ∧ y.num = b ∧ a ≠ b ∧ x.peer = 0 ∧ y.peer = 0 ∧ linkV l a b = (l.map (linF a b), 0) := by
  have hr := right_iff.2 h
  unfold linkV at he ⊢
  rw [if_pos hr] at he ⊢
  cases hx : getB l a with
  | none => rw [hx] at he; cases he
  | some x =>
    rw [hx] at he
    cases hy : getB l b with
    | none => rw [hy] at he; cases he
    | some y =>
      rw [hy] at he
      simp only at he ⊢
      by_cases e : a = b
      · rw [if_pos e] at he; cases he
      · rw [if_neg e] at he ⊢
        by_cases e0 : x.peer = 0 ∧ y.peer = 0
        · rw [if_pos e0]
          obtain ⟨hx1, hx2⟩ := (get_iff h.rise).1 hx
          obtain ⟨hy1, hy2⟩ := (get_iff h.rise).1 hy
          refine ⟨x, y, hx1, hy1, hx2, hy2, e, e0.1, e0.2, ?_⟩
          congr 1
          have s1 := set_put (z := ⟨x.num, x.vcpu, b, x.pending, x.masked⟩) h (x := x) (by simp only; rw [hx2]; exact hx)
          simp only [hx2] at s1
          rw [hx2, s1]
          have hg2 : l.map (putF ⟨a, x.vcpu, b, x.pending, x.masked⟩) = (l.map (putF ⟨a, x.vcpu, b, x.pending, x.masked⟩)) := rfl
          -- the second one: places are as they were
          have hnum : ∀ u : Port, (putF ⟨a, x.vcpu, b, x.pending, x.masked⟩ u).num = u.num := fun u => by unfold putF; split <;> simp_all
          have hpos : posB (l.map (putF ⟨a, x.vcpu, b, x.pending, x.masked⟩)) b = posB l b := by
            unfold posB
            rw [List.takeWhile_map, List.length_map]
            congr 2
            funext u
            simp [hnum]
          rw [← hpos]
          apply List.ext_getElem?
          intro i
          have hra := ris_asc l 0 (right_ris hr)
          obtain ⟨p1, p2⟩ := get_pos hra hy
          rw [hpos, List.getElem?_set, List.getElem?_map]
          by_cases hi : posB l b = i
          · subst hi
            rw [if_pos rfl, if_pos (by simpa using p2), List.getElem?_map, p1]
            simp [linF, hy2, Ne.symm e]
          · rw [if_neg hi, List.getElem?_map]
            rcases hu : l[i]? with _ | u
            · rfl
            · have hub : ¬ u.num = b := fun eu => by
                rcases Nat.lt_trichotomy (posB l b) i with h3 | h3 | h3
                · have := hra _ _ _ _ h3 p1 hu; omega
                · exact hi h3
                · have := hra _ _ _ _ h3 hu p1; omega
              by_cases hua : u.num = a
              · have : u = x := rise_inj h.rise (List.mem_of_getElem? hu) hx1 (by omega)
                subst this
                simp [putF, linF, hua]
              · simp [putF, linF, hua, hub]
        · rw [if_neg e0] at he; cases he
theorem close_good (h : Good l) (he : (closeV l k).2 = 0) : closeV l k = (removeV (isNum k) l, 0) := by
  have hr := right_iff.2 h
  unfold closeV at he ⊢
  rw [if_pos hr] at he ⊢
  split at he
  · cases he
  · rename_i hn; rw [if_neg hn]
theorem drop_good (h : Good l) (he : (dropV l own).2.2 = 0) : (dropV l own).1 = removeV (isOwn own) l := by
  have hr := right_iff.2 h
  unfold dropV at he ⊢
  rw [if_pos hr] at he ⊢
  split at he
  · rename_i hn; rw [if_pos hn]
  · cases he
def waN (y z : Port) : Int := if dueB z = true ∧ (dueB y = false ∨ y.vcpu ≠ z.vcpu) then z.vcpu else 0
theorem turnP_map (h : Good l) (hy : y ∈ l) (hn : z.num = y.num) : turnP l y z = (l.map (putF z), waN y z, 0) := by
  unfold turnP waN
  have := set_put (z := z) h (x := y) (by rw [hn]; exact (get_iff h.rise).2 ⟨hy, rfl⟩)
  rw [← hn, this]
theorem send_good (h : Good l) (he : (sendV l k).2.2 = 0) : ∃ x y, x ∈ l ∧ y ∈ l ∧ x.num = k ∧ x.peer = y.num ∧ y.peer = k ∧ sendV l k = (l.map (putF (raiF y)), waN y (raiF y), 0) := by
  have hr := right_iff.2 h
  cases hx : getB l k with
  | none => rw [sendV_none hr hx] at he; cases he
  | some x =>
    by_cases h0 : x.peer = 0
    · rw [sendV_alone hr hx h0] at he; cases he
    · obtain ⟨hx1, hx2⟩ := (get_iff h.rise).1 hx
      rcases h.peer x hx1 with h1 | ⟨y, hy, h1, h2, h3⟩
      · exact absurd h1 h0
      · refine ⟨x, y, hx1, hy, hx2, h1.symm, by omega, ?_⟩
        rw [sendV_ok hr hx h0 ((get_iff h.rise).2 ⟨hy, h1⟩)]
        exact turnP_map h hy rfl
theorem turn_good (h : Good l) (hf : ∀ x, (f x).num = x.num) (he : (turnV l k f).2.2 = 0) : ∃ x, x ∈ l ∧ x.num = k ∧ turnV l k f = (l.map (putF (f x)), waN x (f x), 0) := by
  have hr := right_iff.2 h
  cases hx : getB l k with
  | none => rw [turnV_none hr hx] at he; cases he
  | some x =>
    obtain ⟨hx1, hx2⟩ := (get_iff h.rise).1 hx
    exact ⟨x, hx1, hx2, by rw [turnV_ok hr hx]; exact turnP_map h hx1 (hf x)⟩
def binF (own : Int) (x : Port) : Port := ⟨x.num, own, x.peer, x.pending, x.masked⟩
theorem bind_good (h : Good l) (he : (bindV l k own).2.2 = 0) : vcpuB own = true ∧ ∃ x, x ∈ l ∧ x.num = k ∧ bindV l k own = (l.map (putF (binF own x)), waN x (binF own x), 0) := by
  have hr := right_iff.2 h
  by_cases hv : vcpuB own = true
  · cases hx : getB l k with
    | none => rw [bindV_none hr hv hx] at he; cases he
    | some x =>
      obtain ⟨hx1, hx2⟩ := (get_iff h.rise).1 hx
      exact ⟨hv, x, hx1, hx2, by rw [bindV_ok hr hv hx]; exact turnP_map (z := binF own x) h hx1 rfl⟩
  · rw [bindV_arg hr (by simpa using hv)] at he; cases he
def cleF (x : Port) : Port := ⟨x.num, x.vcpu, x.peer, false, x.masked⟩
theorem clear_good (h : Good l) (he : (clearV l k).2.2 = 0) : ∃ x, x ∈ l ∧ x.num = k ∧ (clearV l k).1 = l.map (putF (cleF x)) := by
  have hr := right_iff.2 h
  cases hx : getB l k with
  | none => rw [clearV_none hr hx] at he; cases he
  | some x =>
    obtain ⟨hx1, hx2⟩ := (get_iff h.rise).1 hx
    refine ⟨x, hx1, hx2, ?_⟩
    rw [clearV_ok hr hx]
    exact set_put (z := cleF x) h (x := x) ((get_iff h.rise).2 ⟨hx1, rfl⟩)
theorem putF_num : (putF z x).num = x.num := by unfold putF; split <;> simp_all
/-- What stays, what goes. -/
def StayOk (kd a vcpu : Int) (x : Port) (g : Option Port) : Prop :=
  (g = none ↔ (kd = 3 ∧ x.num = a ∨ kd = 4 ∧ x.vcpu = vcpu)) ∧ ∀ y, g = some y → (x.pending = true → y.pending = false → kd = 11 ∧ x.num = a) ∧ (x.pending = false → y.pending = true → (5 ≤ kd ∧ kd < 8 ∧ x.peer = a) ∨ (kd = 8 ∧ x.num = a))
/-- Who has come. -/
def Had (l : List Port) (y : Port) : Prop := ∃ x ∈ l, x.num = y.num ∧ x.vcpu = y.vcpu ∧ dueB x = true
def Came (l l' : List Port) (w : Int) : Prop := (∀ y ∈ l', dueB y = true → ¬ Had l y → y.vcpu = w ∧ 0 < w) ∧ (0 < w → ∃ y ∈ l', dueB y = true ∧ ¬ Had l y)
def wokN (kd n : Int) : Int := if 5 ≤ kd ∧ kd ≤ 10 then n else 0
theorem vcpu_pos (h : vcpuB n = true) : 0 < n := by
  unfold vcpuB at h
  simp only [Bool.and_eq_true, decide_eq_true_eq] at h; omega
theorem came_put (h : Good l) (hx : x ∈ l) (hn : z.num = x.num) (hv : vcpuB z.vcpu = true) : Came l (l.map (putF z)) (waN x z) := by
  have hz : Had l z ↔ (dueB x = true ∧ x.vcpu = z.vcpu) := by
    constructor
    · rintro ⟨u, hu, h1, h2, h3⟩
      have : u = x := rise_inj h.rise hu hx (by omega)
      subst this; exact ⟨h3, h2⟩
    · rintro ⟨h1, h2⟩; exact ⟨x, hx, hn.symm, h2, h1⟩
  unfold Came waN
  refine ⟨fun y hy hd hn' => ?_, fun hw => ?_⟩
  · rcases (mem_put h hx hn).1 hy with rfl | ⟨hy, _⟩
    · rw [hz] at hn'
      have : dueB x = false ∨ x.vcpu ≠ y.vcpu := by
        cases hdx : dueB x with
        | false => exact .inl rfl
        | true => exact .inr fun e => hn' ⟨hdx, e⟩
      rw [if_pos ⟨hd, this⟩]
      exact ⟨rfl, vcpu_pos hv⟩
    · exact absurd ⟨y, hy, rfl, rfl, hd⟩ hn'
  · split at hw
    · rename_i hc
      refine ⟨z, (mem_put h hx hn).2 (.inl rfl), hc.1, fun hh => ?_⟩
      rw [hz] at hh
      rcases hc.2 with e | e
      · rw [hh.1] at e; cases e
      · exact e hh.2
    · omega
theorem came_none {l' : List Port} (h : ∀ y ∈ l', dueB y = true → Had l y) : Came l l' 0 := ⟨fun y hy hd hn => absurd (h y hy hd) hn, fun h => by omega⟩
theorem due_eq (h1 : x.pending = y.pending) (h2 : x.masked = y.masked) : dueB x = dueB y := by unfold dueB; rw [h1, h2]
/-- All that is asked of an op, where there is no error. -/
structure RunOk (l l' : List Port) (o : OpA) (n : Int) : Prop where
  good : Good l'
  stay : ∀ x ∈ l, StayOk (kdI o.kind) o.a o.vcpu x (getB l' x.num)
  came : Came l l' (wokN (kdI o.kind) n)
theorem stay_map (h : Good l) (hf : ∀ x ∈ l, (f x).num = x.num) (h3 : ¬ kdI o.kind = 3) (h4 : ¬ kdI o.kind = 4) (hx : x ∈ l)
    (h1 : x.pending = true → (f x).pending = false → kdI o.kind = 11 ∧ x.num = o.a) (h2 : x.pending = false → (f x).pending = true → (5 ≤ kdI o.kind ∧ kdI o.kind < 8 ∧ x.peer = o.a) ∨ (kdI o.kind = 8 ∧ x.num = o.a)) :
    StayOk (kdI o.kind) o.a o.vcpu x (getB (l.map f) x.num) := by
  rw [get_map h hf hx]
  refine ⟨⟨fun e => (by cases e), fun e => ?_⟩, fun y e => ?_⟩
  · rcases e with e | e
    · exact absurd e.1 h3
    · exact absurd e.1 h4
  · cases e; exact ⟨h1, h2⟩
/-- A change of one port. -/
theorem ok_put (h : Good l) (hx : x ∈ l) (hn : z.num = x.num) (hp : z.peer = x.peer) (hv : vcpuB z.vcpu = true) (h3 : ¬ kdI o.kind = 3) (h4 : ¬ kdI o.kind = 4)
    (h1 : x.pending = true → z.pending = false → kdI o.kind = 11 ∧ x.num = o.a) (h2 : x.pending = false → z.pending = true → (5 ≤ kdI o.kind ∧ kdI o.kind < 8 ∧ x.peer = o.a) ∨ (kdI o.kind = 8 ∧ x.num = o.a))
    (hc : Came l (l.map (putF z)) (wokN (kdI o.kind) n)) : RunOk l (l.map (putF z)) o n := by
  refine ⟨good_put h hx hn hp hv, fun y hy => ?_, hc⟩
  refine stay_map h (fun _ _ => putF_num) h3 h4 hy ?_ ?_
  · by_cases e : y.num = z.num
    · have : y = x := rise_inj h.rise hy hx (by omega)
      subst this
      rw [show putF z y = z from if_pos e]; exact h1
    · rw [show putF z y = y from if_neg e]; intro a b; rw [a] at b; cases b
  · by_cases e : y.num = z.num
    · have : y = x := rise_inj h.rise hy hx (by omega)
      subst this
      rw [show putF z y = z from if_pos e]; exact h2
    · rw [show putF z y = y from if_neg e]; intro a b; rw [a] at b; cases b
theorem ok_open (h : Good l) (he : (openV l own).2.2 = 0) (hk : kdI o.kind = 0 ∨ kdI o.kind = 1) : RunOk l (openV l own).1 o n := by
  obtain ⟨hv, h32, e⟩ := open_good h he
  obtain ⟨hg, _, hne⟩ := good_open h hv h32
  rw [e]
  refine ⟨hg, fun x hx => ?_, ?_⟩
  · have : getB (l.take (openI l 0) ++ [⟨((openI l 0 + 1 : Nat) : Int), own, 0, false, false⟩] ++ l.drop (openI l 0)) x.num = some x := (get_iff hg.rise).2 ⟨mem_open.2 (.inl hx), rfl⟩
    simp only
    rw [this]
    refine ⟨⟨fun e => (by cases e), fun e => ?_⟩, fun y e => ?_⟩
    · rcases e with e | e <;> omega
    · cases e; exact ⟨fun a b => (by rw [a] at b; cases b), fun a b => (by rw [a] at b; cases b)⟩
  · have : wokN (kdI o.kind) n = 0 := by unfold wokN; rw [if_neg (by omega)]
    rw [this]
    refine came_none fun y hy hd => ?_
    rcases mem_open.1 hy with hy | rfl
    · exact ⟨y, hy, rfl, rfl, hd⟩
    · cases hd
theorem ok_link (h : Good l) (he : (linkV l a b).2 = 0) (hk : kdI o.kind = 2) : RunOk l (linkV l a b).1 o n := by
  obtain ⟨x, y, hx, hy, hxa, hyb, hab, hx0, hy0, e⟩ := link_good h he
  rw [e]
  have f1 : ∀ u : Port, (linF a b u).num = u.num := fun u => by
    unfold linF; repeat' split
    all_goals rfl
  have f2 : ∀ u : Port, (linF a b u).vcpu = u.vcpu := fun u => by
    unfold linF; repeat' split
    all_goals rfl
  have f3 : ∀ u : Port, (linF a b u).pending = u.pending := fun u => by
    unfold linF; repeat' split
    all_goals rfl
  have f4 : ∀ u : Port, (linF a b u).masked = u.masked := fun u => by
    unfold linF; repeat' split
    all_goals rfl
  have ha : linF a b x = ⟨x.num, x.vcpu, b, x.pending, x.masked⟩ := if_pos hxa
  have hb : linF a b y = ⟨y.num, y.vcpu, a, y.pending, y.masked⟩ := by unfold linF; rw [if_neg (by omega), if_pos hyb]
  refine ⟨⟨?_, fun u hu => ?_, fun u hu => ?_⟩, fun u hu => ?_, ?_⟩
  · rw [List.pairwise_map]
    refine List.Pairwise.imp (fun {c d} hcd => ?_) h.rise
    rw [f1, f1]; exact hcd
  · obtain ⟨v, hv, rfl⟩ := List.mem_map.1 hu
    rw [f1, f2]; exact h.num v hv
  · obtain ⟨v, hv, rfl⟩ := List.mem_map.1 hu
    by_cases e1 : v.num = a
    · have : v = x := rise_inj h.rise hv hx (by omega)
      subst this
      right
      exact ⟨linF a b y, List.mem_map.2 ⟨y, hy, rfl⟩, by rw [ha, f1]; exact hyb, by rw [hb, f1]; exact e1.symm, by rw [f1, f1]; omega⟩
    · by_cases e2 : v.num = b
      · have : v = y := rise_inj h.rise hv hy (by omega)
        subst this
        right
        exact ⟨linF a b x, List.mem_map.2 ⟨x, hx, rfl⟩, by rw [hb, f1]; exact hxa, by rw [ha, f1]; exact e2.symm, by rw [f1, f1]; omega⟩
      · have hv2 : linF a b v = v := by unfold linF; rw [if_neg e1, if_neg e2]
        rw [hv2]
        rcases h.peer v hv with h0 | ⟨z, hz, z1, z2, z3⟩
        · exact .inl h0
        · right
          have hz2 : linF a b z = z := by
            unfold linF
            rw [if_neg, if_neg]
            · intro e; have : z = y := rise_inj h.rise hz hy (by omega)
              subst this; have := (h.num v hv).1; omega
            · intro e; have : z = x := rise_inj h.rise hz hx (by omega)
              subst this; have := (h.num v hv).1; omega
          exact ⟨z, List.mem_map.2 ⟨z, hz, hz2⟩, z1, z2, z3⟩
  · exact stay_map h (fun u _ => f1 u) (by omega) (by omega) hu (fun a b => by rw [f3, a] at b; cases b) (fun a b => by rw [f3, a] at b; cases b)
  · have : wokN (kdI o.kind) n = 0 := by unfold wokN; rw [if_neg (by omega)]
    rw [this]
    refine came_none fun u hu hd => ?_
    obtain ⟨v, hv, rfl⟩ := List.mem_map.1 hu
    exact ⟨v, hv, (f1 v).symm, (f2 v).symm, by rw [← hd]; exact due_eq (f3 v).symm (f4 v).symm⟩
theorem ok_remove (h : Good l) (hp : ∀ x ∈ l, p x = true ↔ (kdI o.kind = 3 ∧ x.num = o.a ∨ kdI o.kind = 4 ∧ x.vcpu = o.vcpu)) (hk : kdI o.kind = 3 ∨ kdI o.kind = 4) : RunOk l (removeV p l) o n := by
  refine ⟨good_remove h, fun x hx => ?_, ?_⟩
  · rw [get_remove h hx]
    refine ⟨?_, fun y e => ?_⟩
    · rw [← hp x hx]
      split
      · rename_i e; simp [e]
      · rename_i e; simp [e]
    · split at e
      · cases e
      · cases e
        rw [unl_pending]
        exact ⟨fun a b => (by rw [a] at b; cases b), fun a b => (by rw [a] at b; cases b)⟩
  · have : wokN (kdI o.kind) n = 0 := by unfold wokN; rw [if_neg (by omega)]
    rw [this]
    refine came_none fun u hu hd => ?_
    obtain ⟨v, hv, _, rfl⟩ := mem_remove.1 hu
    exact ⟨v, hv, unl_num.symm, unl_vcpu.symm, by rw [← hd]; exact due_eq unl_pending.symm unl_masked.symm⟩
theorem run_ok (h : Good l) (he : (runV l o).2.2.2 = 0) : RunOk l (runV l o).1 o (runV l o).2.1 := by
  have hr := kd_range o.kind
  unfold runV at he ⊢
  by_cases k0 : kdI o.kind = 0
  · simp only [if_pos k0] at he ⊢; exact ok_open h he (.inl k0)
  · by_cases k1 : kdI o.kind = 1
    · simp only [if_neg k0, if_pos k1] at he ⊢; exact ok_open h he (.inr k1)
    · by_cases k2 : kdI o.kind = 2
      · simp only [if_neg k0, if_neg k1, if_pos k2] at he ⊢; exact ok_link h he k2
      · by_cases k3 : kdI o.kind = 3
        · simp only [if_neg k0, if_neg k1, if_neg k2, if_pos k3] at he ⊢
          rw [close_good h he]
          exact ok_remove h (fun x hx => by unfold isNum; simp only [decide_eq_true_eq]; omega) (.inl k3)
        · by_cases k4 : kdI o.kind = 4
          · simp only [if_neg k0, if_neg k1, if_neg k2, if_neg k3, if_pos k4] at he ⊢
            rw [drop_good h he]
            exact ok_remove h (fun x hx => by unfold isOwn; simp only [decide_eq_true_eq]; omega) (.inr k4)
          · have hsend : (sendV l o.a).2.2 = 0 → 5 ≤ kdI o.kind ∧ kdI o.kind < 8 → RunOk l (sendV l o.a).1 o (sendV l o.a).2.1 := fun he hk => by
              obtain ⟨x, y, hx, hy, h1, h2, h3, e⟩ := send_good h he
              rw [e]
              refine ok_put (z := raiF y) h hy rfl rfl (h.num y hy).2.2 k3 k4 (fun _ b => by cases b) (fun _ _ => .inl ⟨hk.1, hk.2, h3⟩) ?_
              unfold wokN; rw [if_pos (by omega)]
              exact came_put (z := raiF y) h hy rfl (h.num y hy).2.2
            by_cases k5 : kdI o.kind = 5
            · simp only [if_neg k0, if_neg k1, if_neg k2, if_neg k3, if_neg k4, if_pos k5] at he ⊢; exact hsend he (by omega)
            · by_cases k6 : kdI o.kind = 6
              · simp only [if_neg k0, if_neg k1, if_neg k2, if_neg k3, if_neg k4, if_neg k5, if_pos k6] at he ⊢; exact hsend he (by omega)
              · by_cases k7 : kdI o.kind = 7
                · simp only [if_neg k0, if_neg k1, if_neg k2, if_neg k3, if_neg k4, if_neg k5, if_neg k6, if_pos k7] at he ⊢; exact hsend he (by omega)
                · by_cases k8 : kdI o.kind = 8
                  · simp only [if_neg k0, if_neg k1, if_neg k2, if_neg k3, if_neg k4, if_neg k5, if_neg k6, if_neg k7, if_pos k8] at he ⊢
                    obtain ⟨x, hx, hn, e⟩ := turn_good (f := raiF) h (fun _ => rfl) he
                    rw [e]
                    refine ok_put (z := raiF x) h hx rfl rfl (h.num x hx).2.2 k3 k4 (fun _ b => by cases b) (fun _ _ => .inr ⟨k8, hn⟩) ?_
                    unfold wokN; rw [if_pos (by omega)]
                    exact came_put (z := raiF x) h hx rfl (h.num x hx).2.2
                  · by_cases k9 : kdI o.kind = 9
                    · simp only [if_neg k0, if_neg k1, if_neg k2, if_neg k3, if_neg k4, if_neg k5, if_neg k6, if_neg k7, if_neg k8, if_pos k9] at he ⊢
                      obtain ⟨x, hx, hn, e⟩ := turn_good (f := masF o.on) h (fun _ => rfl) he
                      rw [e]
                      refine ok_put (z := masF o.on x) h hx rfl rfl (h.num x hx).2.2 k3 k4 (fun a b => by rw [show (masF o.on x).pending = x.pending from rfl, a] at b; cases b) (fun a b => by rw [show (masF o.on x).pending = x.pending from rfl, a] at b; cases b) ?_
                      unfold wokN; rw [if_pos (by omega)]
                      exact came_put (z := masF o.on x) h hx rfl (h.num x hx).2.2
                    · by_cases k10 : kdI o.kind = 10
                      · simp only [if_neg k0, if_neg k1, if_neg k2, if_neg k3, if_neg k4, if_neg k5, if_neg k6, if_neg k7, if_neg k8, if_neg k9, if_pos k10] at he ⊢
                        obtain ⟨hv, x, hx, hn, e⟩ := bind_good h he
                        rw [e]
                        refine ok_put (z := binF o.vcpu x) h hx rfl rfl hv k3 k4 (fun a b => by rw [show (binF o.vcpu x).pending = x.pending from rfl, a] at b; cases b) (fun a b => by rw [show (binF o.vcpu x).pending = x.pending from rfl, a] at b; cases b) ?_
                        unfold wokN; rw [if_pos (by omega)]
                        exact came_put (z := binF o.vcpu x) h hx rfl hv
                      · simp only [if_neg k0, if_neg k1, if_neg k2, if_neg k3, if_neg k4, if_neg k5, if_neg k6, if_neg k7, if_neg k8, if_neg k9, if_neg k10] at he ⊢
                        obtain ⟨x, hx, hn, e⟩ := clear_good h he
                        rw [e]
                        refine ok_put (z := cleF x) h hx rfl rfl (h.num x hx).2.2 k3 k4 (fun _ _ => ⟨by omega, hn⟩) (fun _ b => by cases b) ?_
                        have : wokN (kdI o.kind) 0 = 0 := by unfold wokN; rw [if_neg (by omega)]
                        rw [this]
                        refine came_none fun u hu hd => ?_
                        rcases (mem_put (z := cleF x) h hx rfl).1 hu with rfl | ⟨hu, _⟩
                        · cases hd
                        · exact ⟨u, hu, rfl, rfl, hd⟩
theorem good_len (h : Good l) : l.length ≤ 32 := by
  have := ris_len l 0 (by omega) (right_ris (right_iff.2 h)); omega
theorem good_nil : Good [] := ⟨List.Pairwise.nil, fun _ h => (by cases h), fun _ h => (by cases h)⟩
theorem link_get (h : Good l) (hx : x ∈ l) (h0 : ¬ x.peer = 0) : ∃ y, getB l x.peer = some y ∧ y.peer = x.num ∧ y.num ≠ x.num := by
  rcases h.peer x hx with e | ⟨y, hy, a, b, c⟩
  · exact absurd e h0
  · exact ⟨y, (get_iff h.rise).2 ⟨hy, a⟩, b, c⟩
theorem due_contains (h : Good l) (hx : x ∈ l) {b : Bool} (hq : decide (x.num ∈ suchL (isDue x.vcpu) l) = b) : dueB x = b := by
  rw [← hq]
  have := such_num (p := isDue x.vcpu) h hx
  cases hd : dueB x with
  | true => rw [eq_comm, decide_eq_true_eq, this]; simp [isDue, hd]
  | false => rw [eq_comm, decide_eq_false_iff_not, this]; simp [isDue, hd]
theorem had_none (hg : getB l x.num = none) : ¬ Had l x := by
  rintro ⟨y, hy, e, _⟩
  exact get_no.1 hg y hy e
theorem had_vcpu (h : Good l) (hg : getB l x.num = some y) (hv : ¬ y.vcpu = x.vcpu) : ¬ Had l x := by
  rintro ⟨z, hz, e, e2, _⟩
  obtain ⟨hy, hn⟩ := (get_iff h.rise).1 hg
  have : z = y := rise_inj h.rise hz hy (by omega)
  subst this; exact hv e2
theorem had_due (h : Good l) (hg : getB l x.num = some y) (hv : y.vcpu = x.vcpu) (hq : decide (x.num ∈ suchL (isDue x.vcpu) l) = false) : ¬ Had l x := by
  rintro ⟨z, hz, e, e2, e3⟩
  refine absurd ?_ (of_decide_eq_false hq)
  exact mem_such.2 ⟨z, hz, by simp [isDue, e2, e3], e⟩
theorem had_yes (hq : decide (x.num ∈ suchL (isDue x.vcpu) l) = true) : Had l x := by
  obtain ⟨z, hz, hp, e⟩ := mem_such.1 (of_decide_eq_true hq)
  simp only [isDue, Bool.and_eq_true, decide_eq_true_eq] at hp
  exact ⟨z, hz, e, hp.2, hp.1⟩
/-- The map of who has come, behind the first j. -/
def CameD (l l' : List Port) (W : Int) (D : List (Int × Bool)) (j : Nat) : Prop := (D = [] ∧ ∀ (t : Nat) (y : Port), t < j → l'[t]? = some y → dueB y = true → Had l y) ∨ (D = [(W, true)] ∧ 0 < W)
theorem cameD_start {l' : List Port} {W : Int} : CameD l l' W [] 0 := .inl ⟨rfl, fun _ _ h => by omega⟩
theorem cameD_on {l' : List Port} {W : Int} {D : List (Int × Bool)} {j : Nat} (hD : CameD l l' W D j) (hx : l'[j]? = some x) (hh : dueB x = true → Had l x) : CameD l l' W D (j + 1) := by
  rcases hD with ⟨a, b⟩ | h
  · refine .inl ⟨a, fun t y ht e hd => ?_⟩
    by_cases htj : t = j
    · subst htj; rw [hx] at e; cases e; exact hh hd
    · exact b t y (by omega) e hd
  · exact .inr h
theorem cameD_new {l' : List Port} {W : Int} {D : List (Int × Bool)} {j : Nat} (hD : CameD l l' W D j) (hc : Came l l' W) (hx : l'[j]? = some x) (hd : dueB x = true) (hh : ¬ Had l x) : CameD l l' W (mupd D x.vcpu true) (j + 1) := by
  obtain ⟨h1, h2⟩ := hc.1 x (List.mem_of_getElem? hx) hd hh
  right
  refine ⟨?_, h2⟩
  rcases hD with ⟨rfl, _⟩ | ⟨rfl, _⟩
  · simp [mupd, h1]
  · simp [mupd, h1]
theorem cameD_end {l' : List Port} {W : Int} {D : List (Int × Bool)} {j : Nat} (hD : CameD l l' W D j) (hc : Came l l' W) (hj : l'.length ≤ j) : (D = [] ∧ W ≤ 0) ∨ (D = [(W, true)] ∧ 0 < W) := by
  rcases hD with ⟨a, b⟩ | h
  · refine .inl ⟨a, ?_⟩
    rcases Int.lt_or_le 0 W with hw | hw
    · obtain ⟨y, hy, hd, hn⟩ := hc.2 hw
      obtain ⟨t, ht⟩ := List.mem_iff_getElem?.1 hy
      have := (List.getElem?_eq_some_iff.1 ht).1
      exact absurd (b t y (by omega) ht hd) hn
    · exact hw
  · exact .inr h
theorem mget_one {k : Int} {b : Bool} : (mget [(k, b)] k).getD false = b := by simp [mget]
theorem run_err (h : Good l) (he : (runV l o).2.2.2 ≠ 0) : (runV l o).1 = [] := by
  have hr := right_iff.2 h
  have hopen : ∀ own, (openV l own).2.2 ≠ 0 → (openV l own).1 = [] := fun own he => by
    unfold openV at he ⊢; rw [if_pos hr] at he ⊢
    split at he
    · rename_i hv; rw [if_pos hv]
      split at he
      · rename_i h2; rw [if_pos h2]
      · exact absurd rfl he
    · rename_i hv; rw [if_neg hv]
  have hsend : ∀ k, (sendV l k).2.2 ≠ 0 → (sendV l k).1 = [] := fun k he => by
    cases hx : getB l k with
    | none => rw [sendV_none hr hx]
    | some x =>
      by_cases h0 : x.peer = 0
      · rw [sendV_alone hr hx h0]
      · obtain ⟨y, hy, _⟩ := right_peer hr hx h0
        rw [sendV_ok hr hx h0 hy] at he
        exact absurd rfl he
  have hturn : ∀ k f, (turnV l k f).2.2 ≠ 0 → (turnV l k f).1 = [] := fun k f he => by
    cases hx : getB l k with
    | none => rw [turnV_none hr hx]
    | some x => rw [turnV_ok hr hx] at he; exact absurd rfl he
  unfold runV at he ⊢
  by_cases k0 : kdI o.kind = 0
  · simp only [if_pos k0] at he ⊢; exact hopen _ he
  by_cases k1 : kdI o.kind = 1
  · simp only [if_neg k0, if_pos k1] at he ⊢; exact hopen _ he
  by_cases k2 : kdI o.kind = 2
  · simp only [if_neg k0, if_neg k1, if_pos k2] at he ⊢
    unfold linkV at he ⊢; rw [if_pos hr] at he ⊢
    split at he
    · split at he
      · rename_i e; simp [e]
      · rename_i e
        split at he
        · exact absurd rfl he
        · rename_i e2; simp [e, e2]
    · rfl
  by_cases k3 : kdI o.kind = 3
  · simp only [if_neg k0, if_neg k1, if_neg k2, if_pos k3] at he ⊢
    unfold closeV at he ⊢; rw [if_pos hr] at he ⊢
    split at he
    · rename_i h2; rw [if_pos h2]
    · exact absurd rfl he
  by_cases k4 : kdI o.kind = 4
  · simp only [if_neg k0, if_neg k1, if_neg k2, if_neg k3, if_pos k4] at he ⊢
    unfold dropV at he ⊢; rw [if_pos hr] at he ⊢
    split at he
    · exact absurd rfl he
    · rename_i h2; rw [if_neg h2]
  by_cases k5 : kdI o.kind = 5
  · simp only [if_neg k0, if_neg k1, if_neg k2, if_neg k3, if_neg k4, if_pos k5] at he ⊢; exact hsend _ he
  by_cases k6 : kdI o.kind = 6
  · simp only [if_neg k0, if_neg k1, if_neg k2, if_neg k3, if_neg k4, if_neg k5, if_pos k6] at he ⊢; exact hsend _ he
  by_cases k7 : kdI o.kind = 7
  · simp only [if_neg k0, if_neg k1, if_neg k2, if_neg k3, if_neg k4, if_neg k5, if_neg k6, if_pos k7] at he ⊢; exact hsend _ he
  by_cases k8 : kdI o.kind = 8
  · simp only [if_neg k0, if_neg k1, if_neg k2, if_neg k3, if_neg k4, if_neg k5, if_neg k6, if_neg k7, if_pos k8] at he ⊢; exact hturn _ _ he
  by_cases k9 : kdI o.kind = 9
  · simp only [if_neg k0, if_neg k1, if_neg k2, if_neg k3, if_neg k4, if_neg k5, if_neg k6, if_neg k7, if_neg k8, if_pos k9] at he ⊢; exact hturn _ _ he
  by_cases k10 : kdI o.kind = 10
  · simp only [if_neg k0, if_neg k1, if_neg k2, if_neg k3, if_neg k4, if_neg k5, if_neg k6, if_neg k7, if_neg k8, if_neg k9, if_pos k10] at he ⊢
    unfold bindV at he ⊢; rw [if_pos hr] at he ⊢
    split at he
    · rename_i h2; rw [if_pos h2]; exact hturn _ _ he
    · rename_i h2; rw [if_neg h2]
  · simp only [if_neg k0, if_neg k1, if_neg k2, if_neg k3, if_neg k4, if_neg k5, if_neg k6, if_neg k7, if_neg k8, if_neg k9, if_neg k10] at he ⊢
    cases hx : getB l o.a with
    | none => rw [clearV_none hr hx]
    | some x => rw [clearV_ok hr hx] at he; exact absurd rfl he
end
end Go.Proofs.Ytfhlmijdokfdpaa

/-! The reference's Due; the same numbers. -/
namespace Go.Proofs.Ytfhlmijdokfdpaa
open Go Go.RowKit

set_option maxRecDepth 100000 in
theorem rdue_d (p : Option Addr) (n cap : Nat) (l : List Port) (own : Int) (w : World)
 (hsl : Sv w p l) (hn : n = l.length) (hb : n ≤ 1000)
 : Calls Try.prog 20 #[.agg #[.slice p n cap], .int .i64 own] w fun e w' => ∃ q m capq Y, e = .returned (.slice q m capq) ∧ SlO 3 Y q m capq (suchL (isDue own) l) ∧ Below w.heap.size w w' ∧ Hs w Y w' := by
 refine enter (Hs.start w) Try.func20 rfl Try.ntmps20 rfl ?_
 refine at_seq ?_
 refine am [] [1] (fun γ1 => [(2, .pointer (some ⟨γ1 0, 0, none⟩))]) (fun γ1 L => bx (γ1 0) (#[.slice p n cap]) 24 :: L) (fun γ1 => []) (fun _ => by kernel_rfl) (fun γ1 => al0) (fun γ1 => ?_)
 refine done_seq ?_
 refine at_seq ?_
 refine aq [] [1, 2] [(5, .slice none 0 0)] ([]) (fun _ => by kernel_rfl) al0 ?_
 refine done_seq ?_
 refine at_seq ?_
 refine at_seq ?_
 refine aq [(1, .go (owns 0 0 1))] [1, 5] [(9, .slice p n cap), (10, .int .i64 ((n : Nat))), (11, .int .i64 0)] ([]) (fun _ => by kernel_rfl) al0 ?_
 refine done_seq ?_
 refine at_block ?_
 refine at_loop (α := Nat × List Ob × Option Addr × Nat × Nat) [1, 5, 9, 10, 11] (fun ⟨j, Yo, po, m, co⟩ => [(1, .int .i64 own), (5, .slice po m co), (9, .slice p n cap), (10, .int .i64 ((n : Nat))), (11, .int .i64 ((j : Nat)))]) (fun ⟨j, Yo, po, m, co⟩ => bx (γ1 0) (#[.slice p n cap]) 24 :: (Yo ++ [])) (fun ⟨j, Yo, po, m, co⟩ => j ≤ n ∧ m ≤ j ∧ SlO 3 Yo po m co (suchL (isDue own) (l.take j))) (fun ⟨j, Yo, po, m, co⟩ => n - j) (0, [], none, 0, 0) (by kernel_rfl) rfl ⟨Nat.zero_le _, Nat.le_refl _, by rw [List.take_zero]; exact SlO.nil⟩ ?_
 rintro ⟨j, Yo, po, m, co⟩
 rintro ⟨hj, hm, hO⟩
 refine at_seq ?_
 by_cases q5 : ((j : Nat) : Int) < ((n : Nat) : Int)
 ·
  refine aq [(0, .yes)] [1, 5, 9, 10, 11] [(12, .bool true)] ([((j : Nat) : Int) < ((n : Nat) : Int)]) (fun _ => by kernel_rfl) (al1 q5) ?_
  refine done_seq ?_
  refine at_seq ?_
  refine at_true (by kernel_rfl) ?_
  refine at_skip ?_
  refine done_seq ?_
  refine at_seq ?_
  refine at_block ?_
  refine at_seq ?_
  obtain ⟨b8, o8, rfl⟩ := hsl.pos (i := j) (by omega)
  obtain ⟨x10, hx10⟩ := get_some (l := l) (m := j) (by omega)
  refine am [(0, .at b8 o8 j), (1, .go (outs b8 (o8 + j * 5) [.int .i64 x10.num, .int .i64 x10.vcpu, .int .i64 x10.peer, .bool x10.pending, .bool x10.masked])), (3, .go (owns 0 0 5))] [1, 5, 9, 10, 11] (fun γ11 => [(7, .pointer (some ⟨γ11 0, 0, none⟩))]) (fun γ11 L => bx (γ11 0) (#[.int .i64 x10.num, .int .i64 x10.vcpu, .int .i64 x10.peer, .bool x10.pending, .bool x10.masked]) 40 :: L) (fun γ11 => [(some ⟨b8, o8, none⟩ : Option Addr) = some ⟨b8, o8, none⟩, ((j : Nat)) = ((j : Nat) : Int), j < n] ++ (cellsP w b8 (o8 + j * 5) [.int .i64 x10.num, .int .i64 x10.vcpu, .int .i64 x10.peer, .bool x10.pending, .bool x10.masked])) (fun _ => by kernel_rfl) (fun γ11 => (alA (al2 rfl (al2 rfl (al1 (by omega)))) (rd_pre (hsl.get hx10) _ rfl))) (fun γ11 => ?_)
  refine done_seq ?_
  refine at_seq ?_
  rcases q13 : x10.pending with _ | _
  ·
   refine aq [(1, .go (owns 0 3 1))] [1, 5, 7, 9, 10, 11] [(27, .bool false)] ([]) (fun _ => by kernel_rfl) al0 ?_
   refine done_seq ?_
   refine at_false (by kernel_rfl) ?_
   refine at_skip ?_
   refine done_block ?_
   refine done_seq ?_
   refine aq [(0, .fit)] [1, 5, 9, 10] [(11, .int .i64 ((j + 1 : Nat)))] ([Fit .i64 ((j + 1 : Nat))]) (fun _ => by kernel_rfl) (al1 (fit64 (by omega) (by omega))) ?_
   refine Done.drop (L' := bx (γ1 0) (#[.slice (some ⟨b8, o8, none⟩) n cap]) 24 :: (Yo ++ [])) ?_ (List.Sublist.cons _ (List.Sublist.cons_cons _ (List.Sublist.refl _)))
   exact done_round [1, 5, 9, 10, 11] (j + 1, Yo, po, m, co) (by kernel_rfl) rfl ⟨by omega, by omega, by rw [← such_no hx10 (isDue_no (by simp [dueB, *]))]; exact hO⟩ (by first | omega | (simp only; omega))
  ·
   rcases q17 : x10.masked with _ | _
   ·
    by_cases q19 : (x10.vcpu : Int) = (own : Int)
    ·
     refine aq [(1, .go (owns 0 3 1)), (4, .go (owns 0 4 1)), (9, .go (owns 0 1 1)), (11, .yes)] [1, 5, 7, 9, 10, 11] [(27, .bool true)] ([(x10.vcpu : Int) = (own : Int)]) (fun _ => by kernel_rfl) (al1 q19) ?_
     refine done_seq ?_
     refine at_true (by kernel_rfl) ?_
     refine at_ops ?_
     refine om 4 [(2, .go (owns 0 0 1))] [1, 9, 10, 11] (fun γ21 => [(28, .slice po m co), (31, .slice (some ⟨γ21 0, 0, none⟩) 1 1)]) (fun γ21 L => bx (γ21 0) (#[.int .i64 x10.num]) 3 :: L) (fun γ21 => []) (fun _ => by kernel_rfl) (fun γ21 => al0) (fun γ21 => ?_)
     refine ops_append (α := Int) [bx (γ21 0) (#[.int .i64 x10.num]) 3, bx (γ11 0) (#[.int .i64 x10.num, .int .i64 x10.vcpu, .int .i64 x10.peer, .bool true, .bool false]) 40, bx (γ1 0) (#[.slice (some ⟨b8, o8, none⟩) n cap]) 24] Yo ([]) (.refl _) rfl (by kernel_rfl) (by kernel_rfl) (p := po) (n := m) (cap := co) (m := 1) (yv := .slice (some ⟨γ21 0, 0, none⟩) 1 1) (by kernel_rfl) (by kernel_rfl) (T := 3) (by_ := 8) (by kernel_rfl) ((suchL (isDue own) (l.take j))) ([x10.num]) hO (fun w hw => src_svn Try.underlying28 (sv_row (hw.row 0 rfl) (by rfl)) (by rfl)) (by rfl) (by have hmx : maxLen = 9223372036854775807 := rfl; omega) (by have hmx : maxLen = 9223372036854775807 := rfl; omega) (fun Y22 p22 cap22 hO22 => ?_)
     refine oq 1 [] [1, 9, 10, 11] [(5, .slice p22 (m + 1) cap22)] ([]) (fun _ => by kernel_rfl) al0 ?_
     refine ops_nil ?_
     refine done_block ?_
     refine done_seq ?_
     refine aq [(0, .fit)] [1, 5, 9, 10] [(11, .int .i64 ((j + 1 : Nat)))] ([Fit .i64 ((j + 1 : Nat))]) (fun _ => by kernel_rfl) (al1 (fit64 (by omega) (by omega))) ?_
     refine Done.drop (L' := bx (γ1 0) (#[.slice (some ⟨b8, o8, none⟩) n cap]) 24 :: (Y22 ++ [])) ?_ (List.Sublist.cons _ (List.Sublist.cons _ (List.Sublist.cons_cons _ (List.Sublist.refl _))))
     exact done_round [1, 5, 9, 10, 11] (j + 1, Y22, p22, m + 1, cap22) (by kernel_rfl) rfl ⟨by omega, by omega, by rw [← such_yes hx10 (isDue_yes (by simp [dueB, *]) q19)]; exact hO22⟩ (by first | omega | (simp only; omega))
    ·
     refine aq [(1, .go (owns 0 3 1)), (4, .go (owns 0 4 1)), (9, .go (owns 0 1 1)), (11, .no)] [1, 5, 7, 9, 10, 11] [(27, .bool false)] ([¬ ((x10.vcpu : Int) = (own : Int))]) (fun _ => by kernel_rfl) (al1 q19) ?_
     refine done_seq ?_
     refine at_false (by kernel_rfl) ?_
     refine at_skip ?_
     refine done_block ?_
     refine done_seq ?_
     refine aq [(0, .fit)] [1, 5, 9, 10] [(11, .int .i64 ((j + 1 : Nat)))] ([Fit .i64 ((j + 1 : Nat))]) (fun _ => by kernel_rfl) (al1 (fit64 (by omega) (by omega))) ?_
     refine Done.drop (L' := bx (γ1 0) (#[.slice (some ⟨b8, o8, none⟩) n cap]) 24 :: (Yo ++ [])) ?_ (List.Sublist.cons _ (List.Sublist.cons_cons _ (List.Sublist.refl _)))
     exact done_round [1, 5, 9, 10, 11] (j + 1, Yo, po, m, co) (by kernel_rfl) rfl ⟨by omega, by omega, by rw [← such_no hx10 (isDue_not q19)]; exact hO⟩ (by first | omega | (simp only; omega))
   ·
    refine aq [(1, .go (owns 0 3 1)), (4, .go (owns 0 4 1))] [1, 5, 7, 9, 10, 11] [(27, .bool false)] ([]) (fun _ => by kernel_rfl) al0 ?_
    refine done_seq ?_
    refine at_false (by kernel_rfl) ?_
    refine at_skip ?_
    refine done_block ?_
    refine done_seq ?_
    refine aq [(0, .fit)] [1, 5, 9, 10] [(11, .int .i64 ((j + 1 : Nat)))] ([Fit .i64 ((j + 1 : Nat))]) (fun _ => by kernel_rfl) (al1 (fit64 (by omega) (by omega))) ?_
    refine Done.drop (L' := bx (γ1 0) (#[.slice (some ⟨b8, o8, none⟩) n cap]) 24 :: (Yo ++ [])) ?_ (List.Sublist.cons _ (List.Sublist.cons_cons _ (List.Sublist.refl _)))
    exact done_round [1, 5, 9, 10, 11] (j + 1, Yo, po, m, co) (by kernel_rfl) rfl ⟨by omega, by omega, by rw [← such_no hx10 (isDue_no (by simp [dueB, *]))]; exact hO⟩ (by first | omega | (simp only; omega))
 ·
  refine aq [(0, .no)] [1, 5, 9, 10, 11] [(12, .bool false)] ([¬ (((j : Nat) : Int) < ((n : Nat) : Int))]) (fun _ => by kernel_rfl) (al1 q5) ?_
  refine done_seq ?_
  refine at_seq ?_
  refine at_false (by kernel_rfl) ?_
  refine at_leave _ (by rfl) ?_
  refine done_seq ?_
  refine at_seq ?_
  refine aq [] [] [(4, .slice po m co)] ([]) (fun _ => by kernel_rfl) al0 ?_
  refine done_seq ?_
  refine at_return ([]) (.slice po m co) [] (by kernel_rfl) (by kernel_rfl) al0 ?_
  exact fun w' hw => by rw [← such_all (j := j) (by omega)]; exact ⟨_, _, _, _, rfl, hO, hw.below, ((hw.tailN 1).sub (List.sublist_append_left Yo ([])))⟩

set_option maxRecDepth 100000 in
theorem sameints_d (p : Option Addr) (n cap : Nat) (l : List Int) (q : Option Addr) (m cap2 : Nat) (l2 : List Int) (w : World)
 (hsl : Sv w p l) (hn : n = l.length) (hb : n ≤ 1000)
 (hsl2 : Sv w q l2) (hm : m = l2.length) (hmb : m ≤ 1000)
 : Calls Try.prog 21 #[.slice p n cap, .slice q m cap2] w fun e w' => e = .returned (.bool (decide (l = l2))) ∧ Below w.heap.size w w' := by
 refine enter (Hs.start w) Try.func21 rfl Try.ntmps21 rfl ?_
 refine at_seq ?_
 refine aq [] [0, 1] [] ([]) (fun _ => by kernel_rfl) al0 ?_
 refine done_seq ?_
 refine at_seq ?_
 refine at_seq ?_
 by_cases q3 : ((n : Nat) : Int) ≠ ((m : Nat) : Int)
 ·
  refine aq [(4, .yes)] [0, 1] [(10, .bool true)] ([((n : Nat) : Int) ≠ ((m : Nat) : Int)]) (fun _ => by kernel_rfl) (al1 q3) ?_
  refine done_seq ?_
  refine at_true (by kernel_rfl) ?_
  refine at_seq ?_
  refine aq [] [] [(4, .bool false)] ([]) (fun _ => by kernel_rfl) al0 ?_
  refine done_seq ?_
  refine at_return ([]) (.bool false) [] (by kernel_rfl) (by kernel_rfl) al0 ?_
  exact fun w' hw => ⟨by rw [same_len (l := l) (l2 := l2) (by omega)], hw.below⟩
 ·
  refine aq [(4, .no)] [0, 1] [(10, .bool false)] ([¬ (((n : Nat) : Int) ≠ ((m : Nat) : Int))]) (fun _ => by kernel_rfl) (al1 q3) ?_
  refine done_seq ?_
  refine at_false (by kernel_rfl) ?_
  refine at_skip ?_
  refine done_seq ?_
  refine at_seq ?_
  refine at_seq ?_
  refine aq [] [0, 1] [(12, .int .i64 ((n : Nat))), (13, .int .i64 0)] ([]) (fun _ => by kernel_rfl) al0 ?_
  refine done_seq ?_
  refine at_block ?_
  refine at_loop (α := Nat) [0, 1, 12, 13] (fun j => [(0, .slice p n cap), (1, .slice q m cap2), (12, .int .i64 ((n : Nat))), (13, .int .i64 ((j : Nat)))]) (fun j => []) (fun j => j ≤ n ∧ l.take j = l2.take j) (fun j => n - j) 0 (by kernel_rfl) rfl ⟨Nat.zero_le _, rfl⟩ ?_
  rintro j
  rintro ⟨hj, hI⟩
  refine at_seq ?_
  by_cases q9 : ((j : Nat) : Int) < ((n : Nat) : Int)
  ·
   refine aq [(0, .yes)] [0, 1, 12, 13] [(14, .bool true)] ([((j : Nat) : Int) < ((n : Nat) : Int)]) (fun _ => by kernel_rfl) (al1 q9) ?_
   refine done_seq ?_
   refine at_seq ?_
   refine at_true (by kernel_rfl) ?_
   refine at_skip ?_
   refine done_seq ?_
   refine at_seq ?_
   refine at_block ?_
   refine at_seq ?_
   refine aq [] [0, 1, 12, 13] [(5, .int .i64 ((j : Nat)))] ([]) (fun _ => by kernel_rfl) al0 ?_
   refine done_seq ?_
   refine at_seq ?_
   obtain ⟨b13, o13, rfl⟩ := hsl.pos (i := j) (by omega)
   obtain ⟨x15, hx15⟩ := get_some (l := l) (m := j) (by omega)
   obtain ⟨b17, o17, rfl⟩ := hsl2.pos (i := j) (by omega)
   obtain ⟨x19, hx19⟩ := get_some (l := l2) (m := j) (by omega)
   by_cases q21 : (x15 : Int) ≠ (x19 : Int)
   ·
    refine cq [(2, .at b13 o13 j), (3, .go (outs b13 (o13 + j * 1) [.int .i64 x15])), (6, .at b17 o17 j), (7, .go (outs b17 (o17 + j * 1) [.int .i64 x19])), (8, .yes)] [0, 1, 12, 13] [(24, .bool true)] ([(some ⟨b13, o13, none⟩ : Option Addr) = some ⟨b13, o13, none⟩, ((j : Nat)) = ((j : Nat) : Int), j < n] ++ (cellsP w b13 (o13 + j * 1) [.int .i64 x15] ++ ([(some ⟨b17, o17, none⟩ : Option Addr) = some ⟨b17, o17, none⟩, ((j : Nat)) = ((j : Nat) : Int), j < m] ++ (cellsP w b17 (o17 + j * 1) [.int .i64 x19] ++ ([(x15 : Int) ≠ (x19 : Int)]))))) rfl (by kernel_rfl) (by kernel_rfl) (by kernel_rfl) (alA (al2 rfl (al2 rfl (al1 (by omega)))) (alA (rd_pre (hsl.get hx15) _ rfl) (alA (al2 rfl (al2 rfl (al1 (by omega)))) (alA (rd_pre (hsl2.get hx19) _ rfl) (al1 q21))))) ?_
    refine done_seq ?_
    refine at_true (by kernel_rfl) ?_
    refine at_seq ?_
    refine aq [] [] [(4, .bool false)] ([]) (fun _ => by kernel_rfl) al0 ?_
    refine done_seq ?_
    refine at_return ([]) (.bool false) [] (by kernel_rfl) (by kernel_rfl) al0 ?_
    exact fun w' hw => ⟨by rw [same_no hx15 hx19 (by omega)], hw.below⟩
   ·
    refine cq [(2, .at b13 o13 j), (3, .go (outs b13 (o13 + j * 1) [.int .i64 x15])), (6, .at b17 o17 j), (7, .go (outs b17 (o17 + j * 1) [.int .i64 x19])), (8, .no)] [0, 1, 12, 13] [(24, .bool false)] ([(some ⟨b13, o13, none⟩ : Option Addr) = some ⟨b13, o13, none⟩, ((j : Nat)) = ((j : Nat) : Int), j < n] ++ (cellsP w b13 (o13 + j * 1) [.int .i64 x15] ++ ([(some ⟨b17, o17, none⟩ : Option Addr) = some ⟨b17, o17, none⟩, ((j : Nat)) = ((j : Nat) : Int), j < m] ++ (cellsP w b17 (o17 + j * 1) [.int .i64 x19] ++ ([¬ ((x15 : Int) ≠ (x19 : Int))]))))) rfl (by kernel_rfl) (by kernel_rfl) (by kernel_rfl) (alA (al2 rfl (al2 rfl (al1 (by omega)))) (alA (rd_pre (hsl.get hx15) _ rfl) (alA (al2 rfl (al2 rfl (al1 (by omega)))) (alA (rd_pre (hsl2.get hx19) _ rfl) (al1 q21))))) ?_
    refine done_seq ?_
    refine at_false (by kernel_rfl) ?_
    refine at_skip ?_
    refine done_block ?_
    refine done_seq ?_
    refine aq [(0, .fit)] [0, 1, 12] [(13, .int .i64 ((j + 1 : Nat)))] ([Fit .i64 ((j + 1 : Nat))]) (fun _ => by kernel_rfl) (al1 (fit64 (by omega) (by omega))) ?_
    exact done_round [0, 1, 12, 13] (j + 1) (by kernel_rfl) rfl ⟨by omega, same_on hI hx15 hx19 (by omega)⟩ (by first | omega | (simp only; omega))
  ·
   refine aq [(0, .no)] [0, 1, 12, 13] [(14, .bool false)] ([¬ (((j : Nat) : Int) < ((n : Nat) : Int))]) (fun _ => by kernel_rfl) (al1 q9) ?_
   refine done_seq ?_
   refine at_seq ?_
   refine at_false (by kernel_rfl) ?_
   refine at_leave _ (by rfl) ?_
   refine done_seq ?_
   refine at_seq ?_
   refine aq [] [] [(4, .bool true)] ([]) (fun _ => by kernel_rfl) al0 ?_
   refine done_seq ?_
   refine at_return ([]) (.bool true) [] (by kernel_rfl) (by kernel_rfl) al0 ?_
   exact fun w' hw => ⟨by rw [same_yes hI (by omega) (by omega)], hw.below⟩
end Go.Proofs.Ytfhlmijdokfdpaa
