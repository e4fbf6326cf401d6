/-
  Own texts, merged: Geo, Geo2, Geo3, Geo4, Geo5, FCom, PolyLaw, HullLaw, Hull2, HullGeo, HoldLaw, HoldLaw2.
-/
import Derived.Test.YtbjnjffckhdhgaaGreatDoorBase
import Derived.Test.YtbjnjffckhdhgaaGreatDoorWake
import Derived.Test.YtbjnjffckhdhgaaGreatDoorSxTwentyFive
import Derived.Test.YtbjnjffckhdhgaaGreatDoorHold2
set_option linter.unusedVariables false
/-
  Plain geometry of points in the plane: the half of a hull that the program's stack of corners is, and both halves as a polygon. An own text.
-/
set_option maxRecDepth 20000
namespace Go.Geo

abbrev P2 := Int × Int
def lft (p q r : P2) : Int := (q.1 - p.1) * (r.2 - p.2) - (q.2 - p.2) * (r.1 - p.1)
def lx (p q : P2) : Prop := p.1 < q.1 ∨ (p.1 = q.1 ∧ p.2 < q.2)
def neg (p : P2) : P2 := (-p.1, -p.2)

/-! Signs. -/
theorem nn_of {k z : Int} (hk : 0 < k) (h : 0 ≤ k * z) : 0 ≤ z := by
  rcases Int.lt_or_le z 0 with hz | hz
  · have := Int.mul_neg_of_pos_of_neg hk hz; omega
  · exact hz
theorem pos_of {k z : Int} (hk : 0 < k) (h : 0 < k * z) : 0 < z := by
  rcases Int.lt_or_le 0 z with hz | hz
  · exact hz
  · have := Int.mul_nonneg (Int.le_of_lt hk) (show 0 ≤ -z by omega)
    rw [Int.mul_neg] at this; omega
theorem zero_of {k z : Int} (hk : k ≠ 0) (h : k * z = 0) : z = 0 := by
  rcases Int.mul_eq_zero.1 h with h | h
  · exact absurd h hk
  · exact h
theorem np_of {k z : Int} (hk : k < 0) (h : 0 ≤ k * z) : z ≤ 0 := by
  have := nn_of (k := -k) (z := -z) (by omega) (by rw [Int.neg_mul_neg]; exact h)
  omega

theorem wtrans {ux uy ex ey wx wy : Int} (hu : 0 < ux ∨ ux = 0 ∧ 0 ≤ uy) (he : 0 < ex ∨ ex = 0 ∧ 0 < ey) (hw : 0 < wx ∨ wx = 0 ∧ 0 ≤ wy)
    (h1 : 0 ≤ ux * ey - uy * ex) (h2 : 0 ≤ ex * wy - ey * wx) : 0 ≤ ux * wy - uy * wx := by
  rcases he with he | ⟨rfl, he⟩
  · refine nn_of he ?_
    have e : ex * (ux * wy - uy * wx) = ux * (ex * wy - ey * wx) + wx * (ux * ey - uy * ex) := by grind
    rw [e]
    have := Int.mul_nonneg (show 0 ≤ ux by omega) h2
    have := Int.mul_nonneg (show 0 ≤ wx by omega) h1
    omega
  · have hwx : wx = 0 := by
      have h3 : 0 ≤ ey * -wx := by rw [Int.mul_neg]; omega
      have := nn_of he h3
      omega
    subst hwx
    have := Int.mul_nonneg (show 0 ≤ ux by omega) (show 0 ≤ wy by omega)
    simpa using this
theorem strans {ux uy vx vy wx wy : Int} (hu : 0 < ux ∨ ux = 0 ∧ 0 < uy) (hv : 0 < vx ∨ vx = 0 ∧ 0 < vy) (hw : 0 < wx ∨ wx = 0 ∧ 0 < wy)
    (h1 : 0 < ux * vy - uy * vx) (h2 : 0 < vx * wy - vy * wx) : 0 < ux * wy - uy * wx := by
  rcases hv with hv | ⟨rfl, hv⟩
  · refine pos_of hv ?_
    have e : vx * (ux * wy - uy * wx) = ux * (vx * wy - vy * wx) + wx * (ux * vy - uy * vx) := by grind
    rw [e]
    have h3 := Int.mul_nonneg (show 0 ≤ wx by omega) (Int.le_of_lt h1)
    rcases hu with hu | ⟨rfl, hu⟩
    · have := Int.mul_pos hu h2
      omega
    · have := Int.mul_pos hu hv
      simp at h1; omega
  · rcases hw with hw | ⟨rfl, hw⟩
    · have := Int.mul_pos hv hw
      simp at h2; omega
    · simp at h2

theorem lx_tri (p q : P2) : p = q ∨ lx p q ∨ lx q p := by
  obtain ⟨a, b⟩ := p
  obtain ⟨c, d⟩ := q
  simp only [lx, Prod.mk.injEq]; omega
theorem lx_trans {p q r : P2} (h : lx p q) (h' : lx q r) : lx p r := by unfold lx at *; omega
theorem lx_irr {p q : P2} (h : lx p q) (h' : lx q p) : False := by unfold lx at *; omega
theorem lx_ne {p : P2} (h : lx p p) : False := lx_irr h h
theorem lft_cyc (p q r : P2) : lft p q r = lft q r p := by unfold lft; grind
theorem lft_cyc2 (p q r : P2) : lft p q r = lft r p q := by unfold lft; grind
theorem lft_swap (p q r : P2) : lft p q r = - lft p r q := by unfold lft; grind
theorem lft_self (p q : P2) : lft p q q = 0 := by unfold lft; grind
theorem lft_self2 (p q : P2) : lft p q p = 0 := by unfold lft; grind
theorem lft_neg (p q r : P2) : lft (neg p) (neg q) (neg r) = lft p q r := by unfold lft neg; grind
theorem lx_neg (p q : P2) : lx (neg p) (neg q) ↔ lx q p := by unfold lx neg; omega
theorem neg_neg (p : P2) : neg (neg p) = p := by unfold neg; simp

/-! The stack. -/
def pop (x : P2) : List P2 → List P2
  | b :: a :: r => if lft a b x ≤ 0 then pop x (a :: r) else b :: a :: r
  | s => s
def chainF (s : List P2) (x : P2) : List P2 := x :: pop x s
def chain (l : List P2) : List P2 := l.foldl chainF []

def Cv (P : P2 → Prop) : List P2 → Prop
  | b :: a :: r => lx a b ∧ (∀ y, P y → 0 ≤ lft a b y) ∧ (∀ z r', r = z :: r' → 0 < lft z a b) ∧ Cv P (a :: r)
  | _ => True

theorem pop_ok {P : P2 → Prop} {x c0 : P2} (hx : ∀ y, P y → lx y x) (hmin : ∀ y, P y → y = c0 ∨ lx c0 y) :
    ∀ (s : List P2) (b : P2), Cv P (b :: s) → (∀ m, m ∈ b :: s → P m) → (b :: s).getLast? = some c0 → (∀ y, P y → (y = b ∨ lx b y) → 0 ≤ lft b x y) →
      ∃ t r, pop x (b :: s) = t :: r ∧ Cv P (t :: r) ∧ (∀ m, m ∈ t :: r → P m) ∧ (t :: r).getLast? = some c0 ∧ (∀ y, P y → 0 ≤ lft t x y) ∧ (∀ z r', r = z :: r' → 0 < lft z t x)
  | [], b, hc, hm, hl, hq => by
    refine ⟨b, [], rfl, hc, hm, hl, fun y hy => hq y hy ?_, fun z r' h => by cases h⟩
    have : b = c0 := by simpa using hl
    rw [this]; exact hmin y hy
  | a :: r, b, hc, hm, hl, hq => by
    obtain ⟨c1, c2, c3, c4⟩ := hc
    have hb := hm b (by simp)
    have ha := hm a (by simp)
    by_cases h : lft a b x ≤ 0
    · have e : pop x (b :: a :: r) = pop x (a :: r) := by simp [pop, h]
      rw [e]
      refine pop_ok hx hmin r a c4 (fun m hm' => hm m (List.mem_cons_of_mem _ hm')) (by rw [List.getLast?_cons_cons] at hl; exact hl) ?_
      intro y hy hya
      have h1 := c2 y hy
      have hax := hx a ha
      unfold lft lx at *
      have := wtrans (ux := x.1 - a.1) (uy := x.2 - a.2) (ex := b.1 - a.1) (ey := b.2 - a.2) (wx := y.1 - a.1) (wy := y.2 - a.2) (by omega) (by omega)
        (by rcases hya with rfl | hya <;> omega) (by rw [Int.mul_comm (x.1 - a.1), Int.mul_comm (x.2 - a.2)]; omega) h1
      exact this
    · have e : pop x (b :: a :: r) = b :: a :: r := by simp [pop, h]
      refine ⟨b, a :: r, e, ⟨c1, c2, c3, c4⟩, hm, hl, fun y hy => ?_, fun z r' hz => by cases hz; omega⟩
      rcases lx_tri y b with hyb | hyb | hyb
      · exact hq y hy (.inl hyb)
      · have h1 := c2 y hy
        have hbx := hx b hb
        have e1 : lft a b y = (b.1 - y.1) * (b.2 - a.2) - (b.2 - y.2) * (b.1 - a.1) := by unfold lft; grind
        have e2 : lft a b x = (b.1 - a.1) * (x.2 - b.2) - (b.2 - a.2) * (x.1 - b.1) := by unfold lft; grind
        have e3 : lft b x y = (b.1 - y.1) * (x.2 - b.2) - (b.2 - y.2) * (x.1 - b.1) := by unfold lft; grind
        rw [e1] at h1
        rw [e2] at h
        rw [e3]
        unfold lx at *
        exact wtrans (by omega) (by omega) (by omega) h1 (by omega)
      · exact hq y hy (.inr hyb)

theorem cv_add {P : P2 → Prop} {x : P2} (hx : ∀ y, P y → lx y x) : ∀ (r : List P2) (t z : P2), Cv P (t :: z :: r) → (∀ m, m ∈ t :: z :: r → P m) → 0 < lft z t x → Cv (fun y => P y ∨ y = x) (t :: z :: r)
  | [], t, z, hc, hm, h => by
    obtain ⟨c1, c2, c3, c4⟩ := hc
    refine ⟨c1, fun y hy => ?_, c3, trivial⟩
    rcases hy with hy | rfl
    · exact c2 y hy
    · omega
  | v :: r, t, z, hc, hm, h => by
    obtain ⟨c1, c2, c3, c4⟩ := hc
    have h3 := c3 v r rfl
    refine ⟨c1, fun y hy => ?_, c3, cv_add hx r z v c4 (fun m hm' => hm m (List.mem_cons_of_mem _ hm')) ?_⟩
    · rcases hy with hy | rfl
      · exact c2 y hy
      · omega
    · have hz := hx z (hm z (by simp))
      have hv := c4.1
      have e1 : lft v z t = (z.1 - v.1) * (t.2 - z.2) - (z.2 - v.2) * (t.1 - z.1) := by unfold lft; grind
      have e2 : lft z t x = (t.1 - z.1) * (x.2 - z.2) - (t.2 - z.2) * (x.1 - z.1) := by unfold lft; grind
      have e3 : lft v z x = (z.1 - v.1) * (x.2 - z.2) - (z.2 - v.2) * (x.1 - z.1) := by unfold lft; grind
      rw [e1] at h3
      rw [e2] at h
      rw [e3]
      unfold lx at *
      exact strans (by omega) (by omega) (by omega) h3 h

structure Inv (P : P2 → Prop) (c0 top : P2) (s : List P2) : Prop where
  cv : Cv P s
  hd : ∃ r, s = top :: r
  lst : s.getLast? = some c0
  mem : ∀ m, m ∈ s → P m
  max : ∀ y, P y → y = top ∨ lx y top
  min : ∀ y, P y → y = c0 ∨ lx c0 y

theorem Inv.step {P : P2 → Prop} {c0 top x : P2} {s : List P2} (h : Inv P c0 top s) (hx : lx top x) : Inv (fun y => P y ∨ y = x) c0 x (chainF s x) := by
  obtain ⟨cv, ⟨r, rfl⟩, lst, mem, max, min⟩ := h
  have hall : ∀ y, P y → lx y x := fun y hy => by
    rcases max y hy with rfl | h
    · exact hx
    · exact lx_trans h hx
  obtain ⟨t, r', e, t1, t2, t3, t4, t5⟩ := pop_ok hall min r top cv mem lst (fun y hy hyt => by
    rcases hyt with rfl | hyt
    · rw [lft_self2]; omega
    · rcases max y hy with rfl | h
      · rw [lft_self2]; omega
      · exact (lx_irr h hyt).elim)
  unfold chainF
  rw [e]
  have htop := mem top (by simp)
  refine ⟨⟨hall t (t2 t (by simp)), fun y hy => ?_, t5, ?_⟩, ⟨_, rfl⟩, by rw [List.getLast?_cons_cons]; exact t3, fun m hm => ?_, fun y hy => ?_, fun y hy => ?_⟩
  · rcases hy with hy | rfl
    · exact t4 y hy
    · rw [lft_self]; omega
  · cases r' with
    | nil => trivial
    | cons z r2 => exact cv_add hall r2 t z t1 t2 (t5 z r2 rfl)
  · rcases List.mem_cons.1 hm with rfl | hm
    · exact .inr rfl
    · exact .inl (t2 m hm)
  · rcases hy with hy | rfl
    · exact .inr (hall y hy)
    · exact .inl rfl
  · rcases hy with hy | rfl
    · exact min y hy
    · refine .inr ?_
      rcases min top htop with h | h
      · rw [← h]; exact hx
      · exact lx_trans h hx

theorem Inv.run {c0 : P2} : ∀ (l : List P2) {P : P2 → Prop} {top : P2} {s : List P2}, Inv P c0 top s → (top :: l).Pairwise lx →
    ∃ top', Inv (fun y => P y ∨ y ∈ l) c0 top' (l.foldl chainF s)
  | [], P, top, s, h, _ => ⟨top, by simpa using h⟩
  | x :: l, P, top, s, h, hp => by
    rw [List.pairwise_cons] at hp
    obtain ⟨t, ht⟩ := Inv.run l (h.step (hp.1 x (by simp))) hp.2
    refine ⟨t, ?_⟩
    have e : (fun y => (P y ∨ y = x) ∨ y ∈ l) = (fun y => P y ∨ y ∈ x :: l) := by
      funext y; simp only [List.mem_cons, eq_iff_iff]
      constructor
      · rintro ((h | h) | h)
        · exact .inl h
        · exact .inr (.inl h)
        · exact .inr (.inr h)
      · rintro (h | h | h)
        · exact .inl (.inl h)
        · exact .inl (.inr h)
        · exact .inr h
    rw [e] at ht
    exact ht

theorem chain_inv (a : P2) (l : List P2) (hp : (a :: l).Pairwise lx) : ∃ top, Inv (fun y => y ∈ a :: l) a top (chain (a :: l)) := by
  have h0 : Inv (fun y => y = a) a a [a] := ⟨trivial, ⟨_, rfl⟩, rfl, fun m hm => by simpa using hm, fun y hy => .inl hy, fun y hy => .inl hy⟩
  obtain ⟨t, ht⟩ := Inv.run l h0 hp
  refine ⟨t, ?_⟩
  have e : (fun y => y = a ∨ y ∈ l) = (fun y => y ∈ a :: l) := by funext y; simp
  rw [e] at ht
  exact ht

/-! A half of a hull, by numbers. -/
structure Ch (S : P2 → Prop) (f : Nat → P2) (m : Nat) : Prop where
  mem : ∀ i, i ≤ m → S (f i)
  weak : ∀ i, i < m → ∀ y, S y → 0 ≤ lft (f i) (f (i + 1)) y
  turn : ∀ i, i + 1 < m → 0 < lft (f i) (f (i + 1)) (f (i + 2))
  up : ∀ i, i < m → lx (f i) (f (i + 1))
  mx : ∀ y, S y → y = f m ∨ lx y (f m)
  mn : ∀ y, S y → y = f 0 ∨ lx (f 0) y

def rg (s : List P2) (i : Nat) : P2 := s.reverse.getD i (0, 0)
theorem rg_lt {b : P2} {s : List P2} {i : Nat} (h : i < s.length) : rg (b :: s) i = rg s i := by
  unfold rg
  rw [List.reverse_cons, List.getD_eq_getElem?_getD, List.getElem?_append_left (by simpa using h), ← List.getD_eq_getElem?_getD]
theorem rg_eq {b : P2} {s : List P2} : rg (b :: s) s.length = b := by
  unfold rg
  rw [List.reverse_cons, List.getD_eq_getElem?_getD, List.getElem?_append_right (by simp)]; simp
theorem rg_mem {s : List P2} {i : Nat} (h : i < s.length) : rg s i ∈ s := by
  unfold rg
  have hl : i < s.reverse.length := by simpa using h
  rw [List.getD_eq_getElem?_getD, List.getElem?_eq_getElem hl]
  simp

theorem Cv.idx {P : P2 → Prop} : ∀ (s : List P2), Cv P s → ∀ i, i + 1 < s.length → lx (rg s i) (rg s (i + 1)) ∧ (∀ y, P y → 0 ≤ lft (rg s i) (rg s (i + 1)) y) ∧ (i + 2 < s.length → 0 < lft (rg s i) (rg s (i + 1)) (rg s (i + 2)))
  | [], _, i, h => by simp at h
  | [a], _, i, h => by simp at h
  | b :: a :: r, hc, i, h => by
    obtain ⟨c1, c2, c3, c4⟩ := hc
    have hl : (a :: r).length = r.length + 1 := rfl
    by_cases hi : i + 1 < (a :: r).length
    · obtain ⟨i1, i2, i3⟩ := Cv.idx (a :: r) c4 i hi
      rw [rg_lt (b := b) hi, rg_lt (b := b) (s := a :: r) (i := i) (by omega)]
      refine ⟨i1, i2, fun h2 => ?_⟩
      by_cases h3 : i + 2 < (a :: r).length
      · rw [rg_lt (b := b) h3]; exact i3 h3
      · have e : i + 2 = (a :: r).length := by simp only [List.length_cons] at h2 h3 ⊢; omega
        rw [e, rg_eq]
        cases r with
        | nil => simp at e
        | cons z r' =>
          have e1 : i + 1 = (z :: r').length := by simp only [List.length_cons] at e ⊢; omega
          have e0 : i = r'.length := by simp only [List.length_cons] at e; omega
          have h1 : rg (a :: z :: r') (i + 1) = a := by rw [e1]; exact rg_eq
          have h0 : rg (a :: z :: r') i = z := by
            rw [rg_lt (by simp only [List.length_cons]; omega), e0]; exact rg_eq
          rw [h1, h0]
          exact c3 z r' rfl
    · have e : i + 1 = (a :: r).length := by simp only [List.length_cons] at h hi ⊢; omega
      have e0 : i = r.length := by simp only [List.length_cons] at e; omega
      have h0 : rg (b :: a :: r) i = a := by
        rw [rg_lt (by simp only [List.length_cons]; omega), e0]; exact rg_eq
      rw [e, rg_eq, h0]
      refine ⟨c1, c2, fun h2 => ?_⟩
      simp only [List.length_cons] at h2 e; omega

theorem Inv.ch {P : P2 → Prop} {c0 top : P2} {s : List P2} (h : Inv P c0 top s) : Ch P (rg s) (s.length - 1) := by
  obtain ⟨cv, ⟨r, hr⟩, lst, mem, max, min⟩ := h
  have hl : s.length = r.length + 1 := by rw [hr]; rfl
  have hi := Cv.idx s cv
  have ht : rg s (s.length - 1) = top := by
    have : s.length - 1 = r.length := by omega
    rw [this, hr]; exact rg_eq
  have h0 : rg s 0 = c0 := by
    unfold rg
    rw [List.getD_eq_getElem?_getD, ← List.head?_eq_getElem?, List.head?_reverse, lst]; rfl
  exact ⟨fun i hi => mem _ (rg_mem (by omega)), fun i h => (hi i (by omega)).2.1, fun i h => (hi i (by omega)).2.2 (by omega), fun i h => (hi i (by omega)).1, by rw [ht]; exact max, by rw [h0]; exact min⟩
end Go.Geo
/-
  Plain geometry: both halves of a hull are a polygon, all of whose corners lie strictly to the left of each of its other edges. An own text.
-/
set_option maxRecDepth 20000
namespace Go.Geo

def crs (u v : P2) : Int := u.1 * v.2 - u.2 * v.1
def sub (p q : P2) : P2 := (p.1 - q.1, p.2 - q.2)
theorem lft_crs (p q r : P2) : lft p q r = crs (sub q p) (sub r p) := rfl
theorem lft_crs2 (p q r : P2) : lft p q r = crs (sub q p) (sub r q) := by unfold lft crs sub; grind
theorem lft_crs3 (p q r : P2) : lft p q r = crs (sub r q) (sub p q) := by unfold lft crs sub; grind

/-- Two opposite directions. -/
theorem opp {d w v : P2} (hd : 0 < d.1 ∨ d.1 = 0 ∧ 0 < d.2) (hw : w.1 < 0 ∨ w.1 = 0 ∧ w.2 < 0) (h : crs d w = 0) (hv : 0 ≤ crs w v) : crs d v ≤ 0 := by
  unfold crs at *
  rcases hd with hd | ⟨hd1, hd2⟩
  · have hw1 : w.1 < 0 := by
      rcases hw with hw | ⟨hw1, hw2⟩
      · exact hw
      · have := Int.mul_neg_of_pos_of_neg hd hw2
        rw [hw1] at h
        simp at h; omega
    have e : d.1 * (w.1 * v.2 - w.2 * v.1) = w.1 * (d.1 * v.2 - d.2 * v.1) := by grind
    have := Int.mul_nonneg (Int.le_of_lt hd) hv
    rw [e] at this
    exact np_of hw1 this
  · have hw1 : w.1 = 0 := by
      rw [hd1] at h
      have h' : d.2 * w.1 = 0 := by omega
      exact zero_of (by omega) h'
    have hw2 : w.2 < 0 := by omega
    rw [hw1] at hv
    have h2 : 0 ≤ w.2 * -v.1 := by rw [Int.mul_neg]; omega
    have h3 := np_of hw2 h2
    have h4 := Int.mul_nonneg (Int.le_of_lt hd2) (show 0 ≤ v.1 by omega)
    rw [hd1]; omega
/-- Two vectors along one line. -/
theorem par {d u v : P2} (hd : d ≠ (0, 0)) (hu : crs d u = 0) (hv : crs d v = 0) : crs u v = 0 := by
  unfold crs at *
  have e1 : d.1 * (u.1 * v.2 - u.2 * v.1) = u.1 * (d.1 * v.2 - d.2 * v.1) - v.1 * (d.1 * u.2 - d.2 * u.1) := by grind
  have e2 : d.2 * (u.1 * v.2 - u.2 * v.1) = u.2 * (d.1 * v.2 - d.2 * v.1) - v.2 * (d.1 * u.2 - d.2 * u.1) := by grind
  rw [hu, hv] at e1 e2
  simp only [Int.mul_zero, Int.sub_self] at e1 e2
  by_cases h1 : d.1 = 0
  · have h2 : d.2 ≠ 0 := fun h2 => hd (Prod.ext h1 h2)
    exact zero_of h2 e2
  · exact zero_of h1 e1

structure Two (S : P2 → Prop) (lo : Nat → P2) (m : Nat) (up : Nat → P2) (k : Nat) : Prop where
  low : Ch S lo m
  upp : Ch (fun y => S (neg y)) (fun j => neg (up j)) k
theorem Two.upS {S lo m up k} (h : Two S lo m up k) {j : Nat} (hj : j ≤ k) : S (up j) := by have := h.upp.mem j hj; rwa [neg_neg] at this
theorem Two.upW {S lo m up k} (h : Two S lo m up k) {j : Nat} (hj : j < k) {y : P2} (hy : S y) : 0 ≤ lft (up j) (up (j + 1)) y := by
  have := h.upp.weak j hj (neg y) (by rwa [neg_neg])
  rwa [lft_neg] at this
theorem Two.upT {S lo m up k} (h : Two S lo m up k) {j : Nat} (hj : j + 1 < k) : 0 < lft (up j) (up (j + 1)) (up (j + 2)) := by
  have := h.upp.turn j hj
  rwa [lft_neg] at this
theorem Two.upL {S lo m up k} (h : Two S lo m up k) {j : Nat} (hj : j < k) : lx (up (j + 1)) (up j) := (lx_neg _ _).1 (h.upp.up j hj)
theorem Two.z {S lo m up k} (h : Two S lo m up k) : lo m = up 0 := by
  rcases h.low.mx (up 0) (h.upS (Nat.zero_le _)) with e | e
  · exact e.symm
  · rcases h.upp.mn (neg (lo m)) (by rw [neg_neg]; exact h.low.mem m (Nat.le_refl _)) with e2 | e2
    · have := congrArg neg e2; rwa [neg_neg, neg_neg] at this
    · exact (lx_irr e ((lx_neg _ _).1 e2)).elim
theorem Two.a {S lo m up k} (h : Two S lo m up k) : lo 0 = up k := by
  rcases h.low.mn (up k) (h.upS (Nat.le_refl _)) with e | e
  · exact e.symm
  · rcases h.upp.mx (neg (lo 0)) (by rw [neg_neg]; exact h.low.mem 0 (Nat.zero_le _)) with e2 | e2
    · have := congrArg neg e2; rwa [neg_neg, neg_neg] at this
    · exact (lx_irr e ((lx_neg _ _).1 e2)).elim
theorem Two.swap {S lo m up k} (h : Two S lo m up k) : Two (fun y => S (neg y)) (fun j => neg (up j)) k (fun i => neg (lo i)) m :=
  ⟨h.upp, by simp only [neg_neg]; exact h.low⟩
theorem Ch.mono {S f m} (h : Ch S f m) {i j : Nat} (hij : i < j) (hj : j ≤ m) : lx (f i) (f j) := by
  induction j with
  | zero => omega
  | succ j ih =>
    rcases Nat.lt_or_ge i j with h1 | h1
    · exact lx_trans (ih h1 (by omega)) (h.up j (by omega))
    · have : i = j := by omega
      subst this; exact h.up i (by omega)

theorem sub_ne {p q : P2} (h : lx p q) : sub q p ≠ (0, 0) := by
  intro e
  unfold sub at e
  simp only [Prod.mk.injEq] at e
  unfold lx at h; omega
theorem lft_line {d p q r s : P2} (hd : d ≠ (0, 0)) (h1 : crs d (sub p s) = 0) (h2 : crs d (sub q s) = 0) (h3 : crs d (sub r s) = 0) : lft p q r = 0 := by
  have g1 : crs d (sub q p) = 0 := by unfold crs sub at *; grind
  have g2 : crs d (sub r p) = 0 := by unfold crs sub at *; grind
  rw [lft_crs]
  exact par hd g1 g2

theorem Two.jz {S lo m up k} (h : Two S lo m up k) (hm : 0 < m) (hk : 0 < k) (hn : 3 ≤ m + k) : 0 < lft (lo (m - 1)) (lo m) (up 1) := by
  have hl := h.low.up (m - 1) (by omega)
  have hu := h.upL (j := 0) hk
  have em : m - 1 + 1 = m := by omega
  rw [em] at hl
  have hw := fun y hy => h.low.weak (m - 1) (by omega) y hy
  rw [em] at hw
  have hz := h.z
  rcases Int.lt_or_le 0 (lft (lo (m - 1)) (lo m) (up 1)) with hp | hp
  · exact hp
  exfalso
  have h0 : lft (lo (m - 1)) (lo m) (up 1) = 0 := by have := hw _ (h.upS (j := 1) (by omega)); omega
  have hd := sub_ne hl
  have hall : ∀ y, S y → crs (sub (lo m) (lo (m - 1))) (sub y (lo m)) = 0 := by
    intro y hy
    have h1 := hw y hy
    have h2 := h.upW hk hy
    rw [← hz] at h2
    rw [lft_crs2] at h1
    rw [lft_crs] at h2
    rw [lft_crs2] at h0
    rw [← hz] at hu
    simp only [Nat.zero_add] at hu h2
    have g1 : 0 < (sub (lo m) (lo (m - 1))).1 ∨ (sub (lo m) (lo (m - 1))).1 = 0 ∧ 0 < (sub (lo m) (lo (m - 1))).2 := by unfold sub lx at *; simp only; omega
    have g2 : (sub (up 1) (lo m)).1 < 0 ∨ (sub (up 1) (lo m)).1 = 0 ∧ (sub (up 1) (lo m)).2 < 0 := by unfold sub lx at *; simp only; omega
    have := opp g1 g2 h0 h2
    omega
  rcases Nat.lt_or_ge 1 m with hm1 | hm1
  · have ht := h.low.turn (m - 2) (by omega)
    have e1 : m - 2 + 1 = m - 1 := by omega
    have e2 : m - 2 + 2 = m := by omega
    rw [e1, e2] at ht
    have := lft_line hd (hall _ (h.low.mem (m - 2) (by omega))) (hall _ (h.low.mem (m - 1) (by omega))) (hall _ (h.low.mem m (by omega)))
    omega
  · have ht := h.upT (j := 0) (by omega)
    have := lft_line hd (hall _ (h.upS (j := 0) (by omega))) (hall _ (h.upS (j := 1) (by omega))) (hall _ (h.upS (j := 2) (by omega)))
    simp only [Nat.zero_add] at ht
    omega
theorem Two.ja {S lo m up k} (h : Two S lo m up k) (hm : 0 < m) (hk : 0 < k) (hn : 3 ≤ m + k) : 0 < lft (up (k - 1)) (up k) (lo 1) := by
  have := h.swap.jz hk hm (by omega)
  rwa [lft_neg] at this

/-- The corners of the whole ring, the first one told again at the end. -/
def ring (lo : Nat → P2) (m : Nat) (up : Nat → P2) (i : Nat) : P2 := if i ≤ m then lo i else up (i - m)
theorem ring_lo {lo m up i} (h : i ≤ m) : ring lo m up i = lo i := if_pos h
theorem Two.ring_up {S lo m up k} (h : Two S lo m up k) {i : Nat} (hi : m ≤ i) : ring lo m up i = up (i - m) := by
  unfold ring
  split
  · have : i = m := by omega
    subst this; rw [Nat.sub_self]; exact h.z
  · rfl

structure Ring (S : P2 → Prop) (f : Nat → P2) (n : Nat) : Prop where
  mem : ∀ i, i ≤ n → S (f i)
  back : f n = f 0
  weak : ∀ i, i < n → ∀ y, S y → 0 ≤ lft (f i) (f (i + 1)) y
  turn : ∀ i, i + 1 < n → 0 < lft (f i) (f (i + 1)) (f (i + 2))
  close : 0 < lft (f (n - 1)) (f n) (f 1)
  inj : ∀ i j, i < n → j < n → f i = f j → i = j
  mn : ∀ y, S y → y = f 0 ∨ lx (f 0) y

theorem Two.disj {S lo m up k} (h : Two S lo m up k) {i j : Nat} (hi : i < m) (hj : j < k) : lo i ≠ up j := by
  intro e
  rcases Nat.eq_zero_or_pos j with rfl | hj0
  · rw [← h.z] at e
    have := h.low.mono hi (Nat.le_refl m)
    rw [e] at this; exact lx_ne this
  · have hv := h.low.up i hi
    have hw := h.low.weak i hi
    have ht := h.upT (j := j - 1) (by omega)
    have e1 : j - 1 + 1 = j := by omega
    have e2 : j - 1 + 2 = j + 1 := by omega
    rw [e1, e2] at ht
    have l1 := h.upL (j := j - 1) (by omega)
    rw [e1] at l1
    have l2 := h.upL (j := j) hj
    have w1 := hw (up (j - 1)) (h.upS (by omega))
    have w2 := hw (up (j + 1)) (h.upS (by omega))
    rw [e] at hv w1 w2
    have hnext := lo (i + 1)
    generalize up (j - 1) = o at *
    generalize up (j + 1) = q at *
    generalize up j = p at *
    generalize lo (i + 1) = v at *
    -- q < p < o, v > p; the turn o, p, q; o and q on the left of p, v
    have t1 : lft p v q = (p.1 - q.1) * (v.2 - p.2) - (p.2 - q.2) * (v.1 - p.1) := by unfold lft; grind
    have t2 : lft p v o = (v.1 - p.1) * (o.2 - p.2) - (v.2 - p.2) * (o.1 - p.1) := by unfold lft; grind
    have t3 : lft o p q = - ((p.1 - q.1) * (o.2 - p.2) - (p.2 - q.2) * (o.1 - p.1)) := by unfold lft; grind
    rw [t1] at w2
    rw [t2] at w1
    rw [t3] at ht
    unfold lx at *
    have := wtrans (ux := p.1 - q.1) (uy := p.2 - q.2) (ex := v.1 - p.1) (ey := v.2 - p.2) (wx := o.1 - p.1) (wy := o.2 - p.2) (by omega) (by omega) (by omega) w2 w1
    omega

theorem Two.ring {S lo m up k} (h : Two S lo m up k) (hm : 0 < m) (hk : 0 < k) (hn : 3 ≤ m + k) : Ring S (ring lo m up) (m + k) := by
  refine ⟨fun i hi => ?_, ?_, fun i hi y hy => ?_, fun i hi => ?_, ?_, fun i j hi hj e => ?_, ?_⟩
  · unfold Geo.ring
    split
    · exact h.low.mem _ (by omega)
    · exact h.upS (by omega)
  · rw [h.ring_up (by omega), ring_lo (Nat.zero_le _), h.a]
    congr 1; omega
  · rcases Nat.lt_or_ge i m with h1 | h1
    · rw [ring_lo (by omega), ring_lo (by omega)]; exact h.low.weak i h1 y hy
    · rw [h.ring_up h1, h.ring_up (by omega), show i + 1 - m = i - m + 1 by omega]
      exact h.upW (by omega) hy
  · rcases Nat.lt_or_ge (i + 1) m with h1 | h1
    · rw [ring_lo (by omega), ring_lo (by omega), ring_lo (by omega)]; exact h.low.turn i h1
    · rcases Nat.lt_or_ge i m with h2 | h2
      · have e : m = i + 1 := by omega
        have := h.jz hm hk hn
        rw [ring_lo (by omega), ring_lo (by omega), h.ring_up (by omega)]
        rw [e] at this ⊢
        rw [show i + 2 - (i + 1) = 1 by omega]
        exact this
      · rw [h.ring_up h2, h.ring_up (by omega), h.ring_up (by omega), show i + 1 - m = i - m + 1 by omega, show i + 2 - m = i - m + 2 by omega]
        exact h.upT (by omega)
  · have := h.ja hm hk hn
    rw [h.ring_up (by omega), h.ring_up (by omega), ring_lo (by omega), show m + k - 1 - m = k - 1 by omega, show m + k - m = k by omega]
    exact this
  · rcases Nat.lt_or_ge i m with h1 | h1 <;> rcases Nat.lt_or_ge j m with h2 | h2
    · rw [ring_lo (by omega), ring_lo (by omega)] at e
      rcases Nat.lt_trichotomy i j with h3 | h3 | h3
      · have := h.low.mono h3 (by omega); rw [e] at this; exact (lx_ne this).elim
      · exact h3
      · have := h.low.mono h3 (by omega); rw [e] at this; exact (lx_ne this).elim
    · rw [ring_lo (by omega), h.ring_up h2] at e
      exact (h.disj h1 (by omega) e).elim
    · rw [h.ring_up h1, ring_lo (by omega)] at e
      exact (h.disj h2 (by omega) e.symm).elim
    · rw [h.ring_up h1, h.ring_up h2] at e
      have e' := congrArg neg e
      rcases Nat.lt_trichotomy (i - m) (j - m) with h3 | h3 | h3
      · have := h.upp.mono h3 (by omega); rw [e'] at this; exact (lx_ne this).elim
      · omega
      · have := h.upp.mono h3 (by omega); rw [e'] at this; exact (lx_ne this).elim
  · rw [ring_lo (Nat.zero_le _)]; exact h.low.mn

/-! Strictly to the left. -/
theorem sq_nn (a : Int) : 0 ≤ a * a := by
  rcases Int.lt_or_le a 0 with h | h
  · have := Int.mul_pos_of_neg_of_neg h h; omega
  · exact Int.mul_nonneg h h
theorem strict_of {o p q w u y v : P2} (hw : 0 ≤ lft p q y) (t1 : 0 < lft o p q) (w1 : 0 ≤ lft o p y) (t2 : 0 < lft p q w) (w2 : 0 ≤ lft q w y)
    (t3 : 0 < lft u y v) (u1 : 0 ≤ lft u y p) (u2 : 0 ≤ lft u y q) (v1 : 0 ≤ lft y v p) (v2 : 0 ≤ lft y v q) (np : y ≠ p) (nq : y ≠ q) : 0 < lft p q y := by
  rcases Int.lt_or_le 0 (lft p q y) with hp | hp
  · exact hp
  exfalso
  have h0 : lft p q y = 0 := by omega
  clear hw hp
  obtain ⟨p1, p2⟩ := p
  obtain ⟨q1, q2⟩ := q
  obtain ⟨y1, y2⟩ := y
  have key : ∀ e1 e2 : Int, ((q1 - p1) * (q1 - p1) + (q2 - p2) * (q2 - p2)) * (e1 * (y2 - p2) - e2 * (y1 - p1)) = ((q1 - p1) * (y1 - p1) + (q2 - p2) * (y2 - p2)) * (e1 * (q2 - p2) - e2 * (q1 - p1)) := by
    intro e1 e2
    unfold lft at h0
    simp only at h0
    have : ((q1 - p1) * (q1 - p1) + (q2 - p2) * (q2 - p2)) * (e1 * (y2 - p2) - e2 * (y1 - p1)) = ((q1 - p1) * (y1 - p1) + (q2 - p2) * (y2 - p2)) * (e1 * (q2 - p2) - e2 * (q1 - p1)) + ((q1 - p1) * (y2 - p2) - (q2 - p2) * (y1 - p1)) * (e1 * (q1 - p1) + e2 * (q2 - p2)) := by grind
    rw [this, h0]; simp
  have hN : 0 < (q1 - p1) * (q1 - p1) + (q2 - p2) * (q2 - p2) := by
    have a1 := sq_nn (q1 - p1)
    have a2 := sq_nn (q2 - p2)
    rcases Int.lt_or_le 0 ((q1 - p1) * (q1 - p1) + (q2 - p2) * (q2 - p2)) with h | h
    · exact h
    · have b1 : (q1 - p1) * (q1 - p1) = 0 := by omega
      have b2 : (q2 - p2) * (q2 - p2) = 0 := by omega
      have c1 : q1 - p1 = 0 := by rcases Int.mul_eq_zero.1 b1 with h | h <;> exact h
      have c2 : q2 - p2 = 0 := by rcases Int.mul_eq_zero.1 b2 with h | h <;> exact h
      have e : lft o (p1, p2) (q1, q2) = 0 := by
        have d1 : q1 = p1 := by omega
        have d2 : q2 = p2 := by omega
        subst d1; subst d2; exact lft_self _ _
      omega
  generalize hNe : (q1 - p1) * (q1 - p1) + (q2 - p2) * (q2 - p2) = N at key hN
  generalize hTe : (q1 - p1) * (y1 - p1) + (q2 - p2) * (y2 - p2) = T at key
  -- beyond p, at p, between, at q, beyond q
  have kx := key 0 1
  have ky := key 1 0
  have zero : ∀ a : Int, N * a = 0 → a = 0 := fun a h => zero_of (by omega) h
  rcases Int.lt_trichotomy T 0 with hT | hT | hT
  · have e1 : lft o (p1, p2) (y1, y2) = (p1 - o.1) * (y2 - p2) - (p2 - o.2) * (y1 - p1) := by unfold lft; grind
    have e2 : lft o (p1, p2) (q1, q2) = (p1 - o.1) * (q2 - p2) - (p2 - o.2) * (q1 - p1) := by unfold lft; grind
    have k := key (p1 - o.1) (p2 - o.2)
    rw [← e1, ← e2] at k
    have := Int.mul_nonneg (Int.le_of_lt hN) w1
    have := Int.mul_neg_of_neg_of_pos hT t1
    omega
  · subst hT
    rw [Int.zero_mul (0 * (q2 - p2) - 1 * (q1 - p1))] at kx
    rw [Int.zero_mul (1 * (q2 - p2) - 0 * (q1 - p1))] at ky
    have g1 := zero _ kx
    have g2 := zero _ ky
    exact np (Prod.ext (by simp only; omega) (by simp only; omega))
  · rcases Int.lt_trichotomy T N with hT2 | hT2 | hT2
    · -- between
      have k1 := key (y1 - u.1) (y2 - u.2)
      have k2 := key (v.1 - y1) (v.2 - y2)
      have e1 : lft u (y1, y2) (p1, p2) = - ((y1 - u.1) * (y2 - p2) - (y2 - u.2) * (y1 - p1)) := by unfold lft; grind
      have e2 : lft u (y1, y2) (q1, q2) = ((y1 - u.1) * (q2 - p2) - (y2 - u.2) * (q1 - p1)) - ((y1 - u.1) * (y2 - p2) - (y2 - u.2) * (y1 - p1)) := by unfold lft; grind
      have e3 : lft (y1, y2) v (p1, p2) = - ((v.1 - y1) * (y2 - p2) - (v.2 - y2) * (y1 - p1)) := by unfold lft; grind
      have e4 : lft (y1, y2) v (q1, q2) = ((v.1 - y1) * (q2 - p2) - (v.2 - y2) * (q1 - p1)) - ((v.1 - y1) * (y2 - p2) - (v.2 - y2) * (y1 - p1)) := by unfold lft; grind
      have e5 : lft u (y1, y2) v = (y1 - u.1) * (v.2 - y2) - (y2 - u.2) * (v.1 - y1) := by unfold lft; grind
      have z : ∀ A B : Int, N * A = T * B → 0 ≤ -A → 0 ≤ B - A → B = 0 := by
        intro A B h a b
        have h1 := Int.mul_nonneg (Int.le_of_lt hN) a
        have h2 := Int.mul_nonneg (Int.le_of_lt hN) b
        rw [Int.mul_neg, h] at h1
        rw [Int.mul_sub, h] at h2
        have h3 : 0 ≤ (N - T) * B := by rw [Int.sub_mul]; omega
        have h4 : 0 ≤ T * -B := by rw [Int.mul_neg]; omega
        have := nn_of (show 0 < N - T by omega) h3
        have := nn_of hT h4
        omega
      rw [e1] at u1; rw [e2] at u2; rw [e3] at v1; rw [e4] at v2
      have z1 := z _ _ k1 u1 u2
      have z2 := z _ _ k2 v1 v2
      have := par (d := (q1 - p1, q2 - p2)) (u := (y1 - u.1, y2 - u.2)) (v := (v.1 - y1, v.2 - y2)) (by
        intro h
        simp only [Prod.mk.injEq] at h
        rw [h.1, h.2] at hNe
        simp at hNe; omega) (by unfold crs; simp only; rw [← Int.neg_eq_zero]; rw [← z1]; grind) (by unfold crs; simp only; rw [← Int.neg_eq_zero]; rw [← z2]; grind)
      unfold crs at this
      simp only at this
      omega
    · subst hT2
      have g1 : T * ((q1 - p1) - (y1 - p1)) = 0 := by grind
      have g2 : T * ((q2 - p2) - (y2 - p2)) = 0 := by grind
      have g1 := zero_of (by omega) g1
      have g2 := zero_of (by omega) g2
      exact nq (Prod.ext (by simp only; omega) (by simp only; omega))
    · have k := key (w.1 - q1) (w.2 - q2)
      have e1 : lft (q1, q2) w (y1, y2) = ((w.1 - q1) * (y2 - p2) - (w.2 - q2) * (y1 - p1)) - ((w.1 - q1) * (q2 - p2) - (w.2 - q2) * (q1 - p1)) := by unfold lft; grind
      have e2 : lft (p1, p2) (q1, q2) w = - ((w.1 - q1) * (q2 - p2) - (w.2 - q2) * (q1 - p1)) := by unfold lft; grind
      rw [e1] at w2; rw [e2] at t2
      have h1 := Int.mul_nonneg (Int.le_of_lt hN) w2
      rw [Int.mul_sub, k] at h1
      generalize (w.1 - q1) * (q2 - p2) - (w.2 - q2) * (q1 - p1) = B at *
      have h2 : 0 ≤ (T - N) * B := by rw [Int.sub_mul]; omega
      have := nn_of (show 0 < T - N by omega) h2
      omega

/-- A convex polygon's corners: each lies strictly to the left of all edges but its own two. -/
def Poly (f : Nat → P2) (n : Nat) : Prop := 3 ≤ n ∧ f n = f 0 ∧ ∀ i j, i < n → j < n → j ≠ i → f j ≠ f (i + 1) → 0 < lft (f i) (f (i + 1)) (f j)
theorem Ring.prev {S f n} (h : Ring S f n) (hn : 3 ≤ n) {i : Nat} (hi : i < n) : ∃ j, j < n ∧ f (j + 1) = f i ∧ 0 < lft (f j) (f i) (f (i + 1)) := by
  rcases Nat.eq_zero_or_pos i with rfl | h0
  · refine ⟨n - 1, by omega, ?_, ?_⟩
    · rw [show n - 1 + 1 = n by omega]; exact h.back
    · have := h.close; rw [h.back] at this; exact this
  · refine ⟨i - 1, by omega, by rw [show i - 1 + 1 = i by omega], ?_⟩
    have := h.turn (i - 1) (by omega)
    rw [show i - 1 + 1 = i by omega, show i - 1 + 2 = i + 1 by omega] at this
    exact this
theorem Ring.next {S f n} (h : Ring S f n) (hn : 3 ≤ n) {i : Nat} (hi : i < n) : ∃ j, j < n ∧ f j = f (i + 1) ∧ 0 < lft (f i) (f (i + 1)) (f (j + 1)) := by
  rcases Nat.lt_or_ge (i + 1) n with h1 | h1
  · exact ⟨i + 1, h1, rfl, h.turn i h1⟩
  · have : i + 1 = n := by omega
    refine ⟨0, by omega, by rw [this, h.back], ?_⟩
    have hc := h.close
    rw [show n - 1 = i by omega] at hc
    rw [this]; exact hc
theorem Ring.poly {S f n} (h : Ring S f n) (hn : 3 ≤ n) : Poly f n := by
  refine ⟨hn, h.back, fun i j hi hj hij hq => ?_⟩
  obtain ⟨a, ha, ea, ta⟩ := h.prev hn hi
  obtain ⟨b, hb, eb, tb⟩ := h.next hn hi
  obtain ⟨c, hc, ec, tc⟩ := h.prev hn hj
  have wa := h.weak a ha (f j) (h.mem j (by omega))
  have wb := h.weak b hb (f j) (h.mem j (by omega))
  rw [ea] at wa
  rw [eb] at wb
  have c1 := h.weak c hc (f i) (h.mem i (by omega))
  have c2 := h.weak c hc (f (i + 1)) (h.mem (i + 1) (by omega))
  rw [ec] at c1 c2
  exact strict_of (h.weak i hi _ (h.mem j (by omega))) ta wa tb wb tc c1 c2 (h.weak j hj _ (h.mem i (by omega))) (h.weak j hj _ (h.mem (i + 1) (by omega)))
    (fun e => hij (h.inj j i hj hi e)) hq
end Go.Geo
/-
  Plain lists of points: the insertion sort, equal neighbours left out, and the hull of what is left. An own text.
-/
set_option maxRecDepth 20000
namespace Go.Geo

instance (p q : P2) : Decidable (lx p q) := by unfold lx; infer_instance

/-- x goes to the left, past what comes behind it: 'ps' are those before it, the last one first. -/
def insR : List P2 → P2 → List P2 → List P2
  | [], x, r => x :: r
  | p :: ps, x, r => if lx x p then insR ps x (p :: r) else (p :: ps).reverse ++ x :: r
theorem insR_app : ∀ (ps : List P2) (x : P2) (r s : List P2), insR ps x (r ++ s) = insR ps x r ++ s
  | [], x, r, s => rfl
  | p :: ps, x, r, s => by
    unfold insR
    split
    · rw [← List.cons_append, insR_app ps]
    · simp
theorem insR_mem : ∀ (ps : List P2) (x : P2) (r : List P2) (y : P2), y ∈ insR ps x r ↔ y ∈ ps ∨ y = x ∨ y ∈ r
  | [], x, r, y => by unfold insR; simp
  | p :: ps, x, r, y => by
    unfold insR
    split
    · rw [insR_mem ps]; simp only [List.mem_cons]
      constructor
      · rintro (h | h | h | h) <;> simp_all
      · rintro ((h | h) | h | h) <;> simp_all
    · simp only [List.mem_append, List.mem_reverse, List.mem_cons]
theorem insR_len : ∀ (ps : List P2) (x : P2) (r : List P2), (insR ps x r).length = ps.length + 1 + r.length
  | [], x, r => by simp [insR]; omega
  | p :: ps, x, r => by
    unfold insR
    split
    · rw [insR_len ps]; simp; omega
    · simp; omega
def le (p q : P2) : Prop := ¬ lx q p
theorem le_trans {p q r : P2} (h : le p q) (h' : le q r) : le p r := by unfold le lx at *; omega
theorem insR_ord : ∀ (ps : List P2) (x : P2) (r : List P2), (ps.reverse ++ r).Pairwise le → (∀ y, y ∈ r → le x y) → (insR ps x r).Pairwise le
  | [], x, r, h, hr => by
    unfold insR
    rw [List.pairwise_cons]
    exact ⟨hr, by simpa using h⟩
  | p :: ps, x, r, h, hr => by
    unfold insR
    split
    · rename_i hlt
      refine insR_ord ps x (p :: r) (by simpa [List.append_assoc] using h) (fun y hy => ?_)
      rcases List.mem_cons.1 hy with rfl | hy
      · exact fun h' => lx_irr hlt h'
      · exact hr y hy
    · rename_i hlt
      have hpx : le p x := hlt
      rw [List.pairwise_append] at h ⊢
      refine ⟨h.1, ?_, fun a ha b hb => ?_⟩
      · rw [List.pairwise_cons]; exact ⟨hr, h.2.1⟩
      · rcases List.mem_cons.1 hb with rfl | hb
        · have ha' : a ∈ p :: ps := by simpa [or_comm] using ha
          rcases List.mem_cons.1 ha' with rfl | ha'
          · exact hpx
          · have h1 := h.1
            rw [List.reverse_cons, List.pairwise_append] at h1
            exact le_trans (h1.2.2 a (by simpa using ha') p (by simp)) hpx
        · exact h.2.2 a ha b hb

def insG (s : List P2) (x : P2) : List P2 := insR s.reverse x []
def srt (l : List P2) : List P2 := l.foldl insG []
theorem srt_from : ∀ (l s : List P2), s.Pairwise le → (l.foldl insG s).Pairwise le ∧ (∀ x, x ∈ l.foldl insG s ↔ x ∈ s ∨ x ∈ l) ∧ (l.foldl insG s).length = s.length + l.length
  | [], s, hs => ⟨hs, fun x => by simp, by simp⟩
  | x :: l, s, hs => by
    have h1 : (insG s x).Pairwise le := insR_ord s.reverse x [] (by simpa using hs) (fun y hy => by cases hy)
    have hmem : ∀ y, y ∈ insG s x ↔ y ∈ s ∨ y = x := fun y => by unfold insG; rw [insR_mem]; simp
    obtain ⟨k1, k2, k3⟩ := srt_from l (insG s x) h1
    refine ⟨k1, fun y => ?_, ?_⟩
    · show y ∈ l.foldl insG (insG s x) ↔ _
      rw [k2, hmem]; simp only [List.mem_cons]
      constructor
      · rintro ((h | h) | h) <;> simp_all
      · rintro (h | h | h) <;> simp_all
    · show (l.foldl insG (insG s x)).length = _
      rw [k3]; unfold insG; rw [insR_len]; simp; omega
theorem srt_ok (l : List P2) : (srt l).Pairwise le ∧ (∀ x, x ∈ srt l ↔ x ∈ l) ∧ (srt l).length = l.length := by
  obtain ⟨h1, h2, h3⟩ := srt_from l [] List.Pairwise.nil
  exact ⟨h1, fun x => by rw [show srt l = l.foldl insG [] from rfl, h2]; simp, by rw [show srt l = l.foldl insG [] from rfl, h3]; simp⟩

/-! Equal neighbours are left out. -/
def dd (p : P2) : List P2 → List P2
  | [] => []
  | x :: l => if x = p then dd p l else x :: dd x l
def cmpt : List P2 → List P2
  | [] => []
  | a :: l => a :: dd a l
theorem dd_mem : ∀ (l : List P2) (p x : P2), x ∈ p :: dd p l ↔ x ∈ p :: l
  | [], p, x => by simp [dd]
  | y :: l, p, x => by
    unfold dd
    split
    · rename_i h; subst h
      rw [dd_mem l]; simp
    · have := dd_mem l y x
      simp only [List.mem_cons] at this ⊢
      rw [this]
theorem dd_ord : ∀ (l : List P2) (p : P2), (p :: l).Pairwise le → (p :: dd p l).Pairwise lx
  | [], p, _ => by simp [dd]
  | y :: l, p, h => by
    rw [List.pairwise_cons, List.pairwise_cons] at h
    obtain ⟨h1, h2, h3⟩ := h
    unfold dd
    split
    · rename_i e; subst e
      exact dd_ord l y (List.pairwise_cons.2 ⟨h2, h3⟩)
    · rename_i hne
      have hpy : lx p y := by
        rcases lx_tri p y with e | e | e
        · exact absurd e.symm hne
        · exact e
        · exact absurd e (h1 y (by simp))
      have ih := dd_ord l y (List.pairwise_cons.2 ⟨h2, h3⟩)
      rw [List.pairwise_cons]
      refine ⟨fun z hz => ?_, ih⟩
      rw [List.pairwise_cons] at ih
      rcases List.mem_cons.1 hz with rfl | hz
      · exact hpy
      · exact lx_trans hpy (ih.1 z hz)
theorem dd_len : ∀ (l : List P2) (p : P2), (dd p l).length ≤ l.length
  | [], p => by simp [dd]
  | y :: l, p => by
    unfold dd
    split
    · have := dd_len l p; simp; omega
    · have := dd_len l y; simp; omega
theorem cmpt_ok (l : List P2) : (cmpt (srt l)).Pairwise lx ∧ (∀ x, x ∈ cmpt (srt l) ↔ x ∈ l) ∧ (cmpt (srt l)).length ≤ l.length ∧ (l ≠ [] → cmpt (srt l) ≠ []) := by
  obtain ⟨h1, h2, h3⟩ := srt_ok l
  have he : srt l = [] → l = [] := by
    intro e
    rw [e] at h3
    exact List.length_eq_zero_iff.1 h3.symm
  cases hs : srt l with
  | nil =>
    have := he hs
    subst this
    simp [cmpt]
  | cons a t =>
    rw [hs] at h1 h2 h3
    refine ⟨dd_ord t a h1, fun x => by rw [← h2]; exact dd_mem t a x, ?_, fun _ => by simp [cmpt]⟩
    have := dd_len t a
    simp only [cmpt, List.length_cons] at h3 ⊢; omega
theorem lx_unique : ∀ {a b : List P2}, a.Pairwise lx → b.Pairwise lx → (∀ x, x ∈ a ↔ x ∈ b) → a = b
  | [], [], _, _, _ => rfl
  | [], y :: b, _, _, h => absurd ((h y).2 List.mem_cons_self) (by simp)
  | x :: a, [], _, _, h => absurd ((h x).1 List.mem_cons_self) (by simp)
  | x :: a, y :: b, ha, hb, h => by
    rw [List.pairwise_cons] at ha hb
    have hxy : x = y := by
      rcases List.mem_cons.1 ((h x).1 List.mem_cons_self) with e | e
      · exact e
      · rcases List.mem_cons.1 ((h y).2 List.mem_cons_self) with e' | e'
        · exact e'.symm
        · exact (lx_irr (ha.1 y e') (hb.1 x e)).elim
    subst hxy
    rw [lx_unique ha.2 hb.2 fun z => by
      constructor
      · intro hz
        rcases List.mem_cons.1 ((h z).1 (List.mem_cons_of_mem _ hz)) with e | e
        · subst e; exact (lx_ne (ha.1 z hz)).elim
        · exact e
      · intro hz
        rcases List.mem_cons.1 ((h z).2 (List.mem_cons_of_mem _ hz)) with e | e
        · subst e; exact (lx_ne (hb.1 z hz)).elim
        · exact e]
theorem nodup_len : ∀ (h s : List P2), h.Nodup → (∀ x, x ∈ h → x ∈ s) → h.length ≤ s.length
  | [], s, _, _ => by simp
  | x :: h, s, hn, hm => by
    rw [List.nodup_cons] at hn
    have hx := hm x (by simp)
    have := nodup_len h (s.erase x) hn.2 (fun y hy => (List.mem_erase_of_ne (fun e => hn.1 (by rw [← e]; exact hy))).2 (hm y (List.mem_cons_of_mem _ hy)))
    rw [List.length_erase_of_mem hx] at this
    have h0 : 0 < s.length := List.length_pos_of_mem hx
    simp only [List.length_cons]; omega

/-! The hull. -/
theorem pop_neg (x : P2) : ∀ s : List P2, pop (neg x) (s.map neg) = (pop x s).map neg
  | [] => rfl
  | [a] => rfl
  | b :: a :: r => by
    have h := pop_neg x (a :: r)
    simp only [List.map_cons] at h ⊢
    unfold pop
    rw [lft_neg]
    split
    · exact h
    · rfl
theorem chain_neg (l : List P2) : chain (l.map neg) = (chain l).map neg := by
  have key : ∀ (l s : List P2), (l.map neg).foldl chainF (s.map neg) = (l.foldl chainF s).map neg := by
    intro l
    induction l with
    | nil => intro s; rfl
    | cons x l ih =>
      intro s
      simp only [List.map_cons, List.foldl_cons]
      rw [← ih]
      congr 1
      unfold chainF
      rw [pop_neg]; rfl
  exact key l []
theorem rg_neg (s : List P2) (i : Nat) : rg (s.map neg) i = neg (rg s i) := by
  unfold rg
  rw [← List.map_reverse, List.getD_eq_getElem?_getD, List.getD_eq_getElem?_getD, List.getElem?_map]
  cases s.reverse[i]? <;> rfl
def lowr (s : List P2) : List P2 := (chain s).reverse
def uppr (s : List P2) : List P2 := (chain s.reverse).reverse
def hullOf (s : List P2) : List P2 := (lowr s).take ((lowr s).length - 1) ++ (uppr s).take ((uppr s).length - 1)
theorem two_of {s : List P2} (hs : s.Pairwise lx) (hne : s ≠ []) :
    Two (fun y => y ∈ s) (rg (chain s)) ((chain s).length - 1) (rg (chain s.reverse)) ((chain s.reverse).length - 1) ∧ chain s ≠ [] ∧ chain s.reverse ≠ [] := by
  have hl : ∃ a l, s = a :: l := by cases s with | nil => exact absurd rfl hne | cons a l => exact ⟨a, l, rfl⟩
  have hr : ∃ a l, s.reverse.map neg = a :: l := by
    cases h : s.reverse.map neg with
    | nil => rw [List.map_eq_nil_iff, List.reverse_eq_nil_iff] at h; exact absurd h hne
    | cons a l => exact ⟨a, l, rfl⟩
  have hs2 : (s.reverse.map neg).Pairwise lx := by
    rw [List.pairwise_map, List.pairwise_reverse]
    exact hs.imp fun h => (lx_neg _ _).2 h
  obtain ⟨a, l, e⟩ := hl
  obtain ⟨a2, l2, e2⟩ := hr
  obtain ⟨t, ht⟩ := chain_inv a l (by rw [← e]; exact hs)
  obtain ⟨t2, ht2⟩ := chain_inv a2 l2 (by rw [← e2]; exact hs2)
  rw [← e] at ht
  rw [← e2, chain_neg] at ht2
  have c2 := ht2.ch
  have e3 : (rg ((chain s.reverse).map neg)) = fun j => neg (rg (chain s.reverse) j) := funext fun j => rg_neg _ j
  have e4 : (fun y => y ∈ s.reverse.map neg) = (fun y => neg y ∈ s) := by
    funext y
    simp only [List.mem_map, List.mem_reverse, eq_iff_iff]
    constructor
    · rintro ⟨z, hz, rfl⟩; rwa [neg_neg]
    · intro h; exact ⟨_, h, neg_neg y⟩
  rw [e3, e4, List.length_map] at c2
  refine ⟨⟨ht.ch, c2⟩, ?_, ?_⟩
  · obtain ⟨r, hr⟩ := ht.hd; rw [hr]; simp
  · obtain ⟨r, hr⟩ := ht2.hd
    intro e; rw [e] at hr; simp at hr

def at0 (l : List P2) (i : Nat) : P2 := l.getD i (0, 0)
theorem at0_app_l {a b : List P2} {i : Nat} (h : i < a.length) : at0 (a ++ b) i = at0 a i := by
  unfold at0; rw [List.getD_eq_getElem?_getD, List.getD_eq_getElem?_getD, List.getElem?_append_left h]
theorem at0_app_r {a b : List P2} {i : Nat} (h : a.length ≤ i) : at0 (a ++ b) i = at0 b (i - a.length) := by
  unfold at0; rw [List.getD_eq_getElem?_getD, List.getD_eq_getElem?_getD, List.getElem?_append_right h]
theorem at0_take {a : List P2} {i n : Nat} (h : i < n) : at0 (a.take n) i = at0 a i := by
  unfold at0; rw [List.getD_eq_getElem?_getD, List.getD_eq_getElem?_getD, List.getElem?_take, if_pos h]
theorem at0_mem {a : List P2} {i : Nat} (h : i < a.length) : at0 a i ∈ a := by
  unfold at0; rw [List.getD_eq_getElem?_getD, List.getElem?_eq_getElem h]; simp
theorem mem_at0 {a : List P2} {x : P2} (h : x ∈ a) : ∃ i, i < a.length ∧ at0 a i = x := by
  obtain ⟨i, hi, e⟩ := List.getElem_of_mem h
  exact ⟨i, hi, by unfold at0; rw [List.getD_eq_getElem?_getD, List.getElem?_eq_getElem hi]; exact e⟩

/-- The corners of a hull, as a ring. -/
def rng (h : List P2) (i : Nat) : P2 := if i = h.length then at0 h 0 else at0 h i

theorem hull_ring {s : List P2} (hs : s.Pairwise lx) (hne : s ≠ []) (h3 : 3 ≤ (hullOf s).length) : Ring (fun y => y ∈ s) (rng (hullOf s)) (hullOf s).length := by
  obtain ⟨ht, c1, c2⟩ := two_of hs hne
  have l1 : 0 < (chain s).length := List.length_pos_iff.2 c1
  have l2 : 0 < (chain s.reverse).length := List.length_pos_iff.2 c2
  have hlen : (hullOf s).length = ((chain s).length - 1) + ((chain s.reverse).length - 1) := by
    unfold hullOf lowr uppr
    simp only [List.length_append, List.length_take, List.length_reverse]; omega
  have hlo : (lowr s).length = (chain s).length := List.length_reverse
  have hup : (uppr s).length = (chain s.reverse).length := List.length_reverse
  generalize hm : (chain s).length - 1 = m at *
  generalize hk : (chain s.reverse).length - 1 = k at *
  -- both halves have an edge
  have hz := ht.z
  have ha := ht.a
  have hmk : 0 < m ∧ 0 < k := by
    rcases Nat.eq_zero_or_pos m with h0 | h0
    · rcases Nat.eq_zero_or_pos k with h1 | h1
      · omega
      · rw [h0] at hz
        have := ht.upp.mono h1 (Nat.le_refl k)
        rw [show rg (chain s.reverse) 0 = rg (chain s.reverse) k by rw [← hz, ha]] at this
        exact (lx_ne this).elim
    · refine ⟨h0, ?_⟩
      rcases Nat.eq_zero_or_pos k with h1 | h1
      · rw [h1] at ha
        have := ht.low.mono h0 (Nat.le_refl m)
        rw [hz, ha] at this
        exact (lx_ne this).elim
      · exact h1
  have hr := ht.ring hmk.1 hmk.2 (by omega)
  have heq : ∀ i, i ≤ m + k → rng (hullOf s) i = ring (rg (chain s)) m (rg (chain s.reverse)) i := by
    have hi : ∀ i, i < m + k → at0 (hullOf s) i = ring (rg (chain s)) m (rg (chain s.reverse)) i := by
      intro i hi
      have hll : ((lowr s).take ((lowr s).length - 1)).length = m := by rw [List.length_take]; omega
      unfold hullOf
      rcases Nat.lt_or_ge i m with h | h
      · rw [at0_app_l (by rw [hll]; exact h), at0_take (by omega), ring_lo (by omega)]; rfl
      · rw [at0_app_r (by rw [hll]; exact h), hll, at0_take (by omega), ht.ring_up h]; rfl
    intro i hle
    unfold rng
    rw [hlen]
    split
    · rename_i e
      subst e
      rw [hi 0 (by omega), hr.back]
    · exact hi i (by omega)
  rw [hlen]
  have e0 := heq 0 (by omega)
  exact ⟨fun i hi => by rw [heq i hi]; exact hr.mem i hi, by rw [heq _ (Nat.le_refl _), e0]; exact hr.back, fun i hi => by rw [heq i (by omega), heq (i + 1) (by omega)]; exact hr.weak i hi,
    fun i hi => by rw [heq i (by omega), heq (i + 1) (by omega), heq (i + 2) (by omega)]; exact hr.turn i hi, by rw [heq _ (by omega), heq _ (Nat.le_refl _), heq 1 (by omega)]; exact hr.close,
    fun i j hi hj e => hr.inj i j hi hj (by rw [heq i (by omega), heq j (by omega)] at e; exact e), by rw [e0]; exact hr.mn⟩

/-- Fewer than three corners: all points are on one line. -/
theorem hull_line {s : List P2} (hs : s.Pairwise lx) (hne : s ≠ []) (h3 : (hullOf s).length < 3) : ∀ p q r, p ∈ s → q ∈ s → r ∈ s → lft p q r = 0 := by
  obtain ⟨ht, c1, c2⟩ := two_of hs hne
  have l1 : 0 < (chain s).length := List.length_pos_iff.2 c1
  have l2 : 0 < (chain s.reverse).length := List.length_pos_iff.2 c2
  have hlen : (hullOf s).length = ((chain s).length - 1) + ((chain s.reverse).length - 1) := by
    unfold hullOf lowr uppr
    simp only [List.length_append, List.length_take, List.length_reverse]; omega
  generalize (chain s).length - 1 = m at *
  generalize (chain s.reverse).length - 1 = k at *
  have hz := ht.z
  have ha := ht.a
  rcases Nat.eq_zero_or_pos m with h0 | h0
  · -- one point
    have hall : ∀ y, y ∈ s → y = rg (chain s) 0 := by
      intro y hy
      rcases ht.low.mx y hy with e | e
      · rw [h0] at e; exact e
      · rcases ht.low.mn y hy with e2 | e2
        · exact e2
        · rw [h0] at e; exact (lx_irr e e2).elim
    intro p q r hp hq hr
    rw [hall p hp, hall q hq, hall r hr, lft_self]
  · have hk : 0 < k := by
      rcases Nat.eq_zero_or_pos k with h1 | h1
      · rw [h1] at ha
        have := ht.low.mono h0 (Nat.le_refl m)
        rw [hz, ha] at this
        exact (lx_ne this).elim
      · exact h1
    have hm1 : m = 1 := by omega
    have hk1 : k = 1 := by omega
    subst hm1; subst hk1
    have hd := sub_ne (ht.low.up 0 (by omega))
    have hline : ∀ y, y ∈ s → crs (sub (rg (chain s) 1) (rg (chain s) 0)) (sub y (rg (chain s) 0)) = 0 := by
      intro y hy
      have w1 := ht.low.weak 0 (by omega) y hy
      have w2 := ht.upW (j := 0) (by omega) hy
      simp only [Nat.zero_add] at w1 w2
      rw [← hz, ← ha] at w2
      rw [← lft_crs]
      have : lft (rg (chain s) 1) (rg (chain s) 0) y = - lft (rg (chain s) 0) (rg (chain s) 1) y := by unfold lft; grind
      omega
    intro p q r hp hq hr
    exact lft_line hd (hline p hp) (hline q hq) (hline r hr)
theorem hull_len {s : List P2} (hs : s.Pairwise lx) (hne : s ≠ []) (h3 : 3 ≤ (hullOf s).length) : (hullOf s).length ≤ s.length := by
  have hr := hull_ring hs hne h3
  refine nodup_len _ _ ?_ fun x hx => ?_
  · rw [List.nodup_iff_pairwise_ne, List.pairwise_iff_getElem]
    intro i j hi hj hij e
    have h1 : rng (hullOf s) i = rng (hullOf s) j := by
      unfold rng at0
      rw [if_neg (by omega), if_neg (by omega), List.getD_eq_getElem?_getD, List.getD_eq_getElem?_getD, List.getElem?_eq_getElem hi, List.getElem?_eq_getElem hj, e]
    have := hr.inj i j (by omega) hj h1
    omega
  · obtain ⟨i, hi, e⟩ := mem_at0 hx
    have := hr.mem i (by omega)
    unfold rng at this
    rw [if_neg (by omega), e] at this
    exact this
end Go.Geo
/-
  Plain geometry: a polygon and its copy beside it are parted by an edge of one of them. An own text.
-/
set_option maxRecDepth 20000
namespace Go.Geo

theorem Ring.adj {S f n} (hr : Ring S f n) (hn : 3 ≤ n) {d : P2} (hd : d ≠ (0, 0)) {i j : Nat} (hi : i < n) (hj : j < n) (hne : i ≠ j) (hmin : ∀ k, k ≤ n → 0 ≤ crs d (sub (f k) (f i)))
    (heq : crs d (sub (f j) (f i)) = 0) : ∃ e, e < n ∧ ∀ z, crs d (sub z (f i)) < 0 → lft (f e) (f (e + 1)) z < 0 := by
  -- an edge along d, a corner that lies beside it
  have key : ∀ (e t z : P2), crs d e = 0 → 0 < crs e t → 0 ≤ crs d t → crs d z < 0 → crs e z < 0 := by
    intro e t z h1 h2 h3 h4
    have h5 : 0 < crs d t := by
      rcases Int.lt_or_le 0 (crs d t) with h | h
      · exact h
      · have := par hd h1 (show crs d t = 0 by omega)
        omega
    have e1 : crs d z * crs e t = crs d t * crs e z + crs d e * crs z t := by unfold crs; grind
    rw [h1, Int.zero_mul, Int.add_zero] at e1
    have h6 := Int.mul_neg_of_neg_of_pos h4 h2
    rcases Int.lt_or_le (crs e z) 0 with h | h
    · exact h
    · have := Int.mul_nonneg (Int.le_of_lt h5) h; omega
  obtain ⟨a, ha, ea, ta⟩ := hr.prev hn hi
  obtain ⟨b, hb, eb, tb⟩ := hr.next hn hi
  by_cases h1 : f j = f (i + 1)
  · refine ⟨i, hi, fun z hz => ?_⟩
    rw [lft_crs]
    refine key _ (sub (f (b + 1)) (f i)) _ (by rw [← h1]; exact heq) (by rw [← lft_crs]; exact tb) (hmin _ (by omega)) hz
  · have w2 : lft (f a) (f i) (f j) = crs (sub (f j) (f i)) (sub (f a) (f i)) := lft_crs3 _ _ _
    have t2 : lft (f a) (f i) (f (i + 1)) = crs (sub (f (i + 1)) (f i)) (sub (f a) (f i)) := lft_crs3 _ _ _
    by_cases h2 : j = a
    · subst h2
      refine ⟨j, hj, fun z hz => ?_⟩
      rw [ea, lft_crs2]
      refine key _ (sub (f (i + 1)) (f i)) _ ?_ ?_ (hmin _ (by omega)) hz
      · have : crs d (sub (f i) (f j)) = - crs d (sub (f j) (f i)) := by unfold crs sub; grind
        omega
      · rw [← lft_crs2]; exact ta
    · exfalso
      have hp := (hr.poly hn).2.2
      have s1 := hp i j hi hj (fun e => hne e.symm) h1
      have s2 := hp a j ha hj h2 (by rw [ea]; intro e; exact hne (hr.inj i j hi hj e.symm))
      rw [ea] at s2
      rw [w2] at s2
      rw [t2] at ta
      rw [lft_crs] at s1
      have m1 := hmin (i + 1) (by omega)
      have m2 := hmin a (by omega)
      generalize sub (f (i + 1)) (f i) = u at *
      generalize sub (f a) (f i) = v at *
      generalize sub (f j) (f i) = w at *
      have e1 : crs u v * crs d w = crs w v * crs d u + crs u w * crs d v := by unfold crs; grind
      rw [heq, Int.mul_zero] at e1
      have p1 := Int.mul_nonneg (Int.le_of_lt s2) m1
      have p2 := Int.mul_nonneg (Int.le_of_lt s1) m2
      have z1 := zero_of (show crs w v ≠ 0 by omega) (show crs w v * crs d u = 0 by omega)
      have z2 := zero_of (show crs u w ≠ 0 by omega) (show crs u w * crs d v = 0 by omega)
      have := par hd z1 z2
      omega

/-- A point ahead of all others is on the right of an edge. -/
theorem Ring.out {S f n} (hr : Ring S f n) (hn : 3 ≤ n) {p : P2} (hp : ∀ y, S y → lx p y) : ∃ j, j < n ∧ lft (f j) (f (j + 1)) p < 0 := by
  have hc := hr.close
  rw [hr.back] at hc
  have h1 := hr.mn (f 1) (hr.mem 1 (by omega))
  have h2 := hr.mn (f (n - 1)) (hr.mem (n - 1) (by omega))
  have n1 : lx (f 0) (f 1) := by
    rcases h1 with e | e
    · have := hr.inj 1 0 (by omega) (by omega) e; omega
    · exact e
  have n2 : lx (f 0) (f (n - 1)) := by
    rcases h2 with e | e
    · have := hr.inj (n - 1) 0 (by omega) (by omega) e; omega
    · exact e
  have h0 := hp (f 0) (hr.mem 0 (by omega))
  rcases Int.lt_or_le (lft (f 0) (f 1) p) 0 with h | h
  · exact ⟨0, by omega, h⟩
  · rcases Int.lt_or_le (lft (f (n - 1)) (f 0) p) 0 with h' | h'
    · refine ⟨n - 1, by omega, ?_⟩
      rw [show n - 1 + 1 = n by omega, hr.back]; exact h'
    · exfalso
      generalize f 0 = o at *
      generalize f 1 = v at *
      generalize f (n - 1) = u at *
      have e1 : lft u o p = (u.1 - o.1) * (o.2 - p.2) - (u.2 - o.2) * (o.1 - p.1) := by unfold lft; grind
      have e2 : lft o v p = (o.1 - p.1) * (v.2 - o.2) - (o.2 - p.2) * (v.1 - o.1) := by unfold lft; grind
      have e3 : lft u o v = - ((u.1 - o.1) * (v.2 - o.2) - (u.2 - o.2) * (v.1 - o.1)) := by unfold lft; grind
      rw [e2] at h
      rw [e1] at h'
      rw [e3] at hc
      unfold lx at *
      have := wtrans (ux := u.1 - o.1) (uy := u.2 - o.2) (ex := o.1 - p.1) (ey := o.2 - p.2) (wx := v.1 - o.1) (wy := v.2 - o.2) (by omega) (by omega) (by omega) h' h
      omega

def mv (k : Int) (p : P2) : P2 := (p.1 + k, p.2)
/-- All differences of two corners. -/
def diffs (g : List P2) : List P2 := g.flatMap fun x => g.map fun y => sub x y
theorem mem_diffs {g : List P2} {d : P2} : d ∈ diffs g ↔ ∃ x y, x ∈ g ∧ y ∈ g ∧ d = sub x y := by
  unfold diffs
  simp only [List.mem_flatMap, List.mem_map]
  constructor
  · rintro ⟨x, hx, y, hy, rfl⟩; exact ⟨x, y, hx, hy, rfl⟩
  · rintro ⟨x, y, hx, hy, rfl⟩; exact ⟨x, hx, y, hy, rfl⟩
theorem rng_mem {g : List P2} (h0 : 0 < g.length) {i : Nat} (hi : i ≤ g.length) : rng g i ∈ g := by
  unfold rng
  split
  · exact at0_mem h0
  · exact at0_mem (by omega)
theorem mem_rng {g : List P2} {x : P2} (hx : x ∈ g) : ∃ i, i < g.length ∧ rng g i = x := by
  obtain ⟨i, hi, e⟩ := mem_at0 hx
  exact ⟨i, hi, by unfold rng; rw [if_neg (by omega)]; exact e⟩

theorem beside {S} {g : List P2} (hr : Ring S (rng g) g.length) (hn : 3 ≤ g.length) {k : Int} (hk : ∀ x y, x ∈ g → y ∈ g → x.1 - y.1 < k) :
    (∃ i, i < g.length ∧ ∀ y, y ∈ g → lft (rng g i) (rng g (i + 1)) (mv k y) < 0) ∨ (∃ i, i < g.length ∧ ∀ x, x ∈ g → lft (mv k (rng g i)) (mv k (rng g (i + 1))) x < 0) := by
  obtain ⟨c1, c2, _, c4⟩ := cmpt_ok (diffs g)
  have hg0 : rng g 0 ∈ g := rng_mem (by omega) (by omega)
  have hg1 : rng g 1 ∈ g := rng_mem (by omega) (by omega)
  have hg2 : rng g 2 ∈ g := rng_mem (by omega) (by omega)
  have hdne : diffs g ≠ [] := List.ne_nil_of_mem (mem_diffs.2 ⟨_, _, hg0, hg0, rfl⟩)
  have hne := c4 hdne
  have ht := hr.turn 0 (by omega)
  rcases Nat.lt_or_ge (hullOf (cmpt (srt (diffs g)))).length 3 with h3 | h3
  · exfalso
    have := hull_line c1 hne h3 (sub (rng g 0) (rng g 0)) (sub (rng g 1) (rng g 0)) (sub (rng g 2) (rng g 0)) ((c2 _).2 (mem_diffs.2 ⟨_, _, hg0, hg0, rfl⟩)) ((c2 _).2 (mem_diffs.2 ⟨_, _, hg1, hg0, rfl⟩)) ((c2 _).2 (mem_diffs.2 ⟨_, _, hg2, hg0, rfl⟩))
    have e : lft (sub (rng g 0) (rng g 0)) (sub (rng g 1) (rng g 0)) (sub (rng g 2) (rng g 0)) = lft (rng g 0) (rng g (0 + 1)) (rng g (0 + 2)) := by unfold lft sub; grind
    omega
  · have hR := hull_ring c1 hne h3
    generalize hullOf (cmpt (srt (diffs g))) = h at *
    obtain ⟨j, hj, hout⟩ := hR.out h3 (p := (-k, 0)) (fun y hy => by
      obtain ⟨x, z, hx, hz, rfl⟩ := mem_diffs.1 ((c2 y).1 hy)
      have := hk z x hz hx
      unfold lx sub; simp only; omega)
    obtain ⟨x1, y1, hx1, hy1, ea⟩ := mem_diffs.1 ((c2 _).1 (hR.mem j (by omega)))
    obtain ⟨x2, y2, hx2, hy2, eb⟩ := mem_diffs.1 ((c2 _).1 (hR.mem (j + 1) (by omega)))
    have hw := fun x y (hx : x ∈ g) (hy : y ∈ g) => hR.weak j hj (sub x y) ((c2 _).2 (mem_diffs.2 ⟨x, y, hx, hy, rfl⟩))
    have hab : rng h j ≠ rng h (j + 1) := by
      intro e
      rcases Nat.lt_or_ge (j + 1) h.length with h1 | h1
      · have := hR.inj j (j + 1) hj h1 e; omega
      · have hl : j + 1 = h.length := by omega
        rw [hl, hR.back] at e
        have := hR.inj j 0 hj (by omega) e
        omega
    rw [ea, eb] at hout hw hab
    -- the direction of the edge
    obtain ⟨d, hd⟩ : ∃ d, d = sub (sub x2 y2) (sub x1 y1) := ⟨_, rfl⟩
    have hd0 : d ≠ (0, 0) := by
      intro e
      rw [e] at hd
      apply hab
      unfold sub at hd ⊢
      simp only [Prod.mk.injEq] at hd ⊢
      omega
    have w : ∀ x y, x ∈ g → y ∈ g → 0 ≤ crs d (sub x x1) - crs d (sub y y1) := by
      intro x y hx hy
      have := hw x y hx hy
      have e : lft (sub x1 y1) (sub x2 y2) (sub x y) = crs d (sub x x1) - crs d (sub y y1) := by rw [hd]; unfold lft crs sub; grind
      rw [e] at this; exact this
    have s0 : ∀ p : P2, crs d (sub p p) = 0 := fun p => by unfold crs sub; grind
    have wx : ∀ x, x ∈ g → 0 ≤ crs d (sub x x1) := fun x hx => by have := w x y1 hx hy1; rw [s0] at this; omega
    have wy : ∀ y, y ∈ g → crs d (sub y y1) ≤ 0 := fun y hy => by have := w x1 y hx1 hy; rw [s0] at this; omega
    have hsum : crs d (sub x2 x1) - crs d (sub y2 y1) = 0 := by rw [hd]; unfold crs sub; grind
    have hx0 : crs d (sub x2 x1) = 0 := by have := wx x2 hx2; have := wy y2 hy2; omega
    have hy0 : crs d (sub y2 y1) = 0 := by omega
    have hpo : lft (sub x1 y1) (sub x2 y2) (-k, 0) = crs d (-k, 0) - crs d x1 + crs d y1 := by rw [hd]; unfold lft crs sub; grind
    rw [hpo] at hout
    by_cases hxx : x1 = x2
    · have hyy : y1 ≠ y2 := by
        intro e
        apply hd0
        rw [hd, hxx, e]; unfold sub; simp
      left
      obtain ⟨i, hi, ei⟩ := mem_rng hy1
      obtain ⟨i2, hi2, ei2⟩ := mem_rng hy2
      have hnd : neg d ≠ (0, 0) := by
        intro e
        apply hd0
        unfold neg at e
        simp only [Prod.mk.injEq] at e
        exact Prod.ext (by simp only; omega) (by simp only; omega)
      have ncr : ∀ p : P2, crs (neg d) p = - crs d p := fun p => by unfold crs neg; grind
      obtain ⟨e, he, hz⟩ := hr.adj hn hnd hi hi2 (fun e => hyy (by rw [← ei, ← ei2, e])) (fun q hq => by
        have := wy (rng g q) (rng_mem (by omega) hq)
        rw [ei, ncr]; omega) (by rw [ei, ei2, ncr]; omega)
      refine ⟨e, he, fun y hy => hz _ ?_⟩
      have := wx y hy
      rw [ei, ncr]
      have e1 : crs d (sub (mv k y) y1) = crs d (sub y x1) - crs d (-k, 0) + crs d x1 - crs d y1 := by unfold crs sub mv; grind
      omega
    · right
      obtain ⟨i, hi, ei⟩ := mem_rng hx1
      obtain ⟨i2, hi2, ei2⟩ := mem_rng hx2
      obtain ⟨e, he, hz⟩ := hr.adj hn hd0 hi hi2 (fun e => hxx (by rw [← ei, ← ei2, e])) (fun q hq => by
        have := wx (rng g q) (rng_mem (by omega) hq)
        rw [ei]; exact this) (by rw [ei, ei2]; exact hx0)
      refine ⟨e, he, fun x hx => ?_⟩
      have := wy x hx
      have e2 : lft (mv k (rng g e)) (mv k (rng g (e + 1))) x = lft (rng g e) (rng g (e + 1)) (mv (-k) x) := by unfold lft mv; grind
      rw [e2]
      refine hz _ ?_
      rw [ei]
      have e1 : crs d (sub (mv (-k) x) x1) = crs d (sub x y1) + crs d (-k, 0) - crs d x1 + crs d y1 := by unfold crs sub mv; grind
      omega
end Go.Geo
/-
  Plain geometry: the half of a hull is the only one of its kind, so the hull's hull is itself; a polygon without one of its corners is one. An own text.
-/
set_option maxRecDepth 20000
namespace Go.Geo

/-- The next corners are the same. -/
theorem Ch.next {S f m f' m'} (h : Ch S f m) (h' : Ch S f' m') {i j : Nat} (hi : i < m) (hj : j < m') (e : f i = f' j) : ¬ lx (f (i + 1)) (f' (j + 1)) := by
  intro hlt
  have hq := h'.mem (j + 1) (by omega)
  -- the corner behind is on the same line, so f goes on
  have w1 := h.weak i hi _ hq
  have w2 := h'.weak j hj _ (h.mem (i + 1) (by omega))
  rw [← e] at w2
  have hz : lft (f i) (f (i + 1)) (f' (j + 1)) = 0 := by rw [lft_swap] at w2; omega
  rcases Nat.lt_or_ge (i + 1) m with h1 | h1
  · have ht := h.turn i h1
    have w3 := h.weak (i + 1) h1 _ hq
    have hu := h.up i hi
    generalize f i = p at *
    generalize f (i + 1) = q at *
    generalize f (i + 1 + 1) = r at *
    generalize f' (j + 1) = t at *
    have e1 : lft p q t = crs (sub q p) (sub t q) := lft_crs2 _ _ _
    have e2 : lft q r t = crs (sub r q) (sub t q) := lft_crs _ _ _
    have e3 : lft p q r = crs (sub q p) (sub r q) := lft_crs2 _ _ _
    have ht' : 0 < lft p q r := ht
    rw [e1] at hz
    rw [e2] at w3
    rw [e3] at ht'
    have g1 : 0 < (sub q p).1 ∨ (sub q p).1 = 0 ∧ 0 < (sub q p).2 := by unfold sub lx at *; simp only; omega
    have g2 : 0 < (sub t q).1 ∨ (sub t q).1 = 0 ∧ 0 < (sub t q).2 := by unfold sub lx at *; simp only; omega
    generalize sub q p = d at *
    generalize sub t q = v at *
    generalize sub r q = w at *
    -- v is along d: w to the left of d is to the left of v
    unfold crs at *
    rcases g1 with g1 | ⟨g1, g1'⟩
    · rcases g2 with g2 | ⟨g2, g2'⟩
      · have e4 : d.1 * (w.1 * v.2 - w.2 * v.1) = - (v.1 * (d.1 * w.2 - d.2 * w.1)) + w.1 * (d.1 * v.2 - d.2 * v.1) := by grind
        rw [hz, Int.mul_zero, Int.add_zero] at e4
        have := Int.mul_pos g2 ht'
        have := Int.mul_nonneg (Int.le_of_lt g1) w3
        omega
      · rw [g2] at hz
        have := Int.mul_pos g1 g2'
        simp at hz; omega
    · rw [g1] at hz ht'
      have hv : v.1 = 0 := by
        have : d.2 * v.1 = 0 := by omega
        exact zero_of (by omega) this
      rw [hv] at w3 g2
      have hw : w.1 < 0 := by
        rcases Int.lt_or_le w.1 0 with h | h
        · exact h
        · have := Int.mul_nonneg (Int.le_of_lt g1') h; omega
      have hv2 : 0 < v.2 := by omega
      have := Int.mul_neg_of_neg_of_pos hw hv2
      omega
  · have : i + 1 = m := by omega
    rw [this] at hlt
    rcases h.mx _ hq with e2 | e2
    · rw [e2] at hlt; exact lx_ne hlt
    · exact lx_irr hlt e2
theorem Ch.unique {S f m f' m'} (h : Ch S f m) (h' : Ch S f' m') : m = m' ∧ ∀ i, i ≤ m → f i = f' i := by
  have h0 : f 0 = f' 0 := by
    rcases h.mn _ (h'.mem 0 (by omega)) with e | e
    · exact e.symm
    · rcases h'.mn _ (h.mem 0 (by omega)) with e2 | e2
      · exact e2
      · exact (lx_irr e e2).elim
  have key : ∀ i, i ≤ m → i ≤ m' → f i = f' i := by
    intro i
    induction i with
    | zero => intro _ _; exact h0
    | succ i ih =>
      intro h1 h2
      have e := ih (by omega) (by omega)
      rcases lx_tri (f (i + 1)) (f' (i + 1)) with e2 | e2 | e2
      · exact e2
      · exact (h.next h' (by omega) (by omega) e e2).elim
      · exact (h'.next h (by omega) (by omega) e.symm e2).elim
  have hm : m = m' := by
    rcases Nat.lt_trichotomy m m' with hl | hl | hl
    · have e := key m (Nat.le_refl _) (by omega)
      have := h'.up m hl
      rw [← e] at this
      rcases h.mx _ (h'.mem (m + 1) (by omega)) with e2 | e2
      · rw [e2] at this; exact (lx_ne this).elim
      · exact (lx_irr this e2).elim
    · exact hl
    · have e := key m' (by omega) (Nat.le_refl _)
      have := h.up m' hl
      rw [e] at this
      rcases h'.mx _ (h.mem (m' + 1) (by omega)) with e2 | e2
      · rw [e2] at this; exact (lx_ne this).elim
      · exact (lx_irr this e2).elim
  exact ⟨hm, fun i hi => key i hi (by omega)⟩
theorem Ch.restrict {S S' : P2 → Prop} {f m} (h : Ch S f m) (hs : ∀ y, S' y → S y) (hm : ∀ i, i ≤ m → S' (f i)) : Ch S' f m :=
  ⟨hm, fun i hi y hy => h.weak i hi y (hs y hy), h.turn, h.up, fun y hy => h.mx y (hs y hy), fun y hy => h.mn y (hs y hy)⟩
theorem rg_ext {s t : List P2} (hl : s.length = t.length) (h : ∀ i, i < s.length → rg s i = rg t i) : s = t := by
  have : s.reverse = t.reverse := by
    apply List.ext_getElem (by simpa using hl)
    intro i h1 h2
    have := h i (by simpa using h1)
    unfold rg at this
    rw [List.getD_eq_getElem?_getD, List.getD_eq_getElem?_getD, List.getElem?_eq_getElem h1, List.getElem?_eq_getElem h2] at this
    exact this
  exact List.reverse_inj.1 this

/-- The hull's hull. -/
theorem hull_again {s t : List P2} (hs : s.Pairwise lx) (ht : t.Pairwise lx) (hne : s ≠ []) (h3 : 3 ≤ (hullOf s).length) (hm : ∀ x, x ∈ t ↔ x ∈ hullOf s) (hsub : ∀ x, x ∈ hullOf s → x ∈ s) : hullOf t = hullOf s := by
  obtain ⟨h2, c1, c2⟩ := two_of hs hne
  have l1 : 0 < (chain s).length := List.length_pos_iff.2 c1
  have l2 : 0 < (chain s.reverse).length := List.length_pos_iff.2 c2
  have htne : t ≠ [] := by
    intro e
    have h0 : 0 < (hullOf s).length := by omega
    have := (hm _).2 (at0_mem h0)
    rw [e] at this; simp at this
  obtain ⟨g2, d1, d2⟩ := two_of ht htne
  have k1 : 0 < (chain t).length := List.length_pos_iff.2 d1
  have k2 : 0 < (chain t.reverse).length := List.length_pos_iff.2 d2
  have hlen : (hullOf s).length = ((chain s).length - 1) + ((chain s.reverse).length - 1) := by
    unfold hullOf lowr uppr
    simp only [List.length_append, List.length_take, List.length_reverse]; omega
  have hlo : (lowr s).length = (chain s).length := List.length_reverse
  have hup : (uppr s).length = (chain s.reverse).length := List.length_reverse
  have hll : ((lowr s).take ((lowr s).length - 1)).length = (chain s).length - 1 := by rw [List.length_take]; omega
  have hul : ((uppr s).take ((uppr s).length - 1)).length = (chain s.reverse).length - 1 := by rw [List.length_take]; omega
  -- the corners are among the hull's
  have ml : ∀ i, i < (chain s).length - 1 → rg (chain s) i ∈ hullOf s := by
    intro i hi
    have e : at0 (hullOf s) i = rg (chain s) i := by
      unfold hullOf
      rw [at0_app_l (by rw [hll]; exact hi), at0_take (by omega)]; rfl
    rw [← e]; exact at0_mem (by omega)
  have mu : ∀ i, i < (chain s.reverse).length - 1 → rg (chain s.reverse) i ∈ hullOf s := by
    intro i hi
    have e : at0 (hullOf s) ((chain s).length - 1 + i) = rg (chain s.reverse) i := by
      unfold hullOf
      rw [at0_app_r (by rw [hll]; omega), hll, at0_take (by omega), show (chain s).length - 1 + i - ((chain s).length - 1) = i by omega]; rfl
    rw [← e]; exact at0_mem (by omega)
  have hz := h2.z
  have ha := h2.a
  have hmk : 0 < (chain s).length - 1 ∧ 0 < (chain s.reverse).length - 1 := by
    rcases Nat.eq_zero_or_pos ((chain s).length - 1) with e0 | e0
    · rcases Nat.eq_zero_or_pos ((chain s.reverse).length - 1) with e1 | e1
      · omega
      · rw [e0] at hz
        have := h2.upp.mono e1 (Nat.le_refl _)
        rw [show rg (chain s.reverse) 0 = rg (chain s.reverse) ((chain s.reverse).length - 1) by rw [← hz, ha]] at this
        exact (lx_ne this).elim
    · refine ⟨e0, ?_⟩
      rcases Nat.eq_zero_or_pos ((chain s.reverse).length - 1) with e1 | e1
      · rw [e1] at ha
        have := h2.low.mono e0 (Nat.le_refl _)
        rw [hz, ha] at this
        exact (lx_ne this).elim
      · exact e1
  have ml' : ∀ i, i ≤ (chain s).length - 1 → rg (chain s) i ∈ t := by
    intro i hi
    rw [hm]
    rcases Nat.lt_or_ge i ((chain s).length - 1) with h | h
    · exact ml i h
    · have : i = (chain s).length - 1 := by omega
      rw [this, hz]; exact mu 0 hmk.2
  have mu' : ∀ i, i ≤ (chain s.reverse).length - 1 → rg (chain s.reverse) i ∈ t := by
    intro i hi
    rw [hm]
    rcases Nat.lt_or_ge i ((chain s.reverse).length - 1) with h | h
    · exact mu i h
    · have : i = (chain s.reverse).length - 1 := by omega
      rw [this, ← ha]; exact ml 0 hmk.1
  have hst : ∀ y, y ∈ t → y ∈ s := fun y hy => hsub y ((hm y).1 hy)
  have r1 := h2.low.restrict (S' := fun y => y ∈ t) hst ml'
  have r2 := h2.upp.restrict (S' := fun y => neg y ∈ t) (fun y hy => hst _ hy) (fun i hi => by rw [neg_neg]; exact mu' i hi)
  obtain ⟨u1, v1⟩ := r1.unique g2.low
  obtain ⟨u2, v2⟩ := r2.unique g2.upp
  have q1 : chain s = chain t := rg_ext (by omega) fun i hi => v1 i (by omega)
  have q2 : chain s.reverse = chain t.reverse := rg_ext (by omega) fun i hi => by
    have := congrArg neg (v2 i (by omega))
    rwa [neg_neg, neg_neg] at this
  unfold hullOf lowr uppr
  rw [q1, q2]

/-! A polygon without one of its corners. -/
def nxt (n i : Nat) : Nat := if i + 1 = n then 0 else i + 1
def PolyN (f : Nat → P2) (n : Nat) : Prop := ∀ i k, i < n → k < n → k ≠ i → k ≠ nxt n i → 0 < lft (f i) (f (nxt n i)) (f k)
/-- A corner that is q further. -/
def wr (n a q : Nat) : Nat := if a + q < n then a + q else a + q - n
theorem fan {f : Nat → P2} {n : Nat} (h : PolyN f n) (hn : 4 ≤ n) {a : Nat} (ha : a < n) : ∀ q, 3 ≤ q → q < n → 0 < lft (f a) (f (wr n a 2)) (f (wr n a q)) := by
  have hw : ∀ q, q < n → wr n a q < n := fun q hq => by unfold wr; split <;> omega
  have hx : ∀ q, q + 1 < n → nxt n (wr n a q) = wr n a (q + 1) := fun q hq => by unfold nxt wr; split <;> split <;> split <;> omega
  have hd : ∀ q r, q < n → r < n → q ≠ r → wr n a q ≠ wr n a r := fun q r hq hr hne => by unfold wr; split <;> split <;> omega
  have h0 : wr n a 0 = a := by unfold wr; rw [if_pos (by omega)]; rfl
  -- from the first edge
  have f1 : ∀ q, 2 ≤ q → q < n → 0 < lft (f a) (f (wr n a 1)) (f (wr n a q)) := by
    intro q h2 hq
    have e1 := hx 0 (by omega)
    rw [h0] at e1
    have := h a (wr n a q) ha (hw q hq) (fun e => hd q 0 hq (by omega) (by omega) (by rw [h0]; exact e)) (by rw [e1]; exact hd q (0 + 1) hq (by omega) (by omega))
    rw [e1] at this
    exact this
  -- to the edge from q
  have f2 : ∀ q, 1 ≤ q → q + 1 < n → 0 < lft (f a) (f (wr n a q)) (f (wr n a (q + 1))) := by
    intro q h1 hq
    have e1 := hx q hq
    have := h (wr n a q) a (hw q (by omega)) ha (fun e => hd 0 q (by omega) (by omega) (by omega) (by rw [h0]; exact e)) (by rw [e1]; unfold wr; split <;> omega)
    rw [e1] at this
    rw [lft_cyc]
    exact this
  have key : ∀ q, 2 ≤ q → q < n → 0 ≤ lft (f a) (f (wr n a 2)) (f (wr n a q)) ∧ (3 ≤ q → 0 < lft (f a) (f (wr n a 2)) (f (wr n a q))) := by
    intro q
    induction q with
    | zero => intro h; omega
    | succ q ih =>
      intro h2 hq
      rcases Nat.lt_or_ge q 2 with hlt | hge
      · have : q + 1 = 2 := by omega
        rw [this, lft_self]
        exact ⟨Int.le_refl _, fun h => by omega⟩
      · obtain ⟨i1, _⟩ := ih hge (by omega)
        have a1 := f1 q hge (by omega)
        have a2 := f1 2 (Nat.le_refl _) (by omega)
        have a3 := f2 q (by omega) hq
        have a4 := f1 (q + 1) (by omega) hq
        rw [lft_crs] at i1 a1 a2 a3 a4
        rw [lft_crs]
        generalize sub (f (wr n a 1)) (f a) = v1 at *
        generalize sub (f (wr n a 2)) (f a) = v2 at *
        generalize sub (f (wr n a q)) (f a) = vq at *
        generalize sub (f (wr n a (q + 1))) (f a) = vr at *
        have e : crs v1 vq * crs v2 vr = crs v1 v2 * crs vq vr + crs v1 vr * crs v2 vq := by unfold crs; grind
        have p1 := Int.mul_pos a2 a3
        have p2 := Int.mul_nonneg (Int.le_of_lt a4) i1
        have := pos_of a1 (show 0 < crs v1 vq * crs v2 vr by omega)
        exact ⟨by omega, fun _ => this⟩
  exact fun q h3 hq => (key q (by omega) hq).2 h3
/-- The corners but one. -/
def skip (i j : Nat) : Nat := if j < i then j else j + 1
theorem PolyN.skip {f : Nat → P2} {n : Nat} (h : PolyN f n) (hn : 4 ≤ n) {i : Nat} (hi : i < n) : PolyN (fun j => f (Geo.skip i j)) (n - 1) ∧ ∃ j, j < n - 1 ∧ lft (f (Geo.skip i j)) (f (Geo.skip i (nxt (n - 1) j))) (f i) < 0 := by
  obtain ⟨a, ha, hai⟩ : ∃ a, a < n ∧ nxt n a = i := by
    rcases Nat.eq_zero_or_pos i with h0 | h0
    · exact ⟨n - 1, by omega, by unfold nxt; rw [if_pos (by omega)]; exact h0.symm⟩
    · exact ⟨i - 1, by omega, by unfold nxt; rw [if_neg (by omega)]; omega⟩
  have w1 : wr n a 1 = i := by rw [← hai]; unfold wr nxt; split <;> split <;> omega
  have w2 : wr n a 2 = nxt n i := by rw [← hai]; unfold wr nxt; split <;> split <;> split <;> omega
  have hx : nxt n i < n := by unfold nxt; split <;> omega
  have hne : nxt n i ≠ i := by unfold nxt; split <;> omega
  have hna : nxt n i ≠ a := by rw [← hai]; unfold nxt; split <;> split <;> omega
  have hia : i ≠ a := by rw [← hai]; unfold nxt; split <;> omega
  constructor
  · intro j k hj hk h1 h2
    simp only
    have sj : Geo.skip i j < n := by unfold Geo.skip; split <;> omega
    have sk : Geo.skip i k < n := by unfold Geo.skip; split <;> omega
    have skj : Geo.skip i k ≠ Geo.skip i j := by unfold Geo.skip; split <;> split <;> omega
    have ski : Geo.skip i k ≠ i := by unfold Geo.skip; split <;> omega
    by_cases he : Geo.skip i j = a
    · -- the new edge
      have hs : Geo.skip i (nxt (n - 1) j) = nxt n i := by
        rw [← hai] at *
        unfold Geo.skip nxt at *
        repeat' split at he
        all_goals (repeat' split)
        all_goals omega
      have hkn : Geo.skip i k ≠ nxt n i := by
        rw [← hs]
        unfold Geo.skip; split <;> split <;> omega
      rw [he, hs]
      obtain ⟨q, h3, hq, e⟩ : ∃ q, 3 ≤ q ∧ q < n ∧ wr n a q = Geo.skip i k := by
        rw [he] at skj
        generalize Geo.skip i k = x at *
        rcases Nat.lt_or_ge x a with hl | hl
        · refine ⟨n - a + x, ?_, by omega, by unfold wr; split <;> omega⟩
          rw [← hai] at ski
          rw [← hai] at hkn
          unfold nxt at ski hkn
          repeat' split at hkn
          all_goals (repeat' split at ski)
          all_goals omega
        · refine ⟨x - a, ?_, by omega, by unfold wr; split <;> omega⟩
          rw [← hai] at ski
          rw [← hai] at hkn
          unfold nxt at ski hkn
          repeat' split at hkn
          all_goals (repeat' split at ski)
          all_goals omega
      have := fan h hn ha q h3 hq
      rw [w2, e] at this
      exact this
    · have hs : Geo.skip i (nxt (n - 1) j) = nxt n (Geo.skip i j) := by
        rw [← hai] at *
        unfold Geo.skip nxt at *
        repeat' split at he
        all_goals (repeat' split)
        all_goals omega
      rw [hs]
      refine h _ _ sj sk skj ?_
      rw [← hs]
      unfold Geo.skip; split <;> split <;> omega
  · have hj : ∃ j, j < n - 1 ∧ Geo.skip i j = a ∧ Geo.skip i (nxt (n - 1) j) = nxt n i := by
      rcases Nat.eq_zero_or_pos i with h0 | h0
      · refine ⟨n - 2, by omega, ?_, ?_⟩
        · have : a = n - 1 := by unfold nxt at hai; split at hai <;> omega
          unfold Geo.skip; split <;> omega
        · unfold Geo.skip nxt
          repeat' split
          all_goals omega
      · refine ⟨i - 1, by omega, ?_, ?_⟩
        · have : a = i - 1 := by unfold nxt at hai; split at hai <;> omega
          unfold Geo.skip; split <;> omega
        · unfold Geo.skip nxt
          repeat' split
          all_goals omega
    obtain ⟨j, hj, e1, e2⟩ := hj
    refine ⟨j, hj, ?_⟩
    rw [e1, e2, lft_swap]
    have := h a (nxt n i) ha hx hna (by rw [hai]; exact hne)
    rw [hai] at this
    omega
end Go.Geo
/-
  Plain lemmas of chapter 4: first errors, ranges, points, sides of lines. An own text.
-/
set_option maxRecDepth 20000
namespace Go.Proofs.YtbjnjffckhdhgaaGreatDoor
open Go.SX

def firstNZ : List Int → Int
  | [] => 0
  | x :: l => if x = 0 then firstNZ l else x
theorem lenlt {α β : Type} {f : α → β} {l : List α} {i : Nat} {x : α} (h : l[i]? = some x) : (i : Int) < ((l.map f).length : Int) := by
  have := (List.getElem?_eq_some_iff.1 h).1
  simp; omega
theorem el_map {ms : List Int} {i : Nat} {x : Int} (h : ms[i]? = some x) : el un_i (ms.map I) (i : Int) = some x := el_enc (un := un_i) (enc := I) (fun _ => rfl) h

def fG (_ : Unit) (x : Int) : Unit ⊕ (Int ⊕ Unit) := if x = 0 then .inl () else .inr (.inl x)
theorem runL_first : ∀ (l : List Int), runL fG (fun _ => .inr ()) l () = if firstNZ l = 0 then .inr () else .inl (firstNZ l)
  | [] => rfl
  | x :: l => by
    unfold runL fG
    by_cases h : x = 0
    · rw [if_pos h]; simp only [firstNZ, if_pos h]; exact runL_first l
    · rw [if_neg h]; simp only [firstNZ, if_neg h]
theorem first_eq {n : Nat} (ms : List Int) (hm : ms.length < 9223372036854775807) (hn : ms.length < n) : F_field_first n (ms.map I) = some (firstNZ ms) := by
  unfold F_field_first
  have := loopF_list0 (step := F_field_first_L1 n (ms.map I)) fG (fun _ => .inr ()) (fun i _ => (i : Int)) ms (fun _ _ => True)
    (fun i s x hx _ => by
      unfold fG F_field_first_L1
      have hi := (List.getElem?_eq_some_iff.1 hx).1
      by_cases h : x = 0
      · rw [if_pos h]
        refine ⟨?_, trivial⟩
        rw [if_pos (lenlt hx), el_map hx, Option.bind_some, if_pos h, if_pos (by unfold inI64; omega)]; rfl
      · rw [if_neg h]
        dsimp only
        rw [if_pos (lenlt hx), el_map hx, Option.bind_some, if_neg h])
    (fun s _ => by unfold F_field_first_L1; rw [if_neg (by simp)]) (s := ()) trivial hn
  rw [show (0 : Int) = ((0 : Nat) : Int) from rfl, this, runL_first]
  by_cases h : firstNZ ms = 0
  · rw [if_pos h, h]; rfl
  · rw [if_neg h]; rfl
theorem refFirst_eq {n : Nat} (ms : List Int) (hm : ms.length < 9223372036854775807) (hn : ms.length < n) : F_ref01_First n (ms.map I) = some (firstNZ ms) := by
  unfold F_ref01_First
  have := loopF_list0 (step := F_ref01_First_L1 n (ms.map I)) fG (fun _ => .inr ()) (fun i _ => (i : Int)) ms (fun _ _ => True)
    (fun i s x hx _ => by
      unfold fG F_ref01_First_L1
      have hi := (List.getElem?_eq_some_iff.1 hx).1
      by_cases h : x = 0
      · rw [if_pos h]
        refine ⟨?_, trivial⟩
        rw [if_pos (lenlt hx), el_map hx, Option.bind_some, if_pos h, if_pos (by unfold inI64; omega)]; rfl
      · rw [if_neg h]
        dsimp only
        rw [if_pos (lenlt hx), el_map hx, Option.bind_some, if_neg h])
    (fun s _ => by unfold F_ref01_First_L1; rw [if_neg (by simp)]) (s := ()) trivial hn
  rw [show (0 : Int) = ((0 : Nat) : Int) from rfl, this, runL_first]
  by_cases h : firstNZ ms = 0
  · rw [if_pos h, h]; rfl
  · rw [if_neg h]; rfl
theorem first2 {n : Nat} (hn : 10 ≤ n) (a b : Int) : F_field_first n [I a, I b] = some (firstNZ [a, b]) := first_eq [a, b] (by simp) (by simp; omega)
theorem refFirst2 {n : Nat} (hn : 10 ≤ n) (a b : Int) : F_ref01_First n [I a, I b] = some (firstNZ [a, b]) := refFirst_eq [a, b] (by simp) (by simp; omega)

def inR (x lo hi : Int) : Int := if x < lo then 3 else if x > hi then 3 else 0
theorem within_eq (n : Nat) (x lo hi : Int) : F_field_within n x lo hi = some (inR x lo hi) := by
  unfold F_field_within F_field_when F_field_when_2 inR
  by_cases h : x < lo
  · simp [h]
  · by_cases h2 : x > hi
    · simp [h, h2]
    · simp [h, h2]
theorem range_eq (n : Nat) (x lo hi : Int) : F_ref01_CheckRange n x lo hi = some (inR x lo hi) := by
  unfold F_ref01_CheckRange F_ref01_When F_ref01_When_2 inR
  by_cases h : x < lo
  · simp [h]
  · by_cases h2 : x > hi
    · simp [h, h2]
    · simp [h, h2]
theorem inR_zero {x lo hi : Int} (h : inR x lo hi = 0) : lo ≤ x ∧ x ≤ hi := by
  unfold inR at h
  repeat' split at h
  all_goals omega
def whenI (b : Bool) (e : Int) : Int := if b then e else 0
theorem when_eq (n : Nat) (b : Bool) (e : Int) : F_field_when n b e = some (whenI b e) := by
  unfold F_field_when whenI; cases b <;> rfl
theorem refWhen_eq (n : Nat) (b : Bool) (e : Int) : F_ref01_When n b e = some (whenI b e) := by
  unfold F_ref01_When whenI; cases b <;> rfl
theorem firstNZ_zero : ∀ {l : List Int}, firstNZ l = 0 → ∀ x, x ∈ l → x = 0
  | [], _, x, hx => by cases hx
  | y :: l, h, x, hx => by
    unfold firstNZ at h
    split at h
    · rename_i hy
      cases hx with
      | head => exact hy
      | tail _ hx => exact firstNZ_zero h x hx
    · rename_i hy; exact absurd h hy

/-! Points. -/
abbrev Pt := Int × Int
def encP (p : Pt) : D := .agg [I p.1, I p.2]
theorem unP (p : Pt) : un_Ai2Z (encP p) = some p := rfl
def ptE (p : Pt) : Int := firstNZ [inR p.1 (-16777216) 16777216, inR p.2 (-16777216) 16777216]
theorem point_eq {n : Nat} (hn : 10 ≤ n) (p : Pt) : F_field_checkPoint n p.1 p.2 = some (ptE p) := by
  unfold F_field_checkPoint
  simp only [within_eq, Option.bind_some, first2 hn]; rfl
theorem refPoint_eq {n : Nat} (hn : 10 ≤ n) (p : Pt) : F_ref04_CheckPoint n p.1 p.2 = some (ptE p) := by
  unfold F_ref04_CheckPoint
  simp only [range_eq, Option.bind_some, refFirst2 hn]; rfl
def Small (p : Pt) : Prop := (-16777216 ≤ p.1 ∧ p.1 ≤ 16777216) ∧ (-16777216 ≤ p.2 ∧ p.2 ≤ 16777216)
theorem ptE_zero {p : Pt} (h : ptE p = 0) : Small p :=
  ⟨inR_zero (firstNZ_zero h _ (by simp)), inR_zero (firstNZ_zero h _ (by simp))⟩

theorem mul_pq {g c p q : Int} (hp : 0 ≤ p) (hg : -p ≤ g ∧ g ≤ p) (hq : 0 ≤ q) (hc : -q ≤ c ∧ c ≤ q) : -(p * q) ≤ g * c ∧ g * c ≤ p * q := by
  have h := Int.natAbs_mul g c
  have h1 : g.natAbs * c.natAbs ≤ p.natAbs * q.natAbs := Nat.mul_le_mul (by omega) (by omega)
  have h2 := Int.natAbs_mul p q
  have h3 : 0 ≤ p * q := Int.mul_nonneg hp hq
  omega
def side (p q r : Pt) : Int := (q.1 - p.1) * (r.2 - p.2) - (q.2 - p.2) * (r.1 - p.1)
theorem side_b {p q r : Pt} (hp : Small p) (hq : Small q) (hr : Small r) : inI64 (q.1 - p.1) ∧ inI64 (r.2 - p.2) ∧ inI64 ((q.1 - p.1) * (r.2 - p.2)) ∧ inI64 (q.2 - p.2) ∧ inI64 (r.1 - p.1) ∧ inI64 ((q.2 - p.2) * (r.1 - p.1)) ∧ inI64 (side p q r) := by
  unfold Small at hp hq hr
  have h1 := mul_pq (g := q.1 - p.1) (c := r.2 - p.2) (p := 33554432) (q := 33554432) (by omega) (by omega) (by omega) (by omega)
  have h2 := mul_pq (g := q.2 - p.2) (c := r.1 - p.1) (p := 33554432) (q := 33554432) (by omega) (by omega) (by omega) (by omega)
  unfold inI64 side
  generalize (q.1 - p.1) * (r.2 - p.2) = x at *
  generalize (q.2 - p.2) * (r.1 - p.1) = y at *
  refine ⟨?_, ?_, ?_, ?_, ?_, ?_, ?_⟩ <;> omega
theorem left_eq (n : Nat) {p q r : Pt} (hp : Small p) (hq : Small q) (hr : Small r) : F_field_left n p.1 p.2 q.1 q.2 r.1 r.2 = some (side p q r) := by
  obtain ⟨h1, h2, h3, h4, h5, h6, h7⟩ := side_b hp hq hr
  unfold F_field_left
  unfold side at h7 ⊢
  rw [if_pos h1, if_pos h2, if_pos h3, if_pos h4, if_pos h5, if_pos h6, if_pos h7]
theorem refSide_eq (n : Nat) {p q r : Pt} (hp : Small p) (hq : Small q) (hr : Small r) : F_ref04_Side n p.1 p.2 q.1 q.2 r.1 r.2 = some (side p q r) := by
  obtain ⟨h1, h2, h3, h4, h5, h6, h7⟩ := side_b hp hq hr
  unfold F_ref04_Side
  unfold side at h7 ⊢
  rw [if_pos h1, if_pos h2, if_pos h3, if_pos h4, if_pos h5, if_pos h6, if_pos h7]
end Go.Proofs.YtbjnjffckhdhgaaGreatDoor
/-
  Plain laws: CheckPolygon and Holds answer as the reference does. An own text.
-/
set_option maxRecDepth 20000
namespace Go.Proofs.YtbjnjffckhdhgaaGreatDoor
open Go.SX

theorem points_eq (n : Nat) {l : List D} (h : l.length ≤ 100) : F_law04_points n l = some l := by
  unfold F_law04_points
  rw [if_pos (by unfold roomP; omega)]
  cases l with
  | nil => rfl
  | cons a l => rfl

/-! The errors of the points. -/
theorem mapped_eq {n : Nat} (hn : 100 ≤ n) (ps : List Pt) (hl : ps.length ≤ 65) : F_field_mapped_g n (ps.map encP) = some ((ps.map ptE).map I) := by
  unfold F_field_mapped_g
  have key : ∀ (l : List Pt) (s : List D), runL (fun (s : List D) (p : Pt) => (.inl (s ++ [I (ptE p)]) : List D ⊕ List D)) id l s = s ++ (l.map ptE).map I := by
    intro l
    induction l with
    | nil => intro s; simp [runL]
    | cons p l ih => intro s; simp [runL, ih]
  have := loopF_list0 (step := F_field_mapped_g_L1 n (ps.map encP)) (fun (s : List D) (p : Pt) => (.inl (s ++ [I (ptE p)]) : List D ⊕ List D)) id (fun i s => ((i : Int), s)) ps (fun i s => s.length = i)
    (fun i s x hx hi => by
      have hlt := (List.getElem?_eq_some_iff.1 hx).1
      dsimp only
      refine ⟨?_, by simp [hi]⟩
      unfold F_field_mapped_g_L1
      dsimp only
      rw [if_pos (lenlt hx), el_enc unP hx, Option.bind_some, point_eq (by omega), Option.bind_some, if_pos (by unfold roomP; omega), if_pos (by unfold inI64; omega)]
      rfl)
    (fun s _ => by unfold F_field_mapped_g_L1; dsimp only; rw [if_neg (by simp)]; rfl) (s := []) (k := n) (by rfl) (by omega)
  rw [show ((0 : Int), ([] : List D)) = (((0 : Nat) : Int), []) from rfl, this, key]
  rfl

/-! Corners. -/
def nx (m i : Nat) : Nat := (i + 1) % m
theorem nx_lt {m i : Nat} (h : 0 < m) : nx m i < m := Nat.mod_lt _ h
theorem tmod_nx (m i : Nat) : Int.tmod ((i : Int) + 1) (m : Int) = ((nx m i : Nat) : Int) := by
  unfold nx
  rw [show (i : Int) + 1 = ((i + 1 : Nat) : Int) from rfl, Int.ofNat_tmod]
def at0 (ps : List Pt) (i : Nat) : Pt := ps.getD i (0, 0)
theorem at_some {ps : List Pt} {i : Nat} (h : i < ps.length) : ps[i]? = some (at0 ps i) := by
  unfold at0
  rw [List.getD_eq_getElem?_getD, List.getElem?_eq_getElem h]; rfl
theorem el_at {ps : List Pt} {i : Nat} (h : i < ps.length) : el un_Ai2Z (ps.map encP) (i : Int) = some (at0 ps i) := el_enc unP (at_some h)
theorem len_ne {ps : List Pt} {i : Nat} (h : i < ps.length) : ((ps.map encP).length : Int) ≠ 0 := by rw [List.length_map]; omega
theorem edge_eq (n : Nat) {ps : List Pt} {i : Nat} (h : i < ps.length) (hl : ps.length ≤ 65) : F_field_edge n (ps.map encP) (i : Int) = some ((at0 ps i).1, (at0 ps i).2, (at0 ps (nx ps.length i)).1, (at0 ps (nx ps.length i)).2) := by
  unfold F_field_edge
  have hm := nx_lt (m := ps.length) (i := i) (by omega)
  rw [el_at h, Option.bind_some, if_pos (by unfold inI64; omega), if_pos (len_ne h), List.length_map, tmod_nx, el_at hm, Option.bind_some]
theorem next_eq (n : Nat) {ps : List Pt} {i : Nat} (h : i < ps.length) (hl : ps.length ≤ 65) : F_ref04_next n (ps.map encP) (i : Int) = some (at0 ps (nx ps.length i)) := by
  unfold F_ref04_next
  have hm := nx_lt (m := ps.length) (i := i) (by omega)
  rw [if_pos (by unfold inI64; omega), if_pos (len_ne h), List.length_map, tmod_nx, el_at hm, Option.bind_some]
theorem at_small {ps : List Pt} (hs : ∀ p, p ∈ ps → Small p) {i : Nat} (h : i < ps.length) : Small (at0 ps i) := hs _ (List.mem_of_getElem? (at_some h))

/-! Whether corners are those of a polygon. -/
def sideAt (ps : List Pt) (i k : Nat) : Int := side (at0 ps i) (at0 ps (nx ps.length i)) (at0 ps k)
def gRow (ps : List Pt) (i : Nat) (_ : Unit) (k : Nat) : Unit ⊕ (Unit ⊕ Unit) :=
  if k = i then .inl () else if k = nx ps.length i then .inl () else if sideAt ps i k ≤ 0 then .inr (.inl ()) else .inl ()
def rowE (ps : List Pt) (i : Nat) : Unit ⊕ Unit := runL (gRow ps i) (fun _ => .inr ()) (List.range ps.length) ()
def gAll (ps : List Pt) (_ : Unit) (i : Nat) : Unit ⊕ (Unit ⊕ Unit) := match rowE ps i with
  | .inl _ => .inr (.inl ())
  | .inr _ => .inl ()
def allE (ps : List Pt) : Unit ⊕ Unit := runL (gAll ps) (fun _ => .inr ()) (List.range ps.length) ()
theorem range_at {m i k : Nat} (h : (List.range m)[i]? = some k) : k = i ∧ i < m := by
  have := List.getElem?_eq_some_iff.1 h
  obtain ⟨h1, h2⟩ := this
  simp at h1 h2
  exact ⟨h2.symm, h1⟩
theorem row_eq {n : Nat} (hn : 100 ≤ n) {ps : List Pt} (hs : ∀ p, p ∈ ps → Small p) (hl : ps.length ≤ 65) {i : Nat} (h : i < ps.length) :
    loopF (F_field_CheckPolygon_L2 n (ps.map encP) (i : Int) ((at0 ps i).1, (at0 ps i).2, (at0 ps (nx ps.length i)).1, (at0 ps (nx ps.length i)).2)) n 0 = some (rowE ps i) := by
  have hm := nx_lt (m := ps.length) (i := i) (by omega)
  refine loopF_list0 (step := F_field_CheckPolygon_L2 n (ps.map encP) (i : Int) _) (gRow ps i) (fun _ => .inr ()) (fun k _ => (k : Int)) (List.range ps.length) (fun _ _ => True)
    (fun k s x hx _ => ?_) (fun s _ => ?_) (s := ()) trivial (by simp; omega)
  · obtain ⟨rfl, hk⟩ := range_at hx
    have hlt : ((x : Nat) : Int) < (((ps.map encP).length : Nat) : Int) := by simp; omega
    unfold gRow F_field_CheckPolygon_L2
    by_cases h1 : x = i
    · rw [if_pos h1]
      refine ⟨?_, trivial⟩
      rw [if_pos hlt, el_at hk, Option.bind_some, if_pos (by omega), if_pos (by unfold inI64; omega)]; rfl
    rw [if_neg h1]
    by_cases h2 : x = nx ps.length i
    · rw [if_pos h2]
      refine ⟨?_, trivial⟩
      rw [if_pos hlt, el_at hk, Option.bind_some, if_neg (by omega), if_pos (by unfold inI64; omega), if_pos (len_ne h), List.length_map, tmod_nx, if_pos (by omega), if_pos (by unfold inI64; omega)]; rfl
    rw [if_neg h2]
    have hq := left_eq n (at_small hs h) (at_small hs hm) (at_small hs hk)
    by_cases h3 : sideAt ps i x ≤ 0
    · rw [if_pos h3]
      dsimp only
      rw [if_pos hlt, el_at hk, Option.bind_some, if_neg (by omega), if_pos (by unfold inI64; omega), if_pos (len_ne h), List.length_map, tmod_nx, if_neg (by omega), hq, Option.bind_some]
      exact if_pos h3
    · rw [if_neg h3]
      refine ⟨?_, trivial⟩
      dsimp only
      rw [if_pos hlt, el_at hk, Option.bind_some, if_neg (by omega), if_pos (by unfold inI64; omega), if_pos (len_ne h), List.length_map, tmod_nx, if_neg (by omega), hq, Option.bind_some]
      rw [if_neg (show ¬ side _ _ _ ≤ 0 from h3), if_pos (by unfold inI64; omega)]; rfl
  · unfold F_field_CheckPolygon_L2
    rw [if_neg (by simp)]
theorem refRow_eq {n : Nat} (hn : 100 ≤ n) {ps : List Pt} (hs : ∀ p, p ∈ ps → Small p) (hl : ps.length ≤ 65) {i : Nat} (h : i < ps.length) :
    loopF (F_ref04_convex_L2 n (ps.map encP) (i : Int)) n 0 = some (rowE ps i) := by
  have hm := nx_lt (m := ps.length) (i := i) (by omega)
  refine loopF_list0 (step := F_ref04_convex_L2 n (ps.map encP) (i : Int)) (gRow ps i) (fun _ => .inr ()) (fun k _ => (k : Int)) (List.range ps.length) (fun _ _ => True)
    (fun k s x hx _ => ?_) (fun s _ => ?_) (s := ()) trivial (by simp; omega)
  · obtain ⟨rfl, hk⟩ := range_at hx
    have hlt : ((x : Nat) : Int) < (((ps.map encP).length : Nat) : Int) := by simp; omega
    unfold gRow F_ref04_convex_L2
    by_cases h1 : x = i
    · rw [if_pos h1]
      refine ⟨?_, trivial⟩
      rw [if_pos hlt, if_pos (by omega), if_pos (by unfold inI64; omega)]; rfl
    rw [if_neg h1]
    by_cases h2 : x = nx ps.length i
    · rw [if_pos h2]
      refine ⟨?_, trivial⟩
      rw [if_pos hlt, if_neg (by omega), if_pos (by unfold inI64; omega), if_pos (len_ne h), List.length_map, tmod_nx, if_pos (by omega), if_pos (by unfold inI64; omega)]; rfl
    rw [if_neg h2]
    have hq := refSide_eq n (at_small hs h) (at_small hs hm) (at_small hs hk)
    by_cases h3 : sideAt ps i x ≤ 0
    · rw [if_pos h3]
      rw [if_pos hlt, if_neg (by omega), if_pos (by unfold inI64; omega), if_pos (len_ne h), List.length_map, tmod_nx, if_neg (by omega), el_at h, Option.bind_some, next_eq n h hl, Option.bind_some, el_at hk, Option.bind_some, hq, Option.bind_some]
      exact if_pos h3
    · rw [if_neg h3]
      refine ⟨?_, trivial⟩
      rw [if_pos hlt, if_neg (by omega), if_pos (by unfold inI64; omega), if_pos (len_ne h), List.length_map, tmod_nx, if_neg (by omega), el_at h, Option.bind_some, next_eq n h hl, Option.bind_some, el_at hk, Option.bind_some, hq, Option.bind_some]
      rw [if_neg (show ¬ side _ _ _ ≤ 0 from h3), if_pos (by unfold inI64; omega)]; rfl
  · unfold F_ref04_convex_L2
    rw [if_neg (by simp)]
theorem all_eq {n : Nat} (hn : 100 ≤ n) {ps : List Pt} (hs : ∀ p, p ∈ ps → Small p) (hl : ps.length ≤ 65) : loopF (F_field_CheckPolygon_L3 n (ps.map encP)) n 0 = some (allE ps) := by
  refine loopF_list0 (step := F_field_CheckPolygon_L3 n (ps.map encP)) (gAll ps) (fun _ => .inr ()) (fun k _ => (k : Int)) (List.range ps.length) (fun _ _ => True)
    (fun k s x hx _ => ?_) (fun s _ => ?_) (s := ()) trivial (by simp; omega)
  · obtain ⟨rfl, hk⟩ := range_at hx
    have hlt : ((x : Nat) : Int) < (((ps.map encP).length : Nat) : Int) := by simp; omega
    have hr := row_eq hn hs hl hk
    unfold gAll F_field_CheckPolygon_L3
    cases hq : rowE ps x with
    | inl u =>
      rw [hq] at hr
      dsimp only
      rw [if_pos hlt, edge_eq n hk hl, Option.bind_some, hr, Option.bind_some]
    | inr u =>
      rw [hq] at hr
      refine ⟨?_, trivial⟩
      rw [if_pos hlt, edge_eq n hk hl, Option.bind_some, hr, Option.bind_some]
      dsimp only
      rw [if_pos (by unfold inI64; omega)]; rfl
  · unfold F_field_CheckPolygon_L3
    rw [if_neg (by simp)]
theorem refAll_eq {n : Nat} (hn : 100 ≤ n) {ps : List Pt} (hs : ∀ p, p ∈ ps → Small p) (hl : ps.length ≤ 65) : loopF (F_ref04_convex_L3 n (ps.map encP)) n 0 = some (allE ps) := by
  refine loopF_list0 (step := F_ref04_convex_L3 n (ps.map encP)) (gAll ps) (fun _ => .inr ()) (fun k _ => (k : Int)) (List.range ps.length) (fun _ _ => True)
    (fun k s x hx _ => ?_) (fun s _ => ?_) (s := ()) trivial (by simp; omega)
  · obtain ⟨rfl, hk⟩ := range_at hx
    have hlt : ((x : Nat) : Int) < (((ps.map encP).length : Nat) : Int) := by simp; omega
    have hr := refRow_eq hn hs hl hk
    unfold gAll F_ref04_convex_L3
    cases hq : rowE ps x with
    | inl u =>
      rw [hq] at hr
      dsimp only
      rw [if_pos hlt, hr, Option.bind_some]
    | inr u =>
      rw [hq] at hr
      refine ⟨?_, trivial⟩
      rw [if_pos hlt, hr, Option.bind_some]
      dsimp only
      rw [if_pos (by unfold inI64; omega)]; rfl
  · unfold F_ref04_convex_L3
    rw [if_neg (by simp)]

/-- The error of a polygon. -/
def polyE (ps : List Pt) : Int :=
  if firstNZ [whenI (decide ((ps.length : Int) < 3)) 16, whenI (decide ((ps.length : Int) > 16)) 5] = 0 then
    if firstNZ (ps.map ptE) = 0 then match allE ps with
      | .inl _ => 2
      | .inr _ => 0
    else firstNZ (ps.map ptE)
  else firstNZ [whenI (decide ((ps.length : Int) < 3)) 16, whenI (decide ((ps.length : Int) > 16)) 5]
theorem small_of {ps : List Pt} (h : firstNZ (ps.map ptE) = 0) : ∀ p, p ∈ ps → Small p := fun p hp => ptE_zero (firstNZ_zero h _ (List.mem_map.2 ⟨p, hp, rfl⟩))
theorem check_eq {n : Nat} (hn : 100 ≤ n) (ps : List Pt) (hl : ps.length ≤ 65) : F_field_CheckPolygon n (ps.map encP) = some (polyE ps) := by
  unfold F_field_CheckPolygon polyE
  rw [List.length_map, when_eq, Option.bind_some, when_eq, Option.bind_some, first2 (by omega), Option.bind_some]
  by_cases h1 : firstNZ [whenI (decide ((ps.length : Int) < 3)) 16, whenI (decide ((ps.length : Int) > 16)) 5] = 0
  · rw [if_pos h1, if_pos h1, mapped_eq hn ps hl, Option.bind_some, first_eq _ (by simp; omega) (by simp; omega), Option.bind_some]
    by_cases h2 : firstNZ (ps.map ptE) = 0
    · rw [if_pos h2, if_pos h2, all_eq hn (small_of h2) hl, Option.bind_some]
      cases allE ps <;> rfl
    · rw [if_neg h2, if_neg h2]
  · rw [if_neg h1, if_neg h1]
theorem refCheck_eq {n : Nat} (hn : 100 ≤ n) (ps : List Pt) (hl : ps.length ≤ 65) : F_ref04_CheckPolygon n (ps.map encP) = some (polyE ps) := by
  unfold F_ref04_CheckPolygon polyE
  rw [List.length_map, refWhen_eq, Option.bind_some, refWhen_eq, Option.bind_some, refFirst2 (by omega), Option.bind_some]
  by_cases h1 : firstNZ [whenI (decide ((ps.length : Int) < 3)) 16, whenI (decide ((ps.length : Int) > 16)) 5] = 0
  · rw [if_pos h1, if_pos h1]
    have key : ∀ (l : List Pt), runL (fun (_ : Unit) (p : Pt) => (if ptE p = 0 then .inl () else .inr (.inl (ptE p)) : Unit ⊕ (Int ⊕ Unit))) (fun _ => .inr ()) l () = if firstNZ (l.map ptE) = 0 then .inr () else .inl (firstNZ (l.map ptE)) := by
      intro l
      induction l with
      | nil => rfl
      | cons p l ih =>
        unfold runL
        by_cases h : ptE p = 0
        · rw [if_pos h]; simp only [List.map_cons, firstNZ, if_pos h]; exact ih
        · rw [if_neg h]; simp only [List.map_cons, firstNZ, if_neg h]
    have := loopF_list0 (step := F_ref04_CheckPolygon_L1 n (ps.map encP)) (fun (_ : Unit) (p : Pt) => (if ptE p = 0 then .inl () else .inr (.inl (ptE p)) : Unit ⊕ (Int ⊕ Unit))) (fun _ => .inr ()) (fun i _ => (i : Int)) ps (fun _ _ => True)
      (fun i s x hx _ => by
        have hi := (List.getElem?_eq_some_iff.1 hx).1
        unfold F_ref04_CheckPolygon_L1
        by_cases h : ptE x = 0
        · rw [if_pos h]
          refine ⟨?_, trivial⟩
          rw [if_pos (lenlt hx), el_enc unP hx, Option.bind_some, refPoint_eq (by omega), Option.bind_some, if_pos h, if_pos (by unfold inI64; omega)]; rfl
        · rw [if_neg h]
          dsimp only
          rw [if_pos (lenlt hx), el_enc unP hx, Option.bind_some, refPoint_eq (by omega), Option.bind_some, if_neg h])
      (fun s _ => by unfold F_ref04_CheckPolygon_L1; rw [if_neg (by simp)]) (s := ()) (k := n) trivial (by omega)
    rw [show (0 : Int) = ((0 : Nat) : Int) from rfl, this, key]
    by_cases h2 : firstNZ (ps.map ptE) = 0
    · rw [if_pos h2, if_pos (show firstNZ (ps.map ptE) = ((0 : Nat) : Int) from h2)]
      dsimp only [Option.bind_some]
      unfold F_ref04_convex
      rw [refAll_eq hn (small_of h2) hl, Option.bind_some]
      cases allE ps <;> rfl
    · rw [if_neg h2, if_neg (show ¬ firstNZ (ps.map ptE) = ((0 : Nat) : Int) from h2)]; rfl
  · rw [if_neg h1, if_neg h1]
theorem polyE_zero {ps : List Pt} (h : polyE ps = 0) : 3 ≤ ps.length ∧ ps.length ≤ 16 ∧ ∀ p, p ∈ ps → Small p := by
  unfold polyE at h
  by_cases h1 : firstNZ [whenI (decide ((ps.length : Int) < 3)) 16, whenI (decide ((ps.length : Int) > 16)) 5] = 0
  · rw [if_pos h1] at h
    have a1 := firstNZ_zero h1 (whenI (decide ((ps.length : Int) < 3)) 16) (by simp)
    have a2 := firstNZ_zero h1 (whenI (decide ((ps.length : Int) > 16)) 5) (by simp)
    by_cases h2 : firstNZ (ps.map ptE) = 0
    · refine ⟨?_, ?_, small_of h2⟩
      · unfold whenI at a1; split at a1
        · omega
        · rename_i hc; simp at hc; omega
      · unfold whenI at a2; split at a2
        · omega
        · rename_i hc; simp at hc; omega
    · rw [if_neg h2] at h; exact absurd h h2
  · rw [if_neg h1] at h; exact absurd h h1

/-! The area. -/
def cr (ps : List Pt) (i : Nat) : Int := (at0 ps i).1 * (at0 ps (nx ps.length i)).2 - (at0 ps i).2 * (at0 ps (nx ps.length i)).1
def areaE (ps : List Pt) : Int := runL (fun (s : Int) (i : Nat) => (.inl (s + cr ps i) : Int ⊕ Int)) id (List.range ps.length) 0
theorem cr_b {p q : Pt} (hp : Small p) (hq : Small q) : (-281474976710656 ≤ p.1 * q.2 ∧ p.1 * q.2 ≤ 281474976710656) ∧ (-281474976710656 ≤ p.2 * q.1 ∧ p.2 * q.1 ≤ 281474976710656) := by
  unfold Small at hp hq
  have h1 := mul_pq (g := p.1) (c := q.2) (p := 16777216) (q := 16777216) (by omega) (by omega) (by omega) (by omega)
  have h2 := mul_pq (g := p.2) (c := q.1) (p := 16777216) (q := 16777216) (by omega) (by omega) (by omega) (by omega)
  omega
/-! Where a point lies. -/
def sgn (x : Int) : Int := if x < 0 then -1 else if x > 0 then 1 else 0
theorem compare_eq (n : Nat) (x : Int) : F_cmp_Compare_g n x 0 = some (sgn x) := by
  unfold F_cmp_Compare_g F_cmp_isNaN_g sgn
  simp only [bne_self_eq_false, Option.bind_some, Bool.false_eq_true, if_false]
  repeat' split
  all_goals first | rfl | omega
def sx (ps : List Pt) (x : Pt) (i : Nat) : Int := side (at0 ps i) (at0 ps (nx ps.length i)) x
def gH (ps : List Pt) (x : Pt) (s : Int) (i : Nat) : Int ⊕ Int := .inl (minI s (sgn (sx ps x i)))
def gR (ps : List Pt) (x : Pt) (s : Int) (i : Nat) : Int ⊕ (Unit ⊕ Int) := if sx ps x i < 0 then .inr (.inl ()) else if sx ps x i = 0 then .inl 0 else .inl s
def holdsE (ps : List Pt) (x : Pt) : Int := runL (gH ps x) id (List.range ps.length) 1
def outR (r : Unit ⊕ Int) : Int := match r with
  | .inl _ => -1
  | .inr v => v
theorem sgn_neg {x : Int} (h : x < 0) : sgn x = -1 := by unfold sgn; rw [if_pos h]
theorem sgn_zero {x : Int} (h : x = 0) : sgn x = 0 := by subst h; rfl
theorem sgn_pos {x : Int} (h1 : ¬ x < 0) (h2 : ¬ x = 0) : sgn x = 1 := by unfold sgn; rw [if_neg h1, if_pos (by omega)]
theorem run_low (ps : List Pt) (x : Pt) : ∀ (l : List Nat), runL (gH ps x) id l (-1) = -1
  | [] => rfl
  | i :: l => by
    unfold runL gH
    have : minI (-1) (sgn (sx ps x i)) = -1 := by
      unfold minI sgn
      repeat' split
      all_goals first | rfl | omega
    dsimp only
    rw [this]; exact run_low ps x l
theorem run_same (ps : List Pt) (x : Pt) : ∀ (l : List Nat) (s : Int), s = 0 ∨ s = 1 → outR (runL (gR ps x) (fun v => .inr v) l s) = runL (gH ps x) id l s
  | [], s, _ => rfl
  | i :: l, s, hs => by
    unfold runL gR
    by_cases h1 : sx ps x i < 0
    · rw [if_pos h1]
      have : minI s (sgn (sx ps x i)) = -1 := by
        rw [sgn_neg h1]
        unfold minI
        split <;> omega
      show (-1 : Int) = runL (gH ps x) id l (minI s (sgn (sx ps x i)))
      rw [this, run_low]
    · rw [if_neg h1]
      by_cases h2 : sx ps x i = 0
      · rw [if_pos h2]
        have : minI s (sgn (sx ps x i)) = 0 := by
          rw [sgn_zero h2]
          unfold minI
          split <;> omega
        show outR (runL (gR ps x) (fun v => .inr v) l 0) = runL (gH ps x) id l (minI s (sgn (sx ps x i)))
        rw [this]; exact run_same ps x l 0 (.inl rfl)
      · rw [if_neg h2]
        have : minI s (sgn (sx ps x i)) = s := by
          rw [sgn_pos h1 h2]
          unfold minI
          split <;> omega
        show outR (runL (gR ps x) (fun v => .inr v) l s) = runL (gH ps x) id l (minI s (sgn (sx ps x i)))
        rw [this]; exact run_same ps x l s hs
theorem holds_loop {n : Nat} (hn : 100 ≤ n) {ps : List Pt} (hs : ∀ p, p ∈ ps → Small p) (hl : ps.length ≤ 16) {x : Pt} (hx0 : Small x) : loopF (F_field_Holds_L1 n (ps.map encP) x.1 x.2) n (1, 0) = some (holdsE ps x) := by
  refine loopF_list0 (step := F_field_Holds_L1 n (ps.map encP) x.1 x.2) (gH ps x) id (fun k s => (s, (k : Int))) (List.range ps.length) (fun _ _ => True)
    (fun k s i hx _ => ?_) (fun s _ => ?_) (s := 1) trivial (by simp; omega)
  · obtain ⟨rfl, hk⟩ := range_at hx
    have hlt : ((i : Nat) : Int) < (((ps.map encP).length : Nat) : Int) := by simp; omega
    have hm := nx_lt (m := ps.length) (i := i) (by omega)
    unfold gH F_field_Holds_L1
    refine ⟨?_, trivial⟩
    dsimp only
    rw [if_pos hlt, edge_eq n hk (by omega), Option.bind_some]
    dsimp only
    rw [left_eq n (at_small hs hk) (at_small hs hm) hx0, Option.bind_some, compare_eq, Option.bind_some, if_pos (by unfold inI64; omega)]; rfl
  · unfold F_field_Holds_L1
    dsimp only
    rw [if_neg (by simp)]; rfl
theorem holds_eq {n : Nat} (hn : 100 ≤ n) (ps : List Pt) (hl : ps.length ≤ 65) (x : Pt) : F_field_Holds n (ps.map encP) x.1 x.2 = some (if firstNZ [polyE ps, ptE x] = 0 then (holdsE ps x, 0) else (0, firstNZ [polyE ps, ptE x])) := by
  unfold F_field_Holds
  rw [check_eq hn ps hl, Option.bind_some, point_eq (by omega), Option.bind_some, first2 (by omega), Option.bind_some]
  by_cases h : firstNZ [polyE ps, ptE x] = 0
  · obtain ⟨_, h2, h3⟩ := polyE_zero (firstNZ_zero h (polyE ps) (by simp))
    rw [if_pos h, if_pos h, holds_loop hn h3 h2 (ptE_zero (firstNZ_zero h (ptE x) (by simp)))]; rfl
  · rw [if_neg h, if_neg h]

/-! The law. -/
end Go.Proofs.YtbjnjffckhdhgaaGreatDoor
/-
  The program's hull of at most 12 points: sorted, equal ones left out, both halves, one behind the other. An own text.
-/
set_option maxRecDepth 20000
namespace Go.Proofs.YtbjnjffckhdhgaaGreatDoor
open Go.SX
open Go.Geo (lft lx pop chain chainF insR insG srt dd cmpt lowr uppr hullOf insR_app insR_len srt_ok cmpt_ok)

/-! The order. -/
def cmpI (a b : Int) : Int := if a < b then -1 else if a > b then 1 else 0
theorem compare2_eq (n : Nat) (a b : Int) : F_cmp_Compare_g n a b = some (cmpI a b) := by
  unfold F_cmp_Compare_g F_cmp_isNaN_g cmpI
  rw [Option.bind_some, Option.bind_some, if_neg (by simp), if_neg (by simp)]
  split
  · rfl
  · split <;> rfl
theorem or_eq {n : Nat} (ms : List Int) (hm : ms.length < 9223372036854775807) (hn : ms.length < n) : F_cmp_Or_g n (ms.map I) = some (firstNZ ms) := by
  unfold F_cmp_Or_g
  have := loopF_list0 (step := F_cmp_Or_g_L1 n (ms.map I)) fG (fun _ => .inr ()) (fun i _ => (i : Int)) ms (fun _ _ => True)
    (fun i s x hx _ => by
      unfold fG F_cmp_Or_g_L1
      have hi := (List.getElem?_eq_some_iff.1 hx).1
      by_cases h : x = 0
      · rw [if_pos h]
        refine ⟨?_, trivial⟩
        rw [if_pos (lenlt hx), el_map hx, Option.bind_some, if_pos h, if_pos (by unfold inI64; omega)]; rfl
      · rw [if_neg h]
        dsimp only
        rw [if_pos (lenlt hx), el_map hx, Option.bind_some, if_neg h])
    (fun s _ => by unfold F_cmp_Or_g_L1; rw [if_neg (by simp)]) (s := ()) trivial hn
  rw [show (0 : Int) = ((0 : Nat) : Int) from rfl, this, runL_first]
  by_cases h : firstNZ ms = 0
  · rw [if_pos h, h]; rfl
  · rw [if_neg h]; rfl
def cmpP (x p : Pt) : Int := firstNZ [cmpI x.1 p.1, cmpI x.2 p.2]
theorem cmpP_lt (x p : Pt) : cmpP x p < 0 ↔ lx x p := by
  unfold cmpP cmpI lx
  simp only [firstNZ]
  constructor
  · intro h
    repeat' split at h
    all_goals omega
  · intro h
    repeat' split
    all_goals omega
theorem cmpP_eq {n : Nat} (hn : 10 ≤ n) (x p : Pt) : F_field_compare n x.1 x.2 p.1 p.2 = some (cmpP x p) := by
  unfold F_field_compare
  rw [compare2_eq, Option.bind_some, compare2_eq, Option.bind_some]
  have := or_eq (n := n) [cmpI x.1 p.1, cmpI x.2 p.2] (by simp) (by simp; omega)
  simp only [List.map_cons, List.map_nil] at this
  rw [this]; rfl

/-! The sort. -/
theorem nth_map {l : List Pt} {i : Nat} {x : Pt} (h : l[i]? = some x) : nth (l.map encP) i = some (encP x) := by
  rw [nth_get?, List.getElem?_map, h]; rfl
theorem set_mid {α : Type} (a : List α) (x y : α) (r : List α) : List.set (a ++ x :: r) a.length y = a ++ y :: r := by
  rw [List.set_append_right _ _ (Nat.le_refl _)]; simp
theorem set_two (a : List Pt) (p x : Pt) (r : List Pt) :
    List.set (List.set ((a ++ p :: x :: r).map encP) (a.length + 1) (encP p)) a.length (encP x) = (a ++ x :: p :: r).map encP := by
  have h1 : List.set ((a ++ p :: x :: r).map encP) (a.length + 1) (encP p) = (a ++ p :: p :: r).map encP := by
    rw [← List.map_set]
    congr 1
    simp
  rw [h1, ← List.map_set, set_mid]
theorem inner_eq {n : Nat} (hn : 100 ≤ n) (a0 : List D) (sb : Int × List D) (a : List Pt) (p x : Pt) (r : List Pt) (hl : (a ++ p :: x :: r).length ≤ 64) :
    F_field_Hull_L2 n a0 sb (((a.length + 1 : Nat) : Int), (a ++ p :: x :: r).map encP) =
      if lx x p then some (.inl ((a.length : Int), (a ++ x :: p :: r).map encP)) else some (.inr ((a ++ p :: x :: r).map encP)) := by
  have n1 : nth ((a ++ p :: x :: r).map encP) (a.length + 1) = some (encP x) := nth_map (by rw [List.getElem?_append_right (by omega)]; simp)
  have n2 : nth ((a ++ p :: x :: r).map encP) a.length = some (encP p) := nth_map (by rw [List.getElem?_append_right (by omega)]; simp)
  have e2 : (((a.length + 1 : Nat) : Int) - 1) = (a.length : Int) := by omega
  have hlen : ((a ++ p :: x :: r).map encP).length = a.length + 2 + r.length := by simp; omega
  have hl2 : a.length + 2 + r.length ≤ 64 := by simp at hl; omega
  have hset := set_two a p x r
  generalize (a ++ p :: x :: r).map encP = M at *
  unfold F_field_Hull_L2
  dsimp only
  rw [if_pos (by omega), if_pos (by omega), Int.toNat_natCast, n1, Option.bind_some, unP, Option.bind_some, if_pos (by unfold inI64; omega), e2, if_pos (by omega), Int.toNat_natCast, n2, Option.bind_some, unP, Option.bind_some, cmpP_eq (by omega), Option.bind_some]
  by_cases h : lx x p
  · rw [if_pos ((cmpP_lt x p).2 h), if_pos h, if_pos (by omega), if_pos (by rw [List.length_set]; omega), if_pos (by rw [List.length_set]; omega)]
    exact congrArg (fun z => some (Sum.inl ((a.length : Int), z))) hset
  · rw [if_neg (fun q => h ((cmpP_lt x p).1 q)), if_neg h]
theorem inner_run {n : Nat} (hn : 100 ≤ n) (a0 : List D) (sb : Int × List D) :
    ∀ (ps : List Pt) (x : Pt) (r : List Pt) (k : Nat), (ps.length + 1 + r.length ≤ 64) → ps.length < k → loopF (F_field_Hull_L2 n a0 sb) k ((ps.length : Int), (ps.reverse ++ x :: r).map encP) = some ((insR ps x r).map encP)
  | [], x, r, k, hl, hk => by
    obtain ⟨k, rfl⟩ : ∃ j, k = j + 1 := ⟨k - 1, by omega⟩
    refine loopF_r ?_
    unfold F_field_Hull_L2
    dsimp only
    rw [if_neg (by simp)]; rfl
  | p :: ps, x, r, k, hl, hk => by
    obtain ⟨k, rfl⟩ : ∃ j, k = j + 1 := ⟨k - 1, by omega⟩
    have h1 := inner_eq hn a0 sb ps.reverse p x r (by simp at hl ⊢; omega)
    have h2 : (p :: ps).reverse ++ x :: r = ps.reverse ++ p :: x :: r := by simp
    rw [h2]
    rw [List.length_reverse] at h1
    show loopF (F_field_Hull_L2 n a0 sb) (k + 1) (((ps.length + 1 : Nat) : Int), (ps.reverse ++ p :: x :: r).map encP) = _
    unfold insR
    by_cases hlt : lx x p
    · rw [if_pos hlt] at h1
      rw [loopF_l (s' := ((ps.length : Int), (ps.reverse ++ x :: p :: r).map encP)) h1, if_pos hlt]
      exact inner_run hn a0 sb ps x (p :: r) k (by simp at hl ⊢; omega) (by simp at hk; omega)
    · rw [if_neg hlt] at h1
      rw [loopF_r h1, if_neg hlt, h2]
theorem outer_eq {n : Nat} (hn : 100 ≤ n) {A : List D} (hA : A.length ≤ 12) (s : List Pt) (x : Pt) (t : List Pt) (hL : (s ++ x :: t).length = A.length) :
    F_field_Hull_L3 n A ((s.length : Int), (s ++ x :: t).map encP) = some (.inl (((s.length + 1 : Nat) : Int), (insR s.reverse x t).map encP)) := by
  have hlen : s.length + 1 + t.length = A.length := by simp at hL; omega
  have hrun := inner_run hn A ((s.length : Int), (s ++ x :: t).map encP) s.reverse x t n (by simp; omega) (by simp; omega)
  rw [List.reverse_reverse, List.length_reverse] at hrun
  unfold F_field_Hull_L3
  dsimp only
  rw [if_pos (by omega), hrun, Option.bind_some, if_pos (by unfold inI64; omega)]; rfl
theorem outer_run {n : Nat} (hn : 100 ≤ n) {A : List D} (hA : A.length ≤ 12) :
    ∀ (t s : List Pt) (k : Nat), (s ++ t).length = A.length → t.length < k → loopF (F_field_Hull_L3 n A) k ((s.length : Int), (s ++ t).map encP) = some ((t.foldl insG s).map encP)
  | [], s, k, hl, hk => by
    obtain ⟨k, rfl⟩ : ∃ j, k = j + 1 := ⟨k - 1, by omega⟩
    rw [List.append_nil] at hl ⊢
    refine loopF_r ?_
    unfold F_field_Hull_L3
    dsimp only
    rw [if_neg (by omega)]; rfl
  | x :: t, s, k, hl, hk => by
    obtain ⟨k, rfl⟩ : ∃ j, k = j + 1 := ⟨k - 1, by omega⟩
    rw [loopF_l (outer_eq hn hA s x t hl)]
    have h1 : insR s.reverse x t = insG s x ++ t := by
      unfold insG; rw [← insR_app]; simp
    have h2 : (insG s x).length = s.length + 1 := by unfold insG; rw [insR_len]; simp
    rw [h1, ← h2]
    exact outer_run hn hA t (insG s x) k (by simp at hl ⊢; omega) (by simp at hk; omega)
theorem sort_eq {n : Nat} (hn : 100 ≤ n) (ps : List Pt) (hl : ps.length ≤ 12) (h0 : ps ≠ []) (t : Int) : loopF (F_field_Hull_L4 n (ps.map encP) t) n () = some ((srt ps).map encP) := by
  obtain ⟨n', rfl⟩ : ∃ n', n = n' + 1 := ⟨n - 1, by omega⟩
  refine loopF_r ?_
  have hs : loopF (F_field_Hull_L3 (n' + 1) (ps.map encP)) (n' + 1) (1, ps.map encP) = some ((srt ps).map encP) := by
    cases ps with
    | nil => exact absurd rfl h0
    | cons x t =>
      exact outer_run hn (A := (x :: t).map encP) (by simpa using hl) t [x] (n' + 1) (by simp) (by simp at hl; omega)
  unfold F_field_Hull_L4
  rw [if_pos (by unfold inI64; simp; omega), if_pos (by simp; omega), hs]; rfl

/-! Equal neighbours. -/
theorem eqP (a b : Pt) : ((a.1 == b.1) && ((a.2 == b.2) && true)) = true ↔ a = b := by
  obtain ⟨a1, a2⟩ := a
  obtain ⟨b1, b2⟩ := b
  simp
theorem thin_run {n : Nat} (T : List D) (m : Nat) (hm : T.length ≤ 64) :
    ∀ (r : List Pt) (q : Pt) (C J : List Pt) (k : Nat), (C ++ J ++ q :: r).length = T.length → m ≤ C.length + J.length → r.length < k →
      ∃ J', J' ≠ [] ∧ (C ++ dd q r ++ J').length = T.length ∧ loopF (F_field_Hull_L13 n T (m : Int)) k ((C.length : Int), ((C.length + J.length + 1 - m : Nat) : Int), (C ++ J ++ q :: r).map encP) = some (((C ++ dd q r).length : Int), (C ++ dd q r ++ J').map encP)
  | [], q, C, J, k, hl, hmC, hk => by
    obtain ⟨k, rfl⟩ : ∃ j, k = j + 1 := ⟨k - 1, by omega⟩
    refine ⟨J ++ [q], by simp, by simp only [dd, List.append_nil]; simp at hl ⊢; omega, loopF_r ?_⟩
    have hl' : C.length + J.length + 1 = T.length := by simp at hl; omega
    unfold F_field_Hull_L13
    dsimp only
    rw [if_neg (by rw [List.length_replicate]; simp only [Int.toNat_natCast]; omega)]
    simp [dd]
  | y :: r, q, C, J, k, hl, hmC, hk => by
    obtain ⟨k, rfl⟩ : ∃ j, k = j + 1 := ⟨k - 1, by omega⟩
    have hl' : C.length + J.length + 2 + r.length = T.length := by simp at hl; omega
    have hM : ((C ++ J ++ q :: y :: r).map encP).length = T.length := by rw [List.length_map]; exact hl
    have n1 : nth ((C ++ J ++ q :: y :: r).map encP) (m + (C.length + J.length + 1 - m)) = some (encP y) := nth_map (by
      rw [show m + (C.length + J.length + 1 - m) = (C ++ J).length + 1 by simp; omega, List.getElem?_append_right (by omega)]; simp)
    have n2 : nth ((C ++ J ++ q :: y :: r).map encP) (m + (C.length + J.length + 1 - m - 1)) = some (encP q) := nth_map (by
      rw [show m + (C.length + J.length + 1 - m - 1) = (C ++ J).length by simp; omega, List.getElem?_append_right (by omega)]; simp)
    have e2 : (((C.length + J.length + 1 - m : Nat) : Int) - 1) = ((C.length + J.length + 1 - m - 1 : Nat) : Int) := by omega
    have e3 : (((C.length + J.length + 1 - m : Nat) : Int) + 1) = ((C.length + J.length + 2 - m : Nat) : Int) := by omega
    by_cases he : y = q
    · have ih := thin_run (n := n) T m hm r q C (J ++ [q]) k (by simp at hl ⊢; omega) (by simp; omega) (by simp at hk; omega)
      obtain ⟨J', j1, j2, j3⟩ := ih
      have ed : dd q (y :: r) = dd q r := by simp [dd, he]
      rw [ed]
      refine ⟨J', j1, j2, ?_⟩
      have hstep : F_field_Hull_L13 n T (m : Int) ((C.length : Int), ((C.length + J.length + 1 - m : Nat) : Int), (C ++ J ++ q :: y :: r).map encP) = some (.inl ((C.length : Int), ((C.length + J.length + 2 - m : Nat) : Int), (C ++ J ++ q :: y :: r).map encP)) := by
        generalize (C ++ J ++ q :: y :: r).map encP = M at *
        unfold F_field_Hull_L13
        dsimp only
        simp only [Int.toNat_natCast]
        rw [if_pos (by rw [List.length_replicate]; omega), if_pos (by omega), n1, Option.bind_some, unP, Option.bind_some, if_pos (by unfold inI64; omega), e2, if_pos (by omega), Int.toNat_natCast, n2, Option.bind_some, unP, Option.bind_some,
          if_pos ((eqP y q).2 he), if_pos (by unfold inI64; omega), e3]
      rw [loopF_l hstep]
      have e4 : C ++ J ++ q :: y :: r = C ++ (J ++ [q]) ++ q :: r := by rw [he]; simp
      have e5 : C.length + J.length + 2 - m = C.length + (J ++ [q]).length + 1 - m := by simp; omega
      rw [e4, e5]; exact j3
    · -- what is taken up goes to the place behind the last one
      obtain ⟨z, J2, hJ⟩ : ∃ z J2, J ++ [q] = z :: J2 := by
        cases J with
        | nil => exact ⟨q, [], rfl⟩
        | cons z J => exact ⟨z, J ++ [q], rfl⟩
      have hJl : J.length + 1 = J2.length + 1 := by have := congrArg List.length hJ; simpa using this
      have ih := thin_run (n := n) T m hm r y (C ++ [y]) J2 k (by simp at hl ⊢; omega) (by simp; omega) (by simp at hk; omega)
      obtain ⟨J', j1, j2, j3⟩ := ih
      have ed : dd q (y :: r) = y :: dd y r := by simp [dd, he]
      rw [ed]
      have e7 : C ++ y :: dd y r = C ++ [y] ++ dd y r := by simp
      rw [e7]
      refine ⟨J', j1, j2, ?_⟩
      have hset : List.set ((C ++ J ++ q :: y :: r).map encP) C.length (encP y) = (C ++ [y] ++ J2 ++ y :: r).map encP := by
        rw [← List.map_set]
        congr 1
        rw [show C ++ J ++ q :: y :: r = C ++ (J ++ [q]) ++ y :: r by simp, hJ, show C ++ z :: J2 ++ y :: r = C ++ z :: (J2 ++ y :: r) by simp, set_mid]
        simp
      have hstep : F_field_Hull_L13 n T (m : Int) ((C.length : Int), ((C.length + J.length + 1 - m : Nat) : Int), (C ++ J ++ q :: y :: r).map encP) = some (.inl (((C.length + 1 : Nat) : Int), ((C.length + J.length + 2 - m : Nat) : Int), (C ++ [y] ++ J2 ++ y :: r).map encP)) := by
        rw [← hset]
        generalize (C ++ J ++ q :: y :: r).map encP = M at *
        unfold F_field_Hull_L13
        dsimp only
        simp only [Int.toNat_natCast]
        rw [if_pos (by rw [List.length_replicate]; omega), if_pos (by omega), n1, Option.bind_some, unP, Option.bind_some, if_pos (by unfold inI64; omega), e2, if_pos (by omega), Int.toNat_natCast, n2, Option.bind_some, unP, Option.bind_some,
          if_neg (fun h => he ((eqP y q).1 h)), if_pos (by omega), if_pos (by omega), if_pos (by unfold inI64; omega), if_pos (by unfold inI64; omega), e3]
        rfl
      rw [loopF_l hstep]
      have e5 : C.length + J.length + 2 - m = (C ++ [y]).length + J2.length + 1 - m := by simp; omega
      have e6 : ((C.length + 1 : Nat) : Int) = ((C ++ [y]).length : Int) := by simp
      rw [e5, e6]; exact j3
theorem same_run {n : Nat} (hn : 100 ≤ n) : ∀ (r : List Pt) (p : Pt) (pre : List Pt) (k : Nat), (pre ++ p :: r).length ≤ 64 → r.length < k →
    (loopF (F_field_Hull_L14 n ((pre ++ p :: r).map encP)) k ((pre.length + 1 : Nat) : Int) = some (.inl ((pre ++ p :: dd p r).map encP))) ∨
    (loopF (F_field_Hull_L14 n ((pre ++ p :: r).map encP)) k ((pre.length + 1 : Nat) : Int) = some (.inr ()) ∧ dd p r = r)
  | [], p, pre, k, hl, hk => by
    obtain ⟨k, rfl⟩ : ∃ j, k = j + 1 := ⟨k - 1, by omega⟩
    refine .inr ⟨loopF_r ?_, rfl⟩
    unfold F_field_Hull_L14
    rw [if_neg (by simp)]
  | x :: r, p, pre, k, hl, hk => by
    obtain ⟨k, rfl⟩ : ∃ j, k = j + 1 := ⟨k - 1, by omega⟩
    have hl' : pre.length + 2 + r.length ≤ 64 := by simp at hl; omega
    have hM : ((pre ++ p :: x :: r).map encP).length = pre.length + 2 + r.length := by simp; omega
    have n1 : nth ((pre ++ p :: x :: r).map encP) (pre.length + 1) = some (encP x) := nth_map (by rw [List.getElem?_append_right (by omega)]; simp)
    have n2 : nth ((pre ++ p :: x :: r).map encP) pre.length = some (encP p) := nth_map (by rw [List.getElem?_append_right (by omega)]; simp)
    have e2 : (((pre.length + 1 : Nat) : Int) - 1) = (pre.length : Int) := by omega
    by_cases he : x = p
    · refine .inl (loopF_r ?_)
      -- the first equal one: those behind it go to the left
      have hth := thin_run (n := n) ((pre ++ p :: x :: r).map encP) (pre.length + 1) (by omega) r x (pre ++ [p]) [] n (by simp) (by simp) (by omega)
      obtain ⟨J', j1, j2, j3⟩ := hth
      have ed : dd p (x :: r) = dd x r := by simp [dd, he]
      rw [ed]
      have e4 : pre ++ [p] ++ [] ++ x :: r = pre ++ p :: x :: r := by simp
      have e5 : (((pre ++ [p]).length + ([] : List Pt).length + 1 - (pre.length + 1) : Nat) : Int) = 1 := by simp
      rw [e4, e5] at j3
      have e6 : ((pre ++ [p]).length : Int) = ((pre.length + 1 : Nat) : Int) := by simp
      rw [e6] at j3
      have e7 : pre ++ [p] ++ dd x r = pre ++ p :: dd x r := by simp
      rw [e7] at j2 j3
      generalize hM0 : (pre ++ p :: x :: r).map encP = M at *
      generalize hN : pre ++ p :: dd x r = N at *
      have hJ : 0 < J'.length := List.length_pos_iff.2 j1
      have hNl : ((N ++ J').map encP).length = N.length + J'.length := by simp
      unfold F_field_Hull_L14
      rw [if_pos (by omega), if_pos (by omega), Int.toNat_natCast, n1, Option.bind_some, unP, Option.bind_some, if_pos (by unfold inI64; omega), e2, if_pos (by omega), Int.toNat_natCast, n2, Option.bind_some, unP, Option.bind_some,
        if_pos ((eqP x p).2 he), j3, Option.bind_some]
      dsimp only
      rw [Int.toNat_natCast, if_pos (by omega), if_pos (by omega)]
      have hA : ((N ++ J').map encP).take N.length = N.map encP := by rw [← List.map_take]; simp
      have hT : (((N ++ J').map encP).take N.length ++ (List.replicate (((N ++ J').map encP).length - N.length) (D.agg [I 0, I 0]) ++ ((N ++ J').map encP).drop (N.length + (((N ++ J').map encP).length - N.length)))).take N.length = N.map encP := by
        rw [hA, List.take_append_of_le_length (by simp), List.take_of_length_le (by simp)]
      rw [if_pos ?_, hT]
      rw [hA]
      refine ⟨by omega, ?_⟩
      simp only [List.length_append, List.length_map]; omega
    · have hstep : F_field_Hull_L14 n ((pre ++ p :: x :: r).map encP) ((pre.length + 1 : Nat) : Int) = some (.inl (((pre ++ [p]).length + 1 : Nat) : Int)) := by
        generalize (pre ++ p :: x :: r).map encP = M at *
        unfold F_field_Hull_L14
        rw [if_pos (by omega), if_pos (by omega), Int.toNat_natCast, n1, Option.bind_some, unP, Option.bind_some, if_pos (by unfold inI64; omega), e2, if_pos (by omega), Int.toNat_natCast, n2, Option.bind_some, unP, Option.bind_some,
          if_neg (fun h => he ((eqP x p).1 h)), if_pos (by unfold inI64; omega), show (((pre ++ [p]).length + 1 : Nat) : Int) = ((pre.length + 1 : Nat) : Int) + 1 by simp]
      rw [loopF_l hstep]
      have e4 : pre ++ p :: x :: r = pre ++ [p] ++ x :: r := by simp
      have ed : dd p (x :: r) = x :: dd x r := by simp [dd, he]
      have ih := same_run hn r x (pre ++ [p]) k (by simp at hl ⊢; omega) (by simp at hk; omega)
      rw [e4, ed]
      rcases ih with h | ⟨h, h2⟩
      · refine .inl ?_
        rw [h, show pre ++ p :: x :: dd x r = pre ++ [p] ++ x :: dd x r by simp]
      · exact .inr ⟨h, by rw [h2]⟩

/-! One half. -/
theorem popStep {n : Nat} (X : List D) (sa : Int × List D) {x : Pt} (hx : Small x) (b a : Pt) (r : List Pt) (hb : Small b) (ha : Small a) (hl : r.length ≤ 64) :
    F_field_Hull_L6 n X sa x (((b :: a :: r).length : Int), (b :: a :: r).reverse.map encP) = if lft a b x ≤ 0 then some (.inl (((a :: r).length : Int), (a :: r).reverse.map encP)) else some (.inr ((b :: a :: r).reverse.map encP)) := by
  have n1 : nth ((b :: a :: r).reverse.map encP) r.length = some (encP a) := nth_map (by
    rw [show (b :: a :: r).reverse = r.reverse ++ [a, b] by simp, List.getElem?_append_right (by simp)]; simp)
  have n2 : nth ((b :: a :: r).reverse.map encP) (r.length + 1) = some (encP b) := nth_map (by
    rw [show (b :: a :: r).reverse = r.reverse ++ [a, b] by simp, List.getElem?_append_right (by simp)]; simp)
  have e1 : ((b :: a :: r).length : Int) - 2 = (r.length : Int) := by simp only [List.length_cons]; omega
  have e2 : ((b :: a :: r).length : Int) - 1 = ((r.length + 1 : Nat) : Int) := by simp only [List.length_cons]; omega
  have ht : ((b :: a :: r).reverse.map encP).take (r.length + 1) = (a :: r).reverse.map encP := by
    rw [← List.map_take]
    congr 1
    rw [show (b :: a :: r).reverse = (a :: r).reverse ++ [b] by simp, List.take_append_of_le_length (by simp)]
    exact List.take_of_length_le (by simp)
  have hM : ((b :: a :: r).reverse.map encP).length = r.length + 2 := by simp
  have e3 : (((a :: r).reverse.map encP).length : Int) = ((a :: r).length : Int) := by simp
  generalize (b :: a :: r).reverse.map encP = M at *
  unfold F_field_Hull_L6
  dsimp only
  rw [if_pos (by simp only [List.length_cons]; omega), if_pos (by unfold inI64; simp only [List.length_cons]; omega), e1, if_pos (by omega), Int.toNat_natCast, n1, Option.bind_some, unP, Option.bind_some, if_pos (by unfold inI64; simp only [List.length_cons]; omega), e2, if_pos (by omega), Int.toNat_natCast, n2, Option.bind_some, unP, Option.bind_some,
    left_eq n ha hb hx, Option.bind_some]
  show (if lft a b x ≤ 0 then _ else _) = _
  by_cases h : lft a b x ≤ 0
  · rw [if_pos h, if_pos h, if_pos (by omega), ht, e3]
  · rw [if_neg h, if_neg h]
theorem popStop {n : Nat} (X : List D) (sa : Int × List D) (x : Pt) (s : List Pt) (hs : s.length ≤ 1) : F_field_Hull_L6 n X sa x ((s.length : Int), s.reverse.map encP) = some (.inr (s.reverse.map encP)) := by
  unfold F_field_Hull_L6
  dsimp only
  rw [if_neg (by omega)]
theorem pop_run {n : Nat} (X : List D) (sa : Int × List D) {x : Pt} (hx : Small x) : ∀ (s : List Pt) (k : Nat), (∀ p, p ∈ s → Small p) → s.length ≤ 64 → s.length < k →
    loopF (F_field_Hull_L6 n X sa x) k ((s.length : Int), s.reverse.map encP) = some ((pop x s).reverse.map encP)
  | [], k, _, _, hk => by
    obtain ⟨k, rfl⟩ : ∃ j, k = j + 1 := ⟨k - 1, by omega⟩
    exact loopF_r (popStop X sa x [] (by simp))
  | [a], k, _, _, hk => by
    obtain ⟨k, rfl⟩ : ∃ j, k = j + 1 := ⟨k - 1, by omega⟩
    exact loopF_r (popStop X sa x [a] (by simp))
  | b :: a :: r, k, hs, hl, hk => by
    obtain ⟨k, rfl⟩ : ∃ j, k = j + 1 := ⟨k - 1, by omega⟩
    have h1 := popStep (n := n) X sa hx b a r (hs b (by simp)) (hs a (by simp)) (by simp at hl; omega)
    by_cases h : lft a b x ≤ 0
    · rw [if_pos h] at h1
      rw [loopF_l h1, show pop x (b :: a :: r) = pop x (a :: r) by simp [pop, h]]
      exact pop_run X sa hx (a :: r) k (fun p hp => hs p (List.mem_cons_of_mem _ hp)) (by simp at hl ⊢; omega) (by simp at hk ⊢; omega)
    · rw [if_neg h] at h1
      rw [loopF_r h1, show pop x (b :: a :: r) = b :: a :: r by simp [pop, h]]
theorem pop_sub (x : Pt) : ∀ (s : List Pt) (p : Pt), p ∈ pop x s → p ∈ s
  | [], p, h => by simp [pop] at h
  | [a], p, h => by simpa [pop] using h
  | b :: a :: r, p, h => by
    unfold pop at h
    split at h
    · exact List.mem_cons_of_mem _ (pop_sub x (a :: r) p h)
    · exact h
theorem pop_len (x : Pt) : ∀ (s : List Pt), (pop x s).length ≤ s.length
  | [] => by simp [pop]
  | [a] => by simp [pop]
  | b :: a :: r => by
    unfold pop
    split
    · have := pop_len x (a :: r); simp at this ⊢; omega
    · simp
theorem runL_fold {α S E : Type} (f : S → α → S) (ex : S → E) : ∀ (l : List α) (s : S), runL (fun s x => (.inl (f s x) : S ⊕ E)) ex l s = ex (l.foldl f s)
  | [], s => rfl
  | x :: l, s => by simp only [runL, List.foldl_cons]; exact runL_fold f ex l (f s x)
theorem half_run {n : Nat} (hn : 100 ≤ n) (l : List Pt) (hs : ∀ p, p ∈ l → Small p) (hl : l.length ≤ 12) : loopF (F_field_Hull_L7 n (l.map encP)) n (0, []) = some ((chain l).reverse.map encP) := by
  have := loopF_list0 (step := F_field_Hull_L7 n (l.map encP)) (fun (s : List Pt) (x : Pt) => (.inl (chainF s x) : List Pt ⊕ List D)) (fun s => s.reverse.map encP) (fun i s => ((i : Int), s.reverse.map encP)) l
    (fun i s => s.length ≤ i ∧ ∀ p, p ∈ s → Small p)
    (fun i s x hx hi => by
      have hlt := (List.getElem?_eq_some_iff.1 hx).1
      have hxs := hs x (List.mem_of_getElem? hx)
      dsimp only
      refine ⟨?_, ?_, fun p hp => ?_⟩
      · have hr := pop_run (n := n) (l.map encP) ((i : Int), s.reverse.map encP) hxs s n hi.2 (by omega) (by omega)
        have hpl := pop_len x s
        unfold F_field_Hull_L7
        dsimp only
        rw [if_pos (by simp; omega), if_pos (by simp; omega), Int.toNat_natCast, nth_map hx, Option.bind_some, unP, Option.bind_some,
          show (((s.reverse.map encP).length : Nat) : Int) = (s.length : Int) by simp, hr, Option.bind_some, if_pos (by unfold roomP; simp; omega), if_pos (by unfold inI64; omega)]
        unfold chainF
        simp [encP]
      · unfold chainF
        have := pop_len x s
        simp; omega
      · unfold chainF at hp
        rcases List.mem_cons.1 hp with rfl | hp
        · exact hxs
        · exact hi.2 p (pop_sub x s p hp))
    (fun s _ => by unfold F_field_Hull_L7; dsimp only; rw [if_neg (by simp)]) (s := []) (k := n) ⟨by simp, fun p hp => by cases hp⟩ (by omega)
  rw [show ((0 : Int), ([] : List D)) = (((0 : Nat) : Int), ([] : List Pt).reverse.map encP) from rfl, this, runL_fold]; rfl

/-! The other way round. -/
theorem rev_run {n : Nat} (X : List D) : ∀ (m : Nat) (A M B : List Pt) (k : Nat), M.length = m → (A ++ M ++ B).length ≤ 64 → m < k → 
    loopF (F_field_Hull_L8 n X) k ((A.length : Int), (A.length : Int) + (M.length : Int) - 1, (A ++ M ++ B).map encP) = some ((A ++ M.reverse ++ B).map encP) := by
  intro m
  induction m using Nat.strongRecOn with
  | _ m ih =>
    intro A M B k hm hl hk
    obtain ⟨k, rfl⟩ : ∃ j, k = j + 1 := ⟨k - 1, by omega⟩
    rcases Nat.lt_or_ge 1 M.length with h1 | h1
    · obtain ⟨x, M1, rfl⟩ : ∃ x M1, M = x :: M1 := by cases M with | nil => simp at h1 | cons x M1 => exact ⟨x, M1, rfl⟩
      have hne : M1 ≠ [] := by intro e; rw [e] at h1; simp at h1
      obtain ⟨M2, y, rfl⟩ : ∃ M2 y, M1 = M2 ++ [y] := ⟨M1.dropLast, M1.getLast hne, (List.dropLast_concat_getLast hne).symm⟩
      have hl2 : A.length + M2.length + 2 + B.length ≤ 64 := by simp at hl; omega
      have e0 : A ++ x :: (M2 ++ [y]) ++ B = A ++ x :: (M2 ++ y :: B) := by simp
      have hML : (x :: (M2 ++ [y])).length = M2.length + 2 := by simp
      have e1 : (A.length : Int) + ((x :: (M2 ++ [y])).length : Int) - 1 = ((A.length + 1 + M2.length : Nat) : Int) := by rw [hML]; omega
      have n1 : nth ((A ++ x :: (M2 ++ y :: B)).map encP) A.length = some (encP x) := nth_map (by rw [List.getElem?_append_right (by omega)]; simp)
      have n2 : nth ((A ++ x :: (M2 ++ y :: B)).map encP) (A.length + 1 + M2.length) = some (encP y) := nth_map (by
        rw [show A ++ x :: (M2 ++ y :: B) = (A ++ x :: M2) ++ y :: B by simp, List.getElem?_append_right (by simp; omega)]
        have : A.length + 1 + M2.length - (A ++ x :: M2).length = 0 := by simp; omega
        rw [this]; rfl)
      have hlen : ((A ++ x :: (M2 ++ y :: B)).map encP).length = A.length + M2.length + 2 + B.length := by simp; omega
      have hset : List.set (List.set ((A ++ x :: (M2 ++ y :: B)).map encP) A.length (encP y)) (A.length + 1 + M2.length) (encP x) = (A ++ [y] ++ M2 ++ (x :: B)).map encP := by
        rw [← List.map_set, ← List.map_set]
        congr 1
        rw [set_mid, show A ++ y :: (M2 ++ y :: B) = (A ++ y :: M2) ++ y :: B by simp, show A.length + 1 + M2.length = (A ++ y :: M2).length by simp; omega, set_mid]
        simp
      have hstep : F_field_Hull_L8 n X ((A.length : Int), ((A.length + 1 + M2.length : Nat) : Int), (A ++ x :: (M2 ++ y :: B)).map encP) = some (.inl (((A ++ [y]).length : Int), ((A ++ [y]).length : Int) + (M2.length : Int) - 1, (A ++ [y] ++ M2 ++ (x :: B)).map encP)) := by
        rw [← hset]
        generalize (A ++ x :: (M2 ++ y :: B)).map encP = L at *
        unfold F_field_Hull_L8
        dsimp only
        simp only [Int.toNat_natCast]
        rw [if_pos (by omega), if_pos (by omega), n2, Option.bind_some, unP, Option.bind_some, if_pos (by omega), n1, Option.bind_some, unP, Option.bind_some, if_pos (by omega), if_pos (by rw [List.length_set]; omega), if_pos (by rw [List.length_set]; omega),
          if_pos (by unfold inI64; omega), if_pos (by unfold inI64; omega)]
        have h1 : ((A.length : Int) + 1) = ((A ++ [y]).length : Int) := by simp
        have h2 : (((A.length + 1 + M2.length : Nat) : Int) - 1) = ((A ++ [y]).length : Int) + (M2.length : Int) - 1 := by simp
        rw [h1, h2]; rfl
      rw [e0, e1, loopF_l hstep, ih M2.length (by rw [← hm, hML]; omega) (A ++ [y]) M2 (x :: B) k rfl (by simp; omega) (by rw [hML] at hm; omega)]
      simp
    · have hr : M.reverse = M := by
        cases M with
        | nil => rfl
        | cons x M => cases M with
          | nil => rfl
          | cons y M => simp at h1
      rw [hr]
      refine loopF_r ?_
      unfold F_field_Hull_L8
      dsimp only
      rw [if_neg (by omega)]
theorem reverse_eq {n : Nat} (hn : 100 ≤ n) (X : List D) (l : List Pt) (hl : l.length ≤ 12) : loopF (F_field_Hull_L8 n X) n (0, ((l.map encP).length : Int) - 1, l.map encP) = some (l.reverse.map encP) := by
  have := rev_run (n := n) X l.length [] l [] n rfl (by simp; omega) (by omega)
  simp only [List.nil_append, List.append_nil, List.length_nil] at this
  rw [List.length_map]
  have e : ((0 : Nat) : Int) + (l.length : Int) - 1 = (l.length : Int) - 1 := by omega
  rw [e] at this
  exact this
end Go.Proofs.YtbjnjffckhdhgaaGreatDoor
/-
  The program's hull of at most 12 points, as one list. An own text; the first definition is printed.
-/
set_option maxRecDepth 20000
namespace Go.Proofs.YtbjnjffckhdhgaaGreatDoor
open Go.SX
open Go.Geo (lft lx pop chain chainF insR insG srt dd cmpt lowr uppr hullOf insR_app insR_len srt_ok cmpt_ok)

def tailF (n : Nat) (X : List D) : Option (List D × Int) :=
        (loopF (F_field_Hull_L7 n X) n (0, [])).bind fun t13 =>
        if inI64 (((X).length : Int) - 1) then
        (loopF (F_field_Hull_L8 n t13) n (0, (((X).length : Int) - 1), X)).bind fun t15 =>
        (loopF (F_field_Hull_L11 n t13 t15) n (0, [])).bind fun t16 =>
        if inI64 (((t13).length : Int) - 1) then
        if (0 : Int) ≤ 0 ∧ 0 ≤ (((t13).length : Int) - 1) ∧ (((t13).length : Int) - 1) ≤ ((t13).length : Int) ∧ (t13 = [] ∨ 2 = 2) then
        if inI64 (((t16).length : Int) - 1) then
        if (0 : Int) ≤ 0 ∧ 0 ≤ (((t16).length : Int) - 1) ∧ (((t16).length : Int) - 1) ≤ ((t16).length : Int) ∧ (t16 = [] ∨ 2 = 2) then
        if inI64 (0 + ((((t13.take (Int.toNat (((t13).length : Int) - 1))).drop (Int.toNat 0)) : List D).length : Int)) then
        if (0 + ((((t13.take (Int.toNat (((t13).length : Int) - 1))).drop (Int.toNat 0)) : List D).length : Int)) < 0 then
          none /- operation makeInterface at slices.go:496 -/
        else
        if inI64 ((0 + ((((t13.take (Int.toNat (((t13).length : Int) - 1))).drop (Int.toNat 0)) : List D).length : Int)) + ((((t16.take (Int.toNat (((t16).length : Int) - 1))).drop (Int.toNat 0)) : List D).length : Int)) then
        if ((0 + ((((t13.take (Int.toNat (((t13).length : Int) - 1))).drop (Int.toNat 0)) : List D).length : Int)) + ((((t16.take (Int.toNat (((t16).length : Int) - 1))).drop (Int.toNat 0)) : List D).length : Int)) < 0 then
          none /- operation makeInterface at slices.go:496 -/
        else
        if inI64 (((0 + ((((t13.take (Int.toNat (((t13).length : Int) - 1))).drop (Int.toNat 0)) : List D).length : Int)) + ((((t16.take (Int.toNat (((t16).length : Int) - 1))).drop (Int.toNat 0)) : List D).length : Int)) - 0) then
        if (((0 + ((((t13.take (Int.toNat (((t13).length : Int) - 1))).drop (Int.toNat 0)) : List D).length : Int)) + ((((t16.take (Int.toNat (((t16).length : Int) - 1))).drop (Int.toNat 0)) : List D).length : Int)) - 0) > 0 then
          if 0 < (((0 + ((((t13.take (Int.toNat (((t13).length : Int) - 1))).drop (Int.toNat 0)) : List D).length : Int)) + ((((t16.take (Int.toNat (((t16).length : Int) - 1))).drop (Int.toNat 0)) : List D).length : Int)) - 0) ∧ roomP 16 (Int.toNat (((0 + ((((t13.take (Int.toNat (((t13).length : Int) - 1))).drop (Int.toNat 0)) : List D).length : Int)) + ((((t16.take (Int.toNat (((t16).length : Int) - 1))).drop (Int.toNat 0)) : List D).length : Int)) - 0)) then
          if (0 : Int) ≤ 0 ∧ 0 ≤ (((List.replicate (Int.toNat (((0 + ((((t13.take (Int.toNat (((t13).length : Int) - 1))).drop (Int.toNat 0)) : List D).length : Int)) + ((((t16.take (Int.toNat (((t16).length : Int) - 1))).drop (Int.toNat 0)) : List D).length : Int)) - 0)) (.agg [I 0, I 0] : D)) : List D).length : Int) then
          if roomP 16 (0 + (((t13.take (Int.toNat (((t13).length : Int) - 1))).drop (Int.toNat 0)) : List D).length) then
          if roomP 16 ((((t13.take (Int.toNat (((t13).length : Int) - 1))).drop (Int.toNat 0)) : List D).length + (((t16.take (Int.toNat (((t16).length : Int) - 1))).drop (Int.toNat 0)) : List D).length) then
          (F_field_when n (decide ((((((t13.take (Int.toNat (((t13).length : Int) - 1))).drop (Int.toNat 0)) ++ (((t16.take (Int.toNat (((t16).length : Int) - 1))).drop (Int.toNat 0)) : List D)) : List D).length : Int) < 3)) 17).bind fun t31 =>
          (F_field_when n (decide ((((((t13.take (Int.toNat (((t13).length : Int) - 1))).drop (Int.toNat 0)) ++ (((t16.take (Int.toNat (((t16).length : Int) - 1))).drop (Int.toNat 0)) : List D)) : List D).length : Int) > 16)) 5).bind fun t32 =>
          (F_field_first n ([I t31, I t32])).bind fun t33 =>
          if t33 = 0 then
            some ((((t13.take (Int.toNat (((t13).length : Int) - 1))).drop (Int.toNat 0)) ++ (((t16.take (Int.toNat (((t16).length : Int) - 1))).drop (Int.toNat 0)) : List D)), 0)
          else
          some ([], t33)
          else none
          else none
          else none
          else none
        else
        if roomP 16 (0 + (((t13.take (Int.toNat (((t13).length : Int) - 1))).drop (Int.toNat 0)) : List D).length) then
        if isNilL ((t13.take (Int.toNat (((t13).length : Int) - 1))).drop (Int.toNat 0)) = true then
          if roomP 16 (0 + (((t16.take (Int.toNat (((t16).length : Int) - 1))).drop (Int.toNat 0)) : List D).length) then
          if isNilL ((t16.take (Int.toNat (((t16).length : Int) - 1))).drop (Int.toNat 0)) = true then
            (F_field_when_3 n).bind fun t31 =>
            (F_field_when_4 n).bind fun t32 =>
            (F_field_first n ([I t31, I t32])).bind fun t33 =>
            if t33 = 0 then
              some ([], 0)
            else
            some ([], t33)
          else
          (F_field_when n (decide (((((t16.take (Int.toNat (((t16).length : Int) - 1))).drop (Int.toNat 0)) : List D).length : Int) < 3)) 17).bind fun t31 =>
          (F_field_when n (decide (((((t16.take (Int.toNat (((t16).length : Int) - 1))).drop (Int.toNat 0)) : List D).length : Int) > 16)) 5).bind fun t32 =>
          (F_field_first n ([I t31, I t32])).bind fun t33 =>
          if t33 = 0 then
            some (((t16.take (Int.toNat (((t16).length : Int) - 1))).drop (Int.toNat 0)), 0)
          else
          some ([], t33)
          else none
        else
        if roomP 16 ((((t13.take (Int.toNat (((t13).length : Int) - 1))).drop (Int.toNat 0)) : List D).length + (((t16.take (Int.toNat (((t16).length : Int) - 1))).drop (Int.toNat 0)) : List D).length) then
        (F_field_when n (decide ((((((t13.take (Int.toNat (((t13).length : Int) - 1))).drop (Int.toNat 0)) ++ (((t16.take (Int.toNat (((t16).length : Int) - 1))).drop (Int.toNat 0)) : List D)) : List D).length : Int) < 3)) 17).bind fun t30 =>
        (F_field_when n (decide ((((((t13.take (Int.toNat (((t13).length : Int) - 1))).drop (Int.toNat 0)) ++ (((t16.take (Int.toNat (((t16).length : Int) - 1))).drop (Int.toNat 0)) : List D)) : List D).length : Int) > 16)) 5).bind fun t31 =>
        (F_field_first n ([I t30, I t31])).bind fun t32 =>
        if t32 = 0 then
          some ((((t13.take (Int.toNat (((t13).length : Int) - 1))).drop (Int.toNat 0)) ++ (((t16.take (Int.toNat (((t16).length : Int) - 1))).drop (Int.toNat 0)) : List D)), 0)
        else
        some ([], t32)
        else none
        else none
        else none
        else none
        else none
        else none
        else none
        else none
        else none
        else none

theorem hull_shape (n : Nat) (a0 : List D) : F_field_Hull n a0 = (
  (F_field_when n (((a0).length : Int) == 0) 12).bind fun t1 =>
  (F_field_when n (decide (((a0).length : Int) > 64)) 5).bind fun t2 =>
  (F_field_first n ([I t1, I t2])).bind fun t3 =>
  if t3 = 0 then
    (F_field_mapped_g n a0).bind fun t5 =>
    (F_field_first n t5).bind fun t6 =>
    if t6 = 0 then
      if isNilL a0 = true then
        none /- whether an empty list is nil -/
      else
      if roomP 16 (0 + (a0).length) then
      (F_math_bits_Len n (IntKind.wrap .u64 ((a0).length : Int))).bind fun t10 =>
      (loopF (F_field_Hull_L4 n a0 t10) n ()).bind fun t11 =>
      if ((t11).length : Int) < 2 then tailF n t11 else
      (loopF (F_field_Hull_L14 n t11) n 1).bind fun t13 => match t13 with
        | (.inl t13) => tailF n t13
        | (.inr _) => tailF n t11
      else none
    else some ([], t6)
  else some ([], t3)) := by
  unfold F_field_Hull
  rfl

theorem halfTake (l : List Pt) (h : l ≠ []) : ((l.map encP).take (Int.toNat (((l.map encP).length : Int) - 1))).drop (Int.toNat 0) = (l.take (l.length - 1)).map encP := by
  have h0 := List.length_pos_iff.2 h
  rw [show Int.toNat (((l.map encP).length : Int) - 1) = l.length - 1 by rw [List.length_map]; omega]
  simp
theorem l11_eq (n : Nat) (L X : List D) : F_field_Hull_L11 n L X = F_field_Hull_L7 n X := rfl
theorem lowr_le (s : List Pt) : (lowr s).length ≤ s.length ∧ (uppr s).length ≤ s.length := by
  have key : ∀ (l s : List Pt), (l.foldl chainF s).length ≤ s.length + l.length := by
    intro l
    induction l with
    | nil => intro s; simp
    | cons x l ih =>
      intro s
      have h1 := ih (chainF s x)
      have h2 := pop_len x s
      simp only [List.foldl_cons, List.length_cons]
      unfold chainF at h1 ⊢
      simp only [List.length_cons] at h1
      omega
  have h1 := key s []
  have h2 := key s.reverse []
  unfold lowr uppr chain
  simp only [List.length_nil, List.length_reverse] at *
  omega
theorem tail_eq {n : Nat} (hn : 100 ≤ n) {s : List Pt} (hso : s.Pairwise lx) (hne : s ≠ []) (hs : ∀ p, p ∈ s → Small p) (hl : s.length ≤ 12) :
    tailF n (s.map encP) = some (if (hullOf s).length < 3 then ([], 17) else ((hullOf s).map encP, 0)) := by
  obtain ⟨_, c1, c2⟩ := Go.Geo.two_of hso hne
  have hlo : lowr s ≠ [] := by unfold lowr; simpa using c1
  have hup : uppr s ≠ [] := by unfold uppr; simpa using c2
  have hle := lowr_le s
  have h16 : (hullOf s).length ≤ 16 := by
    rcases Nat.lt_or_ge (hullOf s).length 3 with h | h
    · omega
    · have := Go.Geo.hull_len hso hne h; omega
  have hA := halfTake (lowr s) hlo
  have hB := halfTake (uppr s) hup
  have hAB : hullOf s = (lowr s).take ((lowr s).length - 1) ++ (uppr s).take ((uppr s).length - 1) := rfl
  have l1 := List.length_pos_iff.2 hlo
  have l2 := List.length_pos_iff.2 hup
  have hrun1 : loopF (F_field_Hull_L7 n (s.map encP)) n (0, []) = some ((lowr s).map encP) := half_run hn s hs hl
  have hrun2 : loopF (F_field_Hull_L8 n ((lowr s).map encP)) n (0, ((s.map encP).length : Int) - 1, s.map encP) = some (s.reverse.map encP) := reverse_eq hn _ s hl
  have hrun3 : loopF (F_field_Hull_L11 n ((lowr s).map encP) (s.reverse.map encP)) n (0, []) = some ((uppr s).map encP) := by
    rw [l11_eq]; exact half_run hn s.reverse (fun p hp => hs p (by simpa using hp)) (by simpa using hl)
  unfold tailF
  rw [hrun1, Option.bind_some, if_pos (by unfold inI64; simp; omega), hrun2, Option.bind_some, hrun3, Option.bind_some]
  have i1 : inI64 ((((lowr s).map encP).length : Int) - 1) := by unfold inI64; simp; omega
  have i2 : inI64 ((((uppr s).map encP).length : Int) - 1) := by unfold inI64; simp; omega
  have i3 : (0 : Int) ≤ 0 ∧ 0 ≤ (((((lowr s).map encP)).length : Int) - 1) ∧ (((((lowr s).map encP)).length : Int) - 1) ≤ ((((lowr s).map encP)).length : Int) ∧ (((lowr s).map encP) = [] ∨ 2 = 2) := by
    refine ⟨by omega, ?_, by omega, .inr rfl⟩; simp; omega
  have i4 : (0 : Int) ≤ 0 ∧ 0 ≤ (((((uppr s).map encP)).length : Int) - 1) ∧ (((((uppr s).map encP)).length : Int) - 1) ≤ ((((uppr s).map encP)).length : Int) ∧ (((uppr s).map encP) = [] ∨ 2 = 2) := by
    refine ⟨by omega, ?_, by omega, .inr rfl⟩; simp; omega
  rw [if_pos i1, if_pos i3, if_pos i2, if_pos i4, hA, hB]
  have hla : ((lowr s).take ((lowr s).length - 1)).length = (lowr s).length - 1 := by rw [List.length_take]; omega
  have hlb : ((uppr s).take ((uppr s).length - 1)).length = (uppr s).length - 1 := by rw [List.length_take]; omega
  have hll : (hullOf s).length = ((lowr s).length - 1) + ((uppr s).length - 1) := by rw [hAB, List.length_append, hla, hlb]
  rw [hAB]
  rw [hAB] at h16
  generalize (lowr s).take ((lowr s).length - 1) = A at *
  generalize (uppr s).take ((uppr s).length - 1) = B at *
  have lA : ((A.map encP : List D).length : Int) = A.length := by simp
  have lB : ((B.map encP : List D).length : Int) = B.length := by simp
  have lAn : (A.map encP : List D).length = A.length := by simp
  have lBn : (B.map encP : List D).length = B.length := by simp
  have l16 : A.length + B.length ≤ 16 := by simpa using h16
  have hj : (A.map encP ++ B.map encP : List D) = (A ++ B).map encP := by simp
  have hjl : (((A ++ B).map encP : List D).length : Int) = ((A.length + B.length : Nat) : Int) := by simp
  have hg : ((A ++ B).length : Nat) = A.length + B.length := by simp
  have hfin : ∀ z : List D × Int, (if firstNZ [whenI (decide (((A.length + B.length : Nat) : Int) < 3)) 17, whenI (decide (((A.length + B.length : Nat) : Int) > 16)) 5] = 0 then some ((A ++ B).map encP, 0) else some ([], firstNZ [whenI (decide (((A.length + B.length : Nat) : Int) < 3)) 17, whenI (decide (((A.length + B.length : Nat) : Int) > 16)) 5])) = some (if (A ++ B).length < 3 then (([] : List D), (17 : Int)) else ((A ++ B).map encP, 0)) := by
    intro _
    rw [hg]
    have d2 : decide (((A.length + B.length : Nat) : Int) > 16) = false := decide_eq_false (by omega)
    by_cases h3 : A.length + B.length < 3
    · have d1 : decide (((A.length + B.length : Nat) : Int) < 3) = true := decide_eq_true (by omega)
      rw [d1, d2, show firstNZ [whenI true 17, whenI false 5] = 17 from rfl, if_neg (by omega), if_pos h3]
    · have d1 : decide (((A.length + B.length : Nat) : Int) < 3) = false := decide_eq_false (by omega)
      rw [d1, d2, show firstNZ [whenI false 17, whenI false 5] = 0 from rfl, if_pos rfl, if_neg h3]
  rw [lA, lB, lAn, lBn, if_pos (by unfold inI64; omega), if_neg (by omega), if_pos (by unfold inI64; omega), if_neg (by omega), if_pos (by unfold inI64; omega)]
  by_cases hpos : ((0 : Int) + (A.length : Int) + (B.length : Int)) - 0 > 0
  · rw [if_pos hpos, if_pos ⟨by omega, by unfold roomP; omega⟩, if_pos ⟨by omega, by omega⟩, if_pos (by unfold roomP; omega), if_pos (by unfold roomP; omega), hj, hjl, when_eq, Option.bind_some, when_eq, Option.bind_some, first2 (by omega), Option.bind_some]
    exact hfin ([], 0)
  · have hA0 : A = [] := List.length_eq_zero_iff.1 (by omega)
    have hB0 : B = [] := List.length_eq_zero_iff.1 (by omega)
    subst hA0; subst hB0
    have hnil : isNilL (List.map encP []) = true := rfl
    rw [if_neg hpos, if_pos (by unfold roomP; simp), if_pos hnil, if_pos (by unfold roomP; simp), if_pos hnil]
    unfold F_field_when_3 F_field_when_4
    rw [Option.bind_some, Option.bind_some, first2 (by omega), Option.bind_some]
    rfl

theorem len_eq (n : Nat) : ∀ k : Nat, k ≤ 12 → ∃ t, F_math_bits_Len n (IntKind.wrap .u64 (k : Int)) = some t
  | 0, _ => ⟨0, by kernel_rfl⟩
  | 1, _ => ⟨1, by kernel_rfl⟩
  | 2, _ => ⟨2, by kernel_rfl⟩
  | 3, _ => ⟨2, by kernel_rfl⟩
  | 4, _ => ⟨3, by kernel_rfl⟩
  | 5, _ => ⟨3, by kernel_rfl⟩
  | 6, _ => ⟨3, by kernel_rfl⟩
  | 7, _ => ⟨3, by kernel_rfl⟩
  | 8, _ => ⟨4, by kernel_rfl⟩
  | 9, _ => ⟨4, by kernel_rfl⟩
  | 10, _ => ⟨4, by kernel_rfl⟩
  | 11, _ => ⟨4, by kernel_rfl⟩
  | 12, _ => ⟨4, by kernel_rfl⟩
  | k + 13, h => by omega
/-- The hull's corners. -/
def hullP (l : List Pt) : List Pt := hullOf (cmpt (srt l))
theorem ptE_small {p : Pt} (h : Small p) : ptE p = 0 := by
  unfold Small at h
  have e : ∀ x : Int, -16777216 ≤ x ∧ x ≤ 16777216 → inR x (-16777216) 16777216 = 0 := fun x hx => by
    unfold inR
    rw [if_neg (by omega), if_neg (by omega)]
  unfold ptE
  rw [e _ h.1, e _ h.2]; rfl
theorem firstNZ_all : ∀ {l : List Int}, (∀ x, x ∈ l → x = 0) → firstNZ l = 0
  | [], _ => rfl
  | x :: l, h => by
    unfold firstNZ
    rw [if_pos (h x (by simp))]
    exact firstNZ_all fun y hy => h y (List.mem_cons_of_mem _ hy)
theorem hull_eq {n : Nat} (hn : 100 ≤ n) {l : List Pt} (hne : l ≠ []) (hl : l.length ≤ 12) (hs : ∀ p, p ∈ l → Small p) :
    F_field_Hull n (l.map encP) = some (if (hullP l).length < 3 then ([], 17) else ((hullP l).map encP, 0)) := by
  obtain ⟨s1, s2, s3⟩ := srt_ok l
  obtain ⟨k1, k2, k3, k4⟩ := cmpt_ok l
  have h0 := List.length_pos_iff.2 hne
  have hlen : ((l.map encP).length : Int) = l.length := by simp
  have hE : firstNZ (l.map ptE) = 0 := firstNZ_all fun x hx => by
    obtain ⟨p, hp, rfl⟩ := List.mem_map.1 hx
    exact ptE_small (hs p hp)
  obtain ⟨t, ht⟩ := len_eq n l.length hl
  have hT := tail_eq hn k1 (k4 hne) (fun p hp => hs p ((k2 p).1 hp)) (by omega)
  rw [hull_shape, hlen, when_eq, Option.bind_some, when_eq, Option.bind_some, first2 (by omega), Option.bind_some]
  have hw1 : whenI ((l.length : Int) == 0) 12 = 0 := by
    unfold whenI
    rw [if_neg]
    simp; omega
  have hw2 : whenI (decide ((l.length : Int) > 64)) 5 = 0 := by
    unfold whenI
    rw [if_neg]
    simp; omega
  rw [hw1, hw2, if_pos (show firstNZ [0, 0] = 0 from rfl), mapped_eq hn l (by omega), Option.bind_some, first_eq _ (by simp; omega) (by simp; omega), Option.bind_some, if_pos hE, if_neg ?_, if_pos (by unfold roomP; simp; omega), ht, Option.bind_some, sort_eq hn l hl hne t, Option.bind_some]
  · have hsl : (srt l).length = l.length := s3
    by_cases h2 : (((srt l).map encP).length : Int) < 2
    · rw [if_pos h2]
      have hc : cmpt (srt l) = srt l := by
        rw [List.length_map] at h2
        cases hq : srt l with
        | nil => rfl
        | cons a r =>
          rw [hq] at h2
          have : r = [] := List.length_eq_zero_iff.1 (by simp at h2; omega)
          subst this; rfl
      rw [hc] at hT
      unfold hullP
      rw [hc]; exact hT
    · rw [if_neg h2]
      unfold hullP
      cases hq : srt l with
      | nil => rw [hq] at h2; simp at h2
      | cons a r =>
        have hlr : (a :: r).length ≤ 12 := by rw [← hq, hsl]; exact hl
        rw [hq] at hT
        have hc : cmpt (a :: r) = a :: dd a r := rfl
        rw [hc] at hT ⊢
        have hsm := same_run hn r a [] n (by simp at hlr ⊢; omega) (by simp at hlr; omega)
        simp only [List.nil_append, List.length_nil, Nat.zero_add] at hsm
        rcases hsm with h | ⟨h, he⟩
        · rw [show (1 : Int) = ((1 : Nat) : Int) from rfl, h, Option.bind_some]; exact hT
        · rw [show (1 : Int) = ((1 : Nat) : Int) from rfl, h, Option.bind_some]
          rw [he] at hT ⊢
          exact hT
  · cases l with
    | nil => exact absurd rfl hne
    | cons a r => simp [isNilL]
end Go.Proofs.YtbjnjffckhdhgaaGreatDoor
/-
  The hull's corners are a polygon, and all of them are among the points. An own text.
-/
set_option maxRecDepth 20000
namespace Go.Proofs.YtbjnjffckhdhgaaGreatDoor
open Go.SX
open Go.Geo (lft lx srt cmpt hullOf rng Ring Poly mv)

theorem rng_at {g : List Pt} {i : Nat} (h : i < g.length) : rng g i = at0 g i := by
  unfold rng
  rw [if_neg (by omega)]; rfl
theorem rng_nx {g : List Pt} {i : Nat} (h : i < g.length) : rng g (i + 1) = at0 g (nx g.length i) := by
  unfold rng nx
  by_cases e : i + 1 = g.length
  · rw [if_pos e, e, Nat.mod_self]; rfl
  · rw [if_neg e, Nat.mod_eq_of_lt (by omega)]; rfl
theorem runL_all {α E : Type} {g : Unit → α → Unit ⊕ E} {ex : Unit → E} : ∀ (l : List α), (∀ x, x ∈ l → g () x = .inl ()) → runL g ex l () = ex ()
  | [], _ => rfl
  | x :: l, h => by
    unfold runL
    rw [h x (by simp)]
    exact runL_all l fun y hy => h y (List.mem_cons_of_mem _ hy)

/-- Each corner is strictly to the left of all edges but its own two. -/
def PolyI (g : List Pt) : Prop := 3 ≤ g.length ∧ ∀ i k, i < g.length → k < g.length → k ≠ i → k ≠ nx g.length i → 0 < lft (at0 g i) (at0 g (nx g.length i)) (at0 g k)
theorem PolyI.of {S} {g : List Pt} (hr : Ring S (rng g) g.length) (h3 : 3 ≤ g.length) : PolyI g := by
  refine ⟨h3, fun i k hi hk h1 h2 => ?_⟩
  have hnx := nx_lt (m := g.length) (i := i) (by omega)
  have := (hr.poly h3).2.2 i k hi hk h1 (fun e => h2 (by
    rw [rng_nx hi, ← rng_at hnx] at e
    exact hr.inj k _ hk hnx e))
  rwa [rng_at hi, rng_nx hi, rng_at hk] at this
theorem at_mv {g : List Pt} {k : Int} {i : Nat} (h : i < g.length) : at0 (g.map (mv k)) i = mv k (at0 g i) := by
  unfold at0
  rw [List.getD_eq_getElem?_getD, List.getD_eq_getElem?_getD, List.getElem?_map, List.getElem?_eq_getElem h]; rfl
theorem lft_mv (k : Int) (p q r : Pt) : lft (mv k p) (mv k q) (mv k r) = lft p q r := by unfold lft mv; grind
theorem PolyI.mv {g : List Pt} (h : PolyI g) (k : Int) : PolyI (g.map (mv k)) := by
  obtain ⟨h3, h⟩ := h
  refine ⟨by simpa using h3, fun i j hi hj h1 h2 => ?_⟩
  rw [List.length_map] at *
  have hnx := nx_lt (m := g.length) (i := i) (by omega)
  rw [at_mv hi, at_mv hnx, at_mv hj, lft_mv]
  exact h i j hi hj h1 h2
theorem polyE_of {g : List Pt} (hp : PolyI g) (hs : ∀ p, p ∈ g → Small p) (hl : g.length ≤ 16) : polyE g = 0 := by
  obtain ⟨h3, h⟩ := hp
  have d1 : decide ((g.length : Int) < 3) = false := decide_eq_false (by omega)
  have d2 : decide ((g.length : Int) > 16) = false := decide_eq_false (by omega)
  have hE : firstNZ (g.map ptE) = 0 := firstNZ_all fun x hx => by
    obtain ⟨p, hp, rfl⟩ := List.mem_map.1 hx
    exact ptE_small (hs p hp)
  have hrow : ∀ i, i < g.length → rowE g i = .inr () := by
    intro i hi
    unfold rowE
    refine runL_all _ fun k hk => ?_
    have hk' : k < g.length := by simpa using hk
    unfold gRow
    split
    · rfl
    · rename_i h1
      split
      · rfl
      · rename_i h2
        have := h i k hi hk' h1 h2
        rw [if_neg]
        show ¬ lft _ _ _ ≤ 0
        omega
  have hall : allE g = .inr () := by
    unfold allE
    refine runL_all _ fun i hi => ?_
    have hi' : i < g.length := by simpa using hi
    unfold gAll
    rw [hrow i hi']
  unfold polyE
  rw [d1, d2, if_pos (show firstNZ [whenI false 16, whenI false 5] = 0 from rfl), if_pos hE, hall]

theorem hull_facts {l : List Pt} (hne : l ≠ []) (hl : l.length ≤ 12) (h3 : ¬ (hullP l).length < 3) :
    Ring (fun y => y ∈ cmpt (srt l)) (rng (hullP l)) (hullP l).length ∧ (∀ x, x ∈ hullP l → x ∈ l) ∧ (hullP l).length ≤ l.length ∧ PolyI (hullP l) := by
  obtain ⟨k1, k2, k3, k4⟩ := Go.Geo.cmpt_ok l
  have hr := Go.Geo.hull_ring k1 (k4 hne) (Nat.le_of_not_lt h3)
  have hlen := Go.Geo.hull_len k1 (k4 hne) (Nat.le_of_not_lt h3)
  refine ⟨hr, fun x hx => ?_, by unfold hullP; omega, PolyI.of hr (Nat.le_of_not_lt h3)⟩
  obtain ⟨i, hi, e⟩ := Go.Geo.mem_rng hx
  have := hr.mem i (by unfold hullP at hi; omega)
  rw [← k2]
  unfold hullP at e
  rw [e] at this
  exact this

/-! Parted. -/
def Sep (a b : List Pt) (i : Nat) : Prop := ∀ y, y ∈ b → lft (at0 a i) (at0 a (nx a.length i)) y ≤ 0
theorem row_sep {n : Nat} {a0 a1 : List D} {b : List Pt} (hb : a1 = b.map encP) (hbs : ∀ p, p ∈ b → Small p) (hbl : b.length ≤ 65) {p q : Pt} (hp : Small p) (hq : Small q) (hn : 100 ≤ n) :
    ∃ e, loopF (F_field_Apart_L1 n a0 a1 (p.1, p.2, q.1, q.2)) n 0 = some e ∧ ((∃ k : Nat, e = .inl (k : Int) ∧ ∃ y, y ∈ b ∧ 0 < lft p q y) ∨ (e = .inr () ∧ ∀ y, y ∈ b → lft p q y ≤ 0)) := by
  subst hb
  refine loopF_meas (fun t => ∃ k : Nat, t = (k : Int) ∧ k ≤ b.length ∧ ∀ i, i < k → lft p q (at0 b i) ≤ 0) (fun t => b.length - t.toNat) _ ?_ n 0 ⟨0, rfl, by omega, fun i h => by omega⟩ (by simp; omega)
  rintro t ⟨k, rfl, hk, hall⟩
  rcases Nat.lt_or_ge k b.length with h | h
  · have hx := hbs _ (List.mem_of_getElem? (at_some h))
    have hq2 := left_eq n hp hq hx
    by_cases h2 : lft p q (at0 b k) ≤ 0
    · refine .inl ⟨((k + 1 : Nat) : Int), ?_, ⟨k + 1, rfl, h, fun i hi => ?_⟩, by simp; omega⟩
      · unfold F_field_Apart_L1
        rw [if_pos (by simp; omega), el_at h, Option.bind_some, hq2, Option.bind_some, if_neg (show ¬ side _ _ _ > 0 by show ¬ lft _ _ _ > 0; omega), if_pos (by unfold inI64; omega)]; rfl
      · rcases Nat.lt_or_ge i k with h3 | h3
        · exact hall i h3
        · have : i = k := by omega
          rw [this]; exact h2
    · refine .inr ⟨.inl (k : Int), ?_, .inl ⟨k, rfl, at0 b k, List.mem_of_getElem? (at_some h), by omega⟩⟩
      unfold F_field_Apart_L1
      rw [if_pos (by simp; omega), el_at h, Option.bind_some, hq2, Option.bind_some, if_pos (show side _ _ _ > 0 by show lft _ _ _ > 0; omega)]
  · refine .inr ⟨.inr (), ?_, .inr ⟨rfl, fun y hy => ?_⟩⟩
    · unfold F_field_Apart_L1
      rw [if_neg (by simp; omega)]
    · obtain ⟨i, hi, e⟩ := Go.Geo.mem_at0 hy
      rw [← e]; exact hall i (by omega)
theorem all_sep {n : Nat} {a b : List Pt} (has : ∀ p, p ∈ a → Small p) (hal : a.length ≤ 65) (hbs : ∀ p, p ∈ b → Small p) (hbl : b.length ≤ 65) (hn : 100 ≤ n) :
    ∃ e, loopF (F_field_Apart_L2 n (a.map encP) (b.map encP)) n 0 = some e ∧ ((∃ k : Nat, e = .inl (k : Int) ∧ k < a.length ∧ Sep a b k) ∨ (e = .inr () ∧ ∀ k, k < a.length → ¬ Sep a b k)) := by
  refine loopF_meas (fun t => ∃ k : Nat, t = (k : Int) ∧ k ≤ a.length ∧ ∀ i, i < k → ¬ Sep a b i) (fun t => a.length - t.toNat) _ ?_ n 0 ⟨0, rfl, by omega, fun i h => by omega⟩ (by simp; omega)
  rintro t ⟨k, rfl, hk, hall⟩
  rcases Nat.lt_or_ge k a.length with h | h
  · have hnx := nx_lt (m := a.length) (i := k) (by omega)
    obtain ⟨e, he, hc⟩ := row_sep (n := n) (a0 := a.map encP) (b := b) rfl hbs hbl (has _ (List.mem_of_getElem? (at_some h))) (has _ (List.mem_of_getElem? (at_some hnx))) hn
    rcases hc with ⟨j, rfl, y, hy, hyp⟩ | ⟨rfl, hc⟩
    · refine .inl ⟨((k + 1 : Nat) : Int), ?_, ⟨k + 1, rfl, h, fun i hi => ?_⟩, by simp; omega⟩
      · unfold F_field_Apart_L2
        rw [if_pos (by simp; omega), edge_eq n h hal, Option.bind_some, he, Option.bind_some]
        dsimp only
        rw [if_pos (by omega), if_pos (by unfold inI64; omega)]; rfl
      · rcases Nat.lt_or_ge i k with h3 | h3
        · exact hall i h3
        · have : i = k := by omega
          rw [this]
          intro hs
          have := hs y hy
          omega
    · refine .inr ⟨.inl (k : Int), ?_, .inl ⟨k, rfl, h, hc⟩⟩
      unfold F_field_Apart_L2
      rw [if_pos (by simp; omega), edge_eq n h hal, Option.bind_some, he, Option.bind_some]
  · refine .inr ⟨.inr (), ?_, .inr ⟨rfl, fun i hi => hall i (by omega)⟩⟩
    unfold F_field_Apart_L2
    rw [if_neg (by simp; omega)]
theorem l4_eq (n : Nat) (a0 a1 : List D) : F_field_Apart_L4 n a0 a1 = F_field_Apart_L2 n a1 a0 := rfl
theorem apart_spec {n : Nat} {a b : List Pt} (ha : polyE a = 0) (hb : polyE b = 0) (hn : 100 ≤ n) :
    ∃ r, F_field_Apart n (a.map encP) (b.map encP) = some r ∧ ((∃ i : Nat, r = (0, (i : Int), 0) ∧ i < a.length ∧ Sep a b i) ∨ (∃ i : Nat, r = (1, (i : Int), 0) ∧ i < b.length ∧ Sep b a i) ∨
      (r = (0, 0, 15) ∧ (∀ i, i < a.length → ¬ Sep a b i) ∧ ∀ i, i < b.length → ¬ Sep b a i)) := by
  obtain ⟨a3, a16, asm⟩ := polyE_zero ha
  obtain ⟨b3, b16, bs⟩ := polyE_zero hb
  obtain ⟨e1, h1, c1⟩ := all_sep (n := n) asm (by omega) bs (by omega) hn
  obtain ⟨e2, h2, c2⟩ := all_sep (n := n) bs (by omega) asm (by omega) hn
  unfold F_field_Apart
  rw [check_eq hn a (by omega), Option.bind_some, check_eq hn b (by omega), Option.bind_some, first2 (by omega), Option.bind_some, ha, hb, if_pos (show firstNZ [0, 0] = 0 from rfl), h1, Option.bind_some, l4_eq, h2]
  rcases c1 with ⟨i, rfl, hi, hs⟩ | ⟨rfl, hn1⟩
  · exact ⟨_, rfl, .inl ⟨i, rfl, hi, hs⟩⟩
  · rcases c2 with ⟨i, rfl, hi, hs⟩ | ⟨rfl, hn2⟩
    · exact ⟨_, rfl, .inr (.inl ⟨i, rfl, hi, hs⟩)⟩
    · exact ⟨_, rfl, .inr (.inr ⟨rfl, hn1, hn2⟩)⟩
theorem self_sep {g : List Pt} (h : PolyI g) {i : Nat} (hi : i < g.length) : ¬ Sep g g i := by
  intro hs
  obtain ⟨h3, h⟩ := h
  have hnx := nx_lt (m := g.length) (i := i) (by omega)
  -- a third corner
  obtain ⟨k, hk, h1, h2⟩ : ∃ k, k < g.length ∧ k ≠ i ∧ k ≠ nx g.length i := by
    by_cases c0 : 0 ≠ i ∧ 0 ≠ nx g.length i
    · exact ⟨0, by omega, c0.1, c0.2⟩
    · by_cases c1 : 1 ≠ i ∧ 1 ≠ nx g.length i
      · exact ⟨1, by omega, c1.1, c1.2⟩
      · exact ⟨2, by omega, by omega, by omega⟩
  have := h i k hi hk h1 h2
  have := hs _ (List.mem_of_getElem? (at_some hk))
  omega

/-- Whether a point is inside, if it is on the right of an edge, or on its line. -/
theorem holds_le {ps : List Pt} {x : Pt} : ∀ (l : List Nat) (s : Int), runL (gH ps x) id l s ≤ s ∧ ∀ i, i ∈ l → runL (gH ps x) id l s ≤ sgn (sx ps x i)
  | [], s => ⟨by simp [runL], fun i h => by cases h⟩
  | j :: l, s => by
    obtain ⟨h1, h2⟩ := holds_le (ps := ps) (x := x) l (minI s (sgn (sx ps x j)))
    have e : runL (gH ps x) id (j :: l) s = runL (gH ps x) id l (minI s (sgn (sx ps x j))) := rfl
    rw [e]
    have hm1 : minI s (sgn (sx ps x j)) ≤ s := by unfold minI; split <;> omega
    have hm2 : minI s (sgn (sx ps x j)) ≤ sgn (sx ps x j) := by unfold minI; split <;> omega
    refine ⟨by omega, fun i hi => ?_⟩
    rcases List.mem_cons.1 hi with rfl | hi
    · omega
    · exact h2 i hi
theorem holds_np {ps : List Pt} {x : Pt} {i : Nat} (hi : i < ps.length) (h : lft (at0 ps i) (at0 ps (nx ps.length i)) x ≤ 0) : holdsE ps x ≤ 0 := by
  have := (holds_le (ps := ps) (x := x) (List.range ps.length) 1).2 i (by simpa using hi)
  have hs : sgn (sx ps x i) ≤ 0 := by
    have h' : sx ps x i ≤ 0 := h
    unfold sgn
    split
    · omega
    · rw [if_neg (by omega)]; omega
  unfold holdsE
  omega
end Go.Proofs.YtbjnjffckhdhgaaGreatDoor
/-
  FieldHolds, the plain law: the hull is a polygon of the points that has all of them, it is its own hull, a corner left out is outside, and its area is that of the triangles. An own text.
-/
set_option maxRecDepth 20000
namespace Go.Proofs.YtbjnjffckhdhgaaGreatDoor
open Go.SX
open Go.Geo (lft lx srt cmpt hullOf rng Ring Poly PolyN nxt)

theorem area_loop {n : Nat} (hn : 100 ≤ n) {ps : List Pt} (hs : ∀ p, p ∈ ps → Small p) (hl : ps.length ≤ 16) : loopF (F_field_Area_L1 n (ps.map encP)) n (0, 0) = some (areaE ps) := by
  refine loopF_list0 (step := F_field_Area_L1 n (ps.map encP)) (fun (s : Int) (i : Nat) => (.inl (s + cr ps i) : Int ⊕ Int)) id (fun k s => (s, (k : Int))) (List.range ps.length) (fun k s => -562949953421312 * (k : Int) ≤ s ∧ s ≤ 562949953421312 * (k : Int))
    (fun k s x hx hi => ?_) (fun s _ => ?_) (s := 0) (by simp) (by simp; omega)
  · obtain ⟨rfl, hk⟩ := range_at hx
    have hlt : ((x : Nat) : Int) < (((ps.map encP).length : Nat) : Int) := by simp; omega
    have hm := nx_lt (m := ps.length) (i := x) (by omega)
    obtain ⟨b1, b2⟩ := cr_b (at_small hs hk) (at_small hs hm)
    dsimp only at hi ⊢
    unfold F_field_Area_L1 cr
    dsimp only
    rw [if_pos hlt, edge_eq n hk (by omega), Option.bind_some]
    dsimp only
    generalize (at0 ps x).1 * (at0 ps (nx ps.length x)).2 = u at *
    generalize (at0 ps x).2 * (at0 ps (nx ps.length x)).1 = v at *
    rw [if_pos (by unfold inI64; omega), if_pos (by unfold inI64; omega), if_pos (by unfold inI64; omega), if_pos (by unfold inI64; omega), if_pos (by unfold inI64; omega)]
    exact ⟨rfl, by omega, by omega⟩
  · unfold F_field_Area_L1
    dsimp only
    rw [if_neg (by simp)]; rfl
theorem area_eq {n : Nat} (hn : 100 ≤ n) (ps : List Pt) (hl : ps.length ≤ 65) : F_field_Area n (ps.map encP) = some (if polyE ps = 0 then (areaE ps, 0) else (0, polyE ps)) := by
  unfold F_field_Area
  rw [check_eq hn ps hl, Option.bind_some]
  by_cases h : polyE ps = 0
  · obtain ⟨_, h2, h3⟩ := polyE_zero h
    rw [if_pos h, if_pos h, area_loop hn h3 h2]; rfl
  · rw [if_neg h, if_neg h]


theorem wrap64 {m : Int} (h : inI64 m) : IntKind.wrap .i64 m = m := by
  unfold inI64 at h
  rw [IntKind.wrap_i64]; omega
theorem at_mem {g : List Pt} {i : Nat} (h : i < g.length) : at0 g i ∈ g := List.mem_of_getElem? (at_some h)
theorem mem_at {g : List Pt} {x : Pt} (h : x ∈ g) : ∃ i, i < g.length ∧ at0 g i = x := Go.Geo.mem_at0 h
theorem len_enc (g : List Pt) : (g.map encP).length = g.length := List.length_map ..

/-! The points' range. -/
def In1000 (p : Pt) : Prop := (-1000 ≤ p.1 ∧ p.1 ≤ 1000) ∧ (-1000 ≤ p.2 ∧ p.2 ≤ 1000)
theorem In1000.small {p : Pt} (h : In1000 p) : Small p := by unfold In1000 Small at *; omega
theorem range_run {n : Nat} (a : List Pt) (x : Int) (ha : a.length ≤ 12) (hn : 100 ≤ n) : loopF (F_law04_FieldHolds_L1 n (a.map encP) x) n 0 = some (.inl ()) ∨ (loopF (F_law04_FieldHolds_L1 n (a.map encP) x) n 0 = some (.inr ()) ∧ ∀ p, p ∈ a → In1000 p) := by
  have := loopF_meas (step := F_law04_FieldHolds_L1 n (a.map encP) x) (fun t => ∃ k : Nat, t = (k : Int) ∧ k ≤ a.length ∧ ∀ i, i < k → In1000 (at0 a i)) (fun t => a.length - t.toNat)
    (fun e => e = .inl () ∨ (e = .inr () ∧ ∀ p, p ∈ a → In1000 p)) (by
      rintro t ⟨k, rfl, hk, hall⟩
      rcases Nat.lt_or_ge k a.length with h | h
      · by_cases h1 : inR (at0 a k).1 (-1000) 1000 = 0
        · by_cases h2 : inR (at0 a k).2 (-1000) 1000 = 0
          · refine .inl ⟨((k + 1 : Nat) : Int), ?_, ⟨k + 1, rfl, h, fun i hi => ?_⟩, by simp; omega⟩
            · unfold F_law04_FieldHolds_L1
              rw [if_pos (by simp; omega), el_at h, Option.bind_some, range_eq, Option.bind_some, if_pos h1, range_eq, Option.bind_some, if_pos h2, if_pos (by unfold inI64; omega)]; rfl
            · rcases Nat.lt_or_ge i k with h3 | h3
              · exact hall i h3
              · have : i = k := by omega
                rw [this]
                exact ⟨inR_zero h1, inR_zero h2⟩
          · refine .inr ⟨.inl (), ?_, .inl rfl⟩
            unfold F_law04_FieldHolds_L1
            rw [if_pos (by simp; omega), el_at h, Option.bind_some, range_eq, Option.bind_some, if_pos h1, range_eq, Option.bind_some, if_neg h2]
        · refine .inr ⟨.inl (), ?_, .inl rfl⟩
          unfold F_law04_FieldHolds_L1
          rw [if_pos (by simp; omega), el_at h, Option.bind_some, range_eq, Option.bind_some, if_neg h1]
      · refine .inr ⟨.inr (), ?_, .inr ⟨rfl, fun p hp => ?_⟩⟩
        · unfold F_law04_FieldHolds_L1
          rw [if_neg (by simp; omega)]
        · obtain ⟨i, hi, e⟩ := mem_at hp
          rw [← e]; exact hall i (by omega))
    n 0 ⟨0, rfl, by omega, fun i h => by omega⟩ (by simp; omega)
  obtain ⟨e, h1, h2⟩ := this
  rcases h2 with rfl | ⟨rfl, h2⟩
  · exact .inl h1
  · exact .inr ⟨h1, h2⟩

/-! The same points. -/
theorem same_self {n : Nat} (g : List Pt) (hl : g.length ≤ 65) (hn : 100 ≤ n) : F_ref04_SamePoints n (g.map encP) (g.map encP) = some true := by
  have := loopF_meas (step := F_ref04_SamePoints_L1 n (g.map encP) (g.map encP)) (fun t => ∃ k : Nat, t = (k : Int) ∧ k ≤ g.length) (fun t => g.length - t.toNat) (fun e => e = .inr ()) (by
    rintro t ⟨k, rfl, hk⟩
    rcases Nat.lt_or_ge k g.length with h | h
    · refine .inl ⟨((k + 1 : Nat) : Int), ?_, ⟨k + 1, rfl, h⟩, by simp; omega⟩
      unfold F_ref04_SamePoints_L1
      rw [if_pos (by simp; omega), el_at h, Option.bind_some, Option.bind_some, if_pos ((eqP _ _).2 rfl), if_pos (by unfold inI64; omega)]; rfl
    · refine .inr ⟨.inr (), ?_, rfl⟩
      unfold F_ref04_SamePoints_L1
      rw [if_neg (by simp; omega)]) n 0 ⟨0, rfl, by omega⟩ (by simp; omega)
  obtain ⟨e, h1, rfl⟩ := this
  unfold F_ref04_SamePoints
  rw [if_pos rfl, h1]; rfl

/-! All points are inside, or on an edge. -/
theorem holds_ge {ps : List Pt} {x : Pt} {m : Int} : ∀ (l : List Nat) (s : Int), m ≤ s → (∀ i, i ∈ l → m ≤ sgn (sx ps x i)) → m ≤ runL (gH ps x) id l s
  | [], s, h, _ => h
  | j :: l, s, h, hl => by
    have e : runL (gH ps x) id (j :: l) s = runL (gH ps x) id l (minI s (sgn (sx ps x j))) := rfl
    rw [e]
    refine holds_ge l _ ?_ fun i hi => hl i (List.mem_cons_of_mem _ hi)
    have := hl j (by simp)
    unfold minI; split <;> omega
theorem holds_nn {ps : List Pt} {x : Pt} (h : ∀ i, i < ps.length → 0 ≤ lft (at0 ps i) (at0 ps (nx ps.length i)) x) : 0 ≤ holdsE ps x := by
  unfold holdsE
  refine holds_ge _ 1 (by omega) fun i hi => ?_
  have h' : 0 ≤ sx ps x i := h i (by simpa using hi)
  unfold sgn
  rw [if_neg (by omega)]
  split <;> omega
theorem holds_neg {ps : List Pt} {x : Pt} {i : Nat} (hi : i < ps.length) (h : lft (at0 ps i) (at0 ps (nx ps.length i)) x < 0) : holdsE ps x = -1 := by
  have h1 := (holds_le (ps := ps) (x := x) (List.range ps.length) 1).2 i (by simpa using hi)
  have h2 : sgn (sx ps x i) = -1 := sgn_neg h
  have h3 : -1 ≤ runL (gH ps x) id (List.range ps.length) 1 := holds_ge _ 1 (by omega) fun j _ => by
    unfold sgn
    split
    · omega
    · split <;> omega
  unfold holdsE
  omega
theorem inside_run {n : Nat} {l g : List Pt} (hg : polyE g = 0) (hl : l.length ≤ 12) (a e : Int) (hs : ∀ p, p ∈ l → Small p) (hh : ∀ p, p ∈ l → 0 ≤ holdsE g p) (hn : 100 ≤ n) :
    loopF (F_law04_FieldHolds_L2 n (l.map encP) a (g.map encP, e)) n 0 = some () := by
  obtain ⟨g3, g16, gs⟩ := polyE_zero hg
  have := loopF_meas (step := F_law04_FieldHolds_L2 n (l.map encP) a (g.map encP, e)) (fun t => ∃ k : Nat, t = (k : Int) ∧ k ≤ l.length) (fun t => l.length - t.toNat) (fun _ => True) (by
    rintro t ⟨k, rfl, hk⟩
    rcases Nat.lt_or_ge k l.length with h | h
    · refine .inl ⟨((k + 1 : Nat) : Int), ?_, ⟨k + 1, rfl, h⟩, by simp; omega⟩
      have hx := hs _ (at_mem h)
      have hholds := holds_eq (n := n) (by omega) g (by omega) (at0 l k)
      rw [hg, ptE_small hx, if_pos (show firstNZ [0, 0] = 0 from rfl)] at hholds
      have := hh _ (at_mem h)
      unfold F_law04_FieldHolds_L2
      dsimp only
      rw [if_pos (by simp; omega), el_at h, Option.bind_some, points_eq n (by rw [len_enc]; omega), Option.bind_some, hholds, Option.bind_some]
      dsimp only
      rw [if_pos rfl, if_neg (by omega), if_pos (by unfold inI64; omega)]; rfl
    · refine .inr ⟨(), ?_, trivial⟩
      unfold F_law04_FieldHolds_L2
      dsimp only
      rw [if_neg (by simp; omega)]) n 0 ⟨0, rfl, by omega⟩ (by simp; omega)
  obtain ⟨r, h1, _⟩ := this
  exact h1

/-! The corners are among the points, and the first one is the least. -/
theorem found_run {n : Nat} {l : List Pt} (hl : l.length ≤ 12) (a : Int) (t7 : List D × Int) (sa : Int) {c : Pt} (hc : c ∈ l) (hn : 100 ≤ n) :
    loopF (F_law04_FieldHolds_L4 n (l.map encP) a t7 sa c) n (false, 0) = some true := by
  have := loopF_meas (step := F_law04_FieldHolds_L4 n (l.map encP) a t7 sa c) (fun t => ∃ k : Nat, t.2 = (k : Int) ∧ k ≤ l.length ∧ (t.1 = true ∨ ∀ i, i < k → at0 l i ≠ c)) (fun t => l.length - t.2.toNat) (fun e => e = true) (by
    rintro ⟨b, t⟩ ⟨k, rfl, hk, hall⟩
    rcases Nat.lt_or_ge k l.length with h | h
    · cases b with
      | true =>
        refine .inl ⟨(true, ((k + 1 : Nat) : Int)), ?_, ⟨k + 1, rfl, h, .inl rfl⟩, by simp; omega⟩
        unfold F_law04_FieldHolds_L4
        dsimp only
        rw [if_pos (by simp; omega), el_at h, Option.bind_some, if_pos rfl, if_pos (by unfold inI64; omega)]; rfl
      | false =>
        refine .inl ⟨((((at0 l k).1 == c.1) && (((at0 l k).2 == c.2) && true)), ((k + 1 : Nat) : Int)), ?_, ⟨k + 1, rfl, h, ?_⟩, by simp; omega⟩
        · unfold F_law04_FieldHolds_L4
          dsimp only
          rw [if_pos (by simp; omega), el_at h, Option.bind_some, if_neg (by simp), if_pos (by unfold inI64; omega)]; rfl
        · by_cases he : at0 l k = c
          · exact .inl ((eqP _ _).2 he)
          · refine .inr fun i hi => ?_
            rcases hall with hall | hall
            · cases hall
            · rcases Nat.lt_or_ge i k with h3 | h3
              · exact hall i h3
              · have : i = k := by omega
                rw [this]; exact he
    · refine .inr ⟨b, ?_, ?_⟩
      · unfold F_law04_FieldHolds_L4
        dsimp only
        rw [if_neg (by simp; omega)]
      · rcases hall with hall | hall
        · exact hall
        · obtain ⟨i, hi, e⟩ := mem_at hc
          exact absurd e (hall i (by omega))) n (false, 0) ⟨0, rfl, by omega, .inr fun i h => by omega⟩ (by simp; omega)
  obtain ⟨e, h1, rfl⟩ := this
  exact h1
theorem corners_run {n : Nat} {l g : List Pt} (hl : l.length ≤ 12) (hg : g.length ≤ 16) (a e : Int) (hm : ∀ c, c ∈ g → c ∈ l) (h0 : ∀ c, c ∈ g → c = at0 g 0 ∨ lx (at0 g 0) c) (hn : 100 ≤ n) :
    loopF (F_law04_FieldHolds_L5 n (l.map encP) a (g.map encP, e)) n 0 = some () := by
  have := loopF_meas (step := F_law04_FieldHolds_L5 n (l.map encP) a (g.map encP, e)) (fun t => ∃ k : Nat, t = (k : Int) ∧ k ≤ g.length) (fun t => g.length - t.toNat) (fun _ => True) (by
    rintro t ⟨k, rfl, hk⟩
    rcases Nat.lt_or_ge k g.length with h | h
    · refine .inl ⟨((k + 1 : Nat) : Int), ?_, ⟨k + 1, rfl, h⟩, by simp; omega⟩
      have hf := found_run (n := n) hl a (g.map encP, e) (k : Int) (hm _ (at_mem h)) hn
      have hz : el un_Ai2Z (g.map encP) 0 = some (at0 g 0) := el_at (i := 0) (by omega)
      have hc := h0 _ (at_mem h)
      have hc1 : ¬ (at0 g k).1 < (at0 g 0).1 := by
        rcases hc with hc | hc
        · rw [hc]; omega
        · unfold lx at hc; omega
      unfold F_law04_FieldHolds_L5
      dsimp only
      rw [if_pos (by simp; omega), el_at h, Option.bind_some, hf, Option.bind_some, if_pos rfl, hz, Option.bind_some, if_neg hc1]
      by_cases he : (at0 g k).1 = (at0 g 0).1
      · have hc2 : ¬ (at0 g k).2 < (at0 g 0).2 := by
          rcases hc with hc | hc
          · rw [hc]; omega
          · unfold lx at hc; omega
        rw [if_pos he, if_neg hc2, if_pos (by unfold inI64; omega)]; rfl
      · rw [if_neg he, if_pos (by unfold inI64; omega)]; rfl
    · refine .inr ⟨(), ?_, trivial⟩
      unfold F_law04_FieldHolds_L5
      dsimp only
      rw [if_neg (by simp; omega)]) n 0 ⟨0, rfl, by omega⟩ (by simp; omega)
  obtain ⟨r, h1, _⟩ := this
  exact h1

/-! All points on one line. -/
theorem line_run {n : Nat} {l : List Pt} (hl : l.length ≤ 12) (h0 : 0 < l.length) (hs : ∀ p, p ∈ l → Small p) (hc : ∀ p q r, p ∈ l → q ∈ l → r ∈ l → lft p q r = 0) (hn : 100 ≤ n) :
    loopF (F_law04_FieldHolds_L9 n (l.map encP)) n 0 = some () := by
  have hz : el un_Ai2Z (l.map encP) 0 = some (at0 l 0) := el_at (i := 0) h0
  have row : ∀ (sa : Int) (q : Pt), q ∈ l → loopF (F_law04_FieldHolds_L8 n (l.map encP) sa q) n 0 = some () := by
    intro sa q hq
    have := loopF_meas (step := F_law04_FieldHolds_L8 n (l.map encP) sa q) (fun t => ∃ k : Nat, t = (k : Int) ∧ k ≤ l.length) (fun t => l.length - t.toNat) (fun _ => True) (by
      rintro t ⟨k, rfl, hk⟩
      rcases Nat.lt_or_ge k l.length with h | h
      · refine .inl ⟨((k + 1 : Nat) : Int), ?_, ⟨k + 1, rfl, h⟩, by simp; omega⟩
        have hside : F_ref04_Side n (at0 l 0).1 (at0 l 0).2 q.1 q.2 (at0 l k).1 (at0 l k).2 = some (lft (at0 l 0) q (at0 l k)) := refSide_eq n (hs _ (at_mem h0)) (hs _ hq) (hs _ (at_mem h))
        unfold F_law04_FieldHolds_L8
        rw [if_pos (by simp; omega), el_at h, Option.bind_some, hz, Option.bind_some, hside, Option.bind_some, if_pos (hc _ _ _ (at_mem h0) hq (at_mem h)), if_pos (by unfold inI64; omega)]; rfl
      · refine .inr ⟨(), ?_, trivial⟩
        unfold F_law04_FieldHolds_L8
        rw [if_neg (by simp; omega)]) n 0 ⟨0, rfl, by omega⟩ (by simp; omega)
    obtain ⟨r, h1, _⟩ := this
    exact h1
  have := loopF_meas (step := F_law04_FieldHolds_L9 n (l.map encP)) (fun t => ∃ k : Nat, t = (k : Int) ∧ k ≤ l.length) (fun t => l.length - t.toNat) (fun _ => True) (by
    rintro t ⟨k, rfl, hk⟩
    rcases Nat.lt_or_ge k l.length with h | h
    · refine .inl ⟨((k + 1 : Nat) : Int), ?_, ⟨k + 1, rfl, h⟩, by simp; omega⟩
      unfold F_law04_FieldHolds_L9
      rw [if_pos (by simp; omega), el_at h, Option.bind_some, row _ _ (at_mem h), Option.bind_some, if_pos (by unfold inI64; omega)]; rfl
    · refine .inr ⟨(), ?_, trivial⟩
      unfold F_law04_FieldHolds_L9
      rw [if_neg (by simp; omega)]) n 0 ⟨0, rfl, by omega⟩ (by simp; omega)
  obtain ⟨r, h1, _⟩ := this
  exact h1
end Go.Proofs.YtbjnjffckhdhgaaGreatDoor
/-
  FieldHolds, the plain law, second part: the area, the corner that is left out, and all together. An own text.
-/
set_option maxRecDepth 20000
namespace Go.Proofs.YtbjnjffckhdhgaaGreatDoor
open Go.SX
open Go.Geo (lft lx srt cmpt hullOf rng Ring Poly PolyN nxt)

/-! The area. -/
def c2 (p q : Pt) : Int := p.1 * q.2 - p.2 * q.1
theorem nx_nxt {m i : Nat} (h : i < m) : nx m i = nxt m i := by
  unfold nx nxt
  by_cases e : i + 1 = m
  · rw [if_pos e, e, Nat.mod_self]
  · rw [if_neg e, Nat.mod_eq_of_lt (by omega)]
def areaTo (g : List Pt) (i : Nat) : Int := runL (fun (s : Int) (i : Nat) => (.inl (s + cr g i) : Int ⊕ Int)) id (List.range i) 0
theorem areaTo_succ (g : List Pt) (i : Nat) : areaTo g (i + 1) = areaTo g i + cr g i := by
  unfold areaTo
  rw [runL_fold, runL_fold, List.range_succ, List.foldl_append]; rfl
theorem cr_c2 {g : List Pt} {i : Nat} (h : i < g.length) : cr g i = c2 (at0 g i) (at0 g (nxt g.length i)) := by
  unfold cr c2
  rw [nx_nxt h]
theorem tri_poly {p q r : Pt} (h : 0 < lft p q r) : PolyI [p, q, r] := by
  refine ⟨by simp, fun i k hi hk h1 h2 => ?_⟩
  simp only [List.length_cons, List.length_nil, Nat.zero_add] at hi hk
  have hc : (i = 0 ∧ k = 2) ∨ (i = 1 ∧ k = 0) ∨ (i = 2 ∧ k = 1) := by
    unfold nx at h2
    simp only [List.length_cons, List.length_nil, Nat.zero_add] at h2
    rcases (show i = 0 ∨ i = 1 ∨ i = 2 by omega) with rfl | rfl | rfl <;> simp at h2 <;> omega
  rcases hc with ⟨rfl, rfl⟩ | ⟨rfl, rfl⟩ | ⟨rfl, rfl⟩
  · exact h
  · rw [show nx [p, q, r].length 1 = 2 from by simp [nx]]
    show 0 < lft q r p
    rw [← Go.Geo.lft_cyc]; exact h
  · rw [show nx [p, q, r].length 2 = 0 from by simp [nx]]
    show 0 < lft r p q
    rw [← Go.Geo.lft_cyc2]; exact h
theorem tri_area {n : Nat} {p q r : Pt} (hp : Small p) (hq : Small q) (hr : Small r) (h : 0 < lft p q r) (hn : 100 ≤ n) : F_field_Area n [.agg [I p.1, I p.2], .agg [I q.1, I q.2], .agg [I r.1, I r.2]] = some (lft p q r, 0) := by
  have hs : ∀ x, x ∈ [p, q, r] → Small x := by
    intro x hx
    simp only [List.mem_cons, List.not_mem_nil, or_false] at hx
    rcases hx with rfl | rfl | rfl
    · exact hp
    · exact hq
    · exact hr
  have := area_eq (n := n) (by omega) [p, q, r] (by simp)
  rw [polyE_of (tri_poly h) hs (by simp), if_pos rfl] at this
  have e : areaE [p, q, r] = lft p q r := by
    have e1 : areaE [p, q, r] = ((0 + c2 p q) + c2 q r) + c2 r p := by
      unfold areaE
      rw [show List.range [p, q, r].length = [0, 1, 2] from rfl]
      simp only [runL, id]
      unfold cr c2
      rw [show nx [p, q, r].length 0 = 1 from by simp [nx], show nx [p, q, r].length 1 = 2 from by simp [nx], show nx [p, q, r].length 2 = 0 from by simp [nx]]
      rfl
    rw [e1]
    unfold c2 lft; grind
  rw [e] at this
  exact this
theorem fan_pos {g : List Pt} (h : PolyI g) {k : Nat} (h1 : 1 ≤ k) (h2 : k + 1 < g.length) : 0 < lft (at0 g 0) (at0 g k) (at0 g (k + 1)) := by
  have e : nx g.length k = k + 1 := by rw [nx_nxt (by omega)]; unfold nxt; rw [if_neg (by omega)]
  have := h.2 k 0 (by omega) (by omega) (by omega) (by omega)
  rw [e] at this
  rw [Go.Geo.lft_cyc]; exact this
theorem lft_bd {p q r : Pt} (hp : In1000 p) (hq : In1000 q) (hr : In1000 r) : lft p q r ≤ 8000000 := by
  unfold In1000 at hp hq hr
  have h1 := mul_pq (g := q.1 - p.1) (c := r.2 - p.2) (p := 2000) (q := 2000) (by omega) (by omega) (by omega) (by omega)
  have h2 := mul_pq (g := q.2 - p.2) (c := r.1 - p.1) (p := 2000) (q := 2000) (by omega) (by omega) (by omega) (by omega)
  unfold lft
  generalize (q.1 - p.1) * (r.2 - p.2) = x at *
  generalize (q.2 - p.2) * (r.1 - p.1) = y at *
  omega
theorem area_run {n : Nat} {g : List Pt} (hp : PolyI g) (hb : ∀ p, p ∈ g → In1000 p) (hl : g.length ≤ 16) (a e : Int) (t28 : Int × Int) (hn : 100 ≤ n) :
    loopF (F_law04_FieldHolds_L10 n a (g.map encP, e) t28) n (0, 1) = some (areaE g) := by
  have h3 := hp.1
  have := loopF_meas (step := F_law04_FieldHolds_L10 n a (g.map encP, e) t28) (fun t => ∃ k : Nat, t.2 = (k : Int) ∧ 1 ≤ k ∧ k + 1 ≤ g.length ∧ t.1 = areaTo g k + c2 (at0 g k) (at0 g 0) ∧ 0 ≤ t.1 ∧ t.1 ≤ 8000000 * (k : Int)) (fun t => g.length - t.2.toNat) (fun v => v = areaE g) (by
    rintro ⟨s, t⟩ ⟨k, rfl, hk1, hk2, hs, hs0, hs1⟩
    dsimp only at hs hs0 hs1
    have ez : el un_Ai2Z (g.map encP) 0 = some (at0 g 0) := el_at (i := 0) (by omega)
    have e1 : ((k : Int) + 1) = ((k + 1 : Nat) : Int) := rfl
    by_cases h : k + 1 < g.length
    · have hpos := fan_pos hp hk1 h
      have hbd := lft_bd (hb _ (at_mem (g := g) (i := 0) (by omega))) (hb _ (at_mem (g := g) (i := k) (by omega))) (hb _ (at_mem h))
      have ht := tri_area (n := n) (hb _ (at_mem (g := g) (i := 0) (by omega))).small (hb _ (at_mem (g := g) (i := k) (by omega))).small (hb _ (at_mem h)).small hpos hn
      refine .inl ⟨(s + lft (at0 g 0) (at0 g k) (at0 g (k + 1)), ((k + 1 : Nat) : Int)), ?_, ⟨k + 1, rfl, by omega, by omega, ?_, by dsimp only; omega, by dsimp only; omega⟩, by simp; omega⟩
      · unfold F_law04_FieldHolds_L10
        dsimp only
        rw [if_pos (by unfold inI64; omega), if_pos (by rw [len_enc]; omega), ez, Option.bind_some, el_at (i := k) (by omega), Option.bind_some, e1, el_at h, Option.bind_some, ht, Option.bind_some]
        dsimp only
        rw [if_pos rfl, if_neg (by omega), if_pos (by unfold inI64; omega)]
      · dsimp only
        rw [areaTo_succ, cr_c2 (by omega), hs, show nxt g.length k = k + 1 by unfold nxt; rw [if_neg (by omega)]]
        unfold lft c2; grind
    · refine .inr ⟨s, ?_, ?_⟩
      · unfold F_law04_FieldHolds_L10
        dsimp only
        rw [if_pos (by unfold inI64; omega), if_neg (by rw [len_enc]; omega)]
      · have hkl : k + 1 = g.length := by omega
        have e2 : areaE g = areaTo g (k + 1) := by rw [hkl]; rfl
        rw [e2, areaTo_succ, cr_c2 (by omega), hs, show nxt g.length k = 0 by unfold nxt; rw [if_pos hkl]]) n (0, 1) ⟨1, rfl, by omega, by omega, by
      dsimp only
      have e0 : areaTo g 1 = areaTo g 0 + cr g 0 := areaTo_succ g 0
      have e00 : areaTo g 0 = 0 := rfl
      rw [e0, e00, cr_c2 (by omega), show nxt g.length 0 = 1 by unfold nxt; rw [if_neg (by omega)]]
      unfold c2; grind, by dsimp only; omega, by dsimp only; omega⟩ (by simp; omega)
  obtain ⟨r, h1, rfl⟩ := this
  exact h1

/-! A corner is left out. -/
def less (g : List Pt) (i : Nat) : List Pt := g.take i ++ g.drop (i + 1)
theorem less_len {g : List Pt} {i : Nat} (h : i < g.length) : (less g i).length = g.length - 1 := by
  unfold less
  rw [List.length_append, List.length_take, List.length_drop]; omega
theorem less_at {g : List Pt} {i j : Nat} (h : i < g.length) : at0 (less g i) j = at0 g (Go.Geo.skip i j) := by
  unfold at0 less Go.Geo.skip
  rw [List.getD_eq_getElem?_getD, List.getD_eq_getElem?_getD]
  have hl : (g.take i).length = i := by rw [List.length_take]; omega
  by_cases hj : j < i
  · rw [if_pos hj, List.getElem?_append_left (by omega), List.getElem?_take, if_pos hj]
  · rw [if_neg hj, List.getElem?_append_right (by omega), hl, List.getElem?_drop]
    congr 2; omega
theorem PolyI.n {g : List Pt} (h : PolyI g) : PolyN (at0 g) g.length := by
  intro i k hi hk h1 h2
  rw [← nx_nxt hi] at h2 ⊢
  exact h.2 i k hi hk h1 h2
theorem less_poly {g : List Pt} (h : PolyI g) (h4 : 3 < g.length) {i : Nat} (hi : i < g.length) : PolyI (less g i) ∧ ∃ j, j < (less g i).length ∧ lft (at0 (less g i) j) (at0 (less g i) (nx (less g i).length j)) (at0 g i) < 0 := by
  obtain ⟨p1, j, hj, p2⟩ := PolyN.skip h.n (by omega) hi
  have hl := less_len hi
  constructor
  · refine ⟨by omega, fun a b ha hb h1 h2 => ?_⟩
    have hn := nx_lt (m := (less g i).length) (i := a) (by omega)
    rw [less_at hi, less_at hi, less_at hi, nx_nxt ha, hl]
    rw [nx_nxt ha, hl] at h2
    exact p1 a b (by omega) (by omega) h1 h2
  · refine ⟨j, by omega, ?_⟩
    rw [less_at hi, less_at hi, nx_nxt (by omega), hl]
    exact p2
theorem less_holds {n : Nat} {g : List Pt} (h : PolyI g) (h4 : 3 < g.length) (hl : g.length ≤ 16) (hs : ∀ p, p ∈ g → Small p) {i : Nat} (hi : i < g.length) (hn : 100 ≤ n) :
    F_field_Holds n ((less g i).map encP) (at0 g i).1 (at0 g i).2 = some (-1, 0) := by
  obtain ⟨p1, j, hj, p2⟩ := less_poly h h4 hi
  have hls : ∀ p, p ∈ less g i → Small p := by
    intro p hp
    unfold less at hp
    rcases List.mem_append.1 hp with hp | hp
    · exact hs p (List.mem_of_mem_take hp)
    · exact hs p (List.mem_of_mem_drop hp)
  have hlen := less_len hi
  have := holds_eq (n := n) (by omega) (less g i) (by omega) (at0 g i)
  rw [polyE_of p1 hls (by omega), ptE_small (hs _ (at_mem hi)), if_pos (show firstNZ [0, 0] = 0 from rfl), holds_neg hj p2] at this
  exact this

/-! All together. -/
theorem rot_hull {l : List Pt} (k : Nat) : hullP (l.drop k ++ l.take k) = hullP l := by
  unfold hullP
  obtain ⟨a1, a2, _⟩ := Go.Geo.cmpt_ok l
  obtain ⟨b1, b2, _⟩ := Go.Geo.cmpt_ok (l.drop k ++ l.take k)
  rw [Go.Geo.lx_unique b1 a1 fun x => ?_]
  rw [a2, b2, List.mem_append]
  constructor
  · rintro (h | h)
    · exact List.mem_of_mem_drop h
    · exact List.mem_of_mem_take h
  · intro h
    rw [← List.take_append_drop k l, List.mem_append] at h
    exact h.symm
theorem hull_hull {l : List Pt} (hne : l ≠ []) (hl : l.length ≤ 12) (h3 : ¬ (hullP l).length < 3) : hullP (hullP l) = hullP l := by
  obtain ⟨k1, k2, _, k4⟩ := Go.Geo.cmpt_ok l
  obtain ⟨g1, g2, _⟩ := Go.Geo.cmpt_ok (hullP l)
  obtain ⟨_, hm, _, _⟩ := hull_facts hne hl h3
  exact Go.Geo.hull_again k1 g1 (k4 hne) (Nat.le_of_not_lt h3) g2 (fun x hx => (k2 x).2 (hm x hx))

theorem law_FieldHolds (l : List Pt) (a : Int) (ha : 0 ≤ a ∧ a ≤ 255) : F_law04_FieldHolds 1000 (l.map encP) a = some true := by
  have ll : ((l.map encP).length : Int) = l.length := by simp
  have hw : IntKind.wrap .i64 a = ((a.toNat : Nat) : Int) := by rw [wrap64 (by unfold inI64; omega)]; omega
  unfold F_law04_FieldHolds
  rw [ll, hw, show F_law04_awake 1000 = some true from rfl, Option.bind_some, if_pos rfl]
  by_cases c1 : (l.length : Int) < 3
  · rw [if_pos c1]
  rw [if_neg c1]
  by_cases c2' : (l.length : Int) > 12
  · rw [if_pos c2']
  rw [if_neg c2']
  rcases range_run (n := 1000) l a (by omega) (by omega) with h1 | ⟨h1, hr⟩
  · rw [h1]; rfl
  rw [h1, Option.bind_some]
  dsimp only
  have hne : l ≠ [] := by intro e; rw [e] at c1; simp at c1
  have hsm : ∀ p, p ∈ l → Small p := fun p hp => (hr p hp).small
  have hmod : Int.tmod ((a.toNat : Nat) : Int) (l.length : Int) = ((a.toNat % l.length : Nat) : Int) := by rw [Int.ofNat_tmod]
  have hk : a.toNat % l.length < l.length := Nat.mod_lt _ (by omega)
  obtain ⟨k, hke⟩ : ∃ k, k = a.toNat % l.length := ⟨_, rfl⟩
  rw [hmod, ← hke]
  rw [← hke] at hk
  simp only [Int.toNat_natCast]
  have e1 : ((l.map encP).take l.length).drop k = (l.drop k).map encP := by rw [List.take_of_length_le (by simp), List.map_drop]
  have e2 : ((l.map encP).take k).drop (Int.toNat 0) = (l.take k).map encP := by simp [List.map_take]
  have e3 : isNilL ((l.drop k).map encP) = false := by
    cases h : l.drop k with
    | nil => rw [List.drop_eq_nil_iff] at h; omega
    | cons x r => rfl
  have e4 : (l.drop k).map encP ++ (l.take k).map encP = (l.drop k ++ l.take k).map encP := by simp
  rw [points_eq 1000 (by rw [len_enc]; omega), Option.bind_some, hull_eq (by omega) hne (by omega) hsm, Option.bind_some, e1, e2, len_enc, len_enc, e4,
    hull_eq (l := l.drop k ++ l.take k) (by omega) (by
      intro e
      have := congrArg List.length e
      simp at this; omega) (by simp; omega) (fun p hp => by
      rcases List.mem_append.1 hp with hp | hp
      · exact hsm p (List.mem_of_mem_drop hp)
      · exact hsm p (List.mem_of_mem_take hp)), rot_hull,
    if_pos (by omega), if_pos ⟨by omega, by omega, by omega, .inr trivial⟩, if_pos (by unfold roomP; rw [List.length_drop]; omega), if_neg (by rw [e3]; simp), if_pos ⟨by omega, by omega, by omega, .inr trivial⟩, if_pos (by unfold roomP; rw [List.length_drop, List.length_take]; omega), Option.bind_some, if_pos rfl]
  by_cases d1 : (hullP l).length < 3
  · -- on one line
    obtain ⟨k1, k2, _, k4⟩ := Go.Geo.cmpt_ok l
    have hline := Go.Geo.hull_line k1 (k4 hne) d1
    rw [if_pos d1]
    have hsame : F_ref04_SamePoints 1000 ([] : List D) [] = some true := same_self (n := 1000) [] (by simp) (by omega)
    dsimp only
    rw [hsame, Option.bind_some, if_pos rfl, if_neg (by omega), if_pos rfl,
      line_run (by omega) (by omega) hsm (fun p q r hp hq hr => hline p q r ((k2 p).2 hp) ((k2 q).2 hq) ((k2 r).2 hr)) (by omega)]
    rfl
  rw [if_neg d1]
  obtain ⟨gr, gm, gl, gp⟩ := hull_facts hne (by omega) d1
  have hagain := hull_hull hne (by omega) d1
  have gb : ∀ p, p ∈ hullP l → In1000 p := fun p hp => hr p (gm p hp)
  have ge : polyE (hullP l) = 0 := polyE_of gp (fun p hp => (gb p hp).small) (by omega)
  obtain ⟨k1, k2, _, k4⟩ := Go.Geo.cmpt_ok l
  have hin : ∀ p, p ∈ l → 0 ≤ holdsE (hullP l) p := by
    intro p hp
    refine holds_nn fun i hi => ?_
    have := gr.weak i hi p ((k2 p).2 hp)
    rwa [rng_at hi, rng_nx hi] at this
  have h0 : ∀ c, c ∈ hullP l → c = at0 (hullP l) 0 ∨ lx (at0 (hullP l) 0) c := by
    intro c hc
    have := gr.mn c ((k2 c).2 (gm c hc))
    rwa [rng_at (by omega)] at this
  have gne : hullP l ≠ [] := by intro e; rw [e] at d1; simp at d1
  have hullg := hull_eq (n := 1000) (by omega) gne (by omega) (fun p hp => (gb p hp).small)
  rw [hagain, if_neg d1] at hullg
  generalize hullP l = g at *
  have hmod2 : Int.tmod ((a.toNat : Nat) : Int) (g.length : Int) = ((a.toNat % g.length : Nat) : Int) := by rw [Int.ofNat_tmod]
  have hareaq := area_eq (n := 1000) (by omega) g (by omega)
  rw [ge, if_pos rfl] at hareaq
  have hsame := same_self (n := 1000) g (by omega) (by omega)
  dsimp only
  rw [hsame, Option.bind_some, if_pos rfl, if_pos rfl, len_enc, if_neg (by omega), refCheck_eq (by omega) g (by omega), Option.bind_some, if_pos ge, points_eq 1000 (by rw [len_enc]; omega), Option.bind_some, check_eq (by omega) g (by omega), Option.bind_some, if_pos ge,
    inside_run ge (by omega) a 0 hsm hin (by omega), Option.bind_some, corners_run (by omega) (by omega) a 0 gm h0 (by omega), Option.bind_some, hullg, Option.bind_some, hareaq, Option.bind_some]
  dsimp only
  rw [if_pos rfl, if_pos rfl, hsame, Option.bind_some, if_pos rfl, area_run gp gb (by omega) a 0 _ (by omega), Option.bind_some, if_pos rfl]
  by_cases h4 : (g.length : Int) > 3
  · rw [if_pos h4, if_pos (by omega), hmod2]
    have hi : a.toNat % g.length < g.length := Nat.mod_lt _ (by omega)
    generalize a.toNat % g.length = i at *
    simp only [Int.toNat_natCast]
    have hh := less_holds (n := 1000) gp (by omega) (by omega) (fun p hp => (gb p hp).small) hi (by omega)
    have q1 : ((g.map encP).take i).drop (Int.toNat 0) = (g.take i).map encP := by simp [List.map_take]
    have q2 : ((g.map encP).take g.length).drop (Int.toNat ((i : Int) + 1)) = (g.drop (i + 1)).map encP := by
      rw [List.take_of_length_le (by simp), show Int.toNat ((i : Int) + 1) = i + 1 by omega, List.map_drop]
    have q3 : (g.take i).map encP ++ (g.drop (i + 1)).map encP = (less g i).map encP := by unfold less; simp
    have q4 : isNilL ((g.drop (i + 1)).map encP) = true → g.drop (i + 1) = [] := by
      intro h
      cases hd : g.drop (i + 1) with
      | nil => rfl
      | cons x r => rw [hd] at h; cases h
    rw [if_pos ⟨by omega, by omega, by omega, .inr trivial⟩, q1, q2, len_enc, len_enc, if_pos (by unfold roomP; rw [List.length_take]; omega)]
    by_cases hi0 : i = 0
    · subst hi0
      have hnil : isNilL ((g.take 0).map encP) = true := rfl
      rw [if_pos hnil, if_pos (by unfold inI64; omega), if_pos ⟨by omega, by omega, by omega, .inr trivial⟩, if_pos (by unfold roomP; rw [List.length_drop]; omega), if_neg (by
        intro h
        have := q4 h
        rw [List.drop_eq_nil_iff] at this
        omega), el_at hi, Option.bind_some]
      have q5 : (g.drop (0 + 1)).map encP = (less g 0).map encP := by unfold less; simp
      rw [q5, hh, Option.bind_some, if_pos rfl, if_pos rfl]
    · have hnil : ¬ isNilL ((g.take i).map encP) = true := by
        intro h
        cases hd : g.take i with
        | nil =>
          rw [List.take_eq_nil_iff] at hd
          rcases hd with hd | hd
          · exact hi0 hd
          · rw [hd] at hi; simp at hi
        | cons x r => rw [hd] at h; cases h
      rw [if_neg hnil, if_pos (by unfold inI64; omega), if_pos ⟨by omega, by omega, by omega, .inr trivial⟩, if_pos (by unfold roomP; rw [List.length_drop, List.length_take]; omega), el_at hi, Option.bind_some, q3, hh, Option.bind_some, if_pos rfl, if_pos rfl]
  · rw [if_neg h4]
end Go.Proofs.YtbjnjffckhdhgaaGreatDoor
