/- Plain: rings that are there, and rings that are not. -/
import Derived.Test.YtfpkeanimkgpaaaW6
namespace Go.Proofs.Ytfpkeanimkgpaaa.L
open Go Go.Proofs
set_option linter.unusedSimpArgs false
set_option linter.unusedVariables false

theorem adjF_swp {l : List P2} {x y : Int} : y ∈ adjF (l.map P2.swp) x ↔ ⟨y, x⟩ ∈ l := by
  rw [adjF_mem]
  constructor
  · intro h
    obtain ⟨e, he, hs⟩ := List.mem_map.1 h
    have h1 : e.b = x := congrArg P2.a hs
    have h2 : e.a = y := congrArg P2.b hs
    have : e = ⟨y, x⟩ := by cases e; simp_all
    rw [← this]; exact he
  · intro h
    exact List.mem_map.2 ⟨⟨y, x⟩, h, rfl⟩
theorem Reach.trans {f : Int → List Int} {x y z : Int} (h1 : Reach f x y) (h2 : Reach f y z) : Reach f x z := by
  induction h2 with
  | one h => exact .more h1 h
  | more _ h ih => exact .more ih h
/-- An edge always raises the rank: nobody is in a ring. -/
theorem reach_rank {l : List P2} {rk : Int → Int} (h : ∀ e ∈ l, rk e.a < rk e.b) {x y : Int} (hr : Reach (adjF l) x y) : rk x < rk y := by
  induction hr with
  | one h1 => exact h _ (adjF_mem.1 h1)
  | more _ h1 ih => exact Int.lt_trans ih (h _ (adjF_mem.1 h1))
theorem reach_back {l : List P2} {x y : Int} (hr : Reach (adjF (l.map P2.swp)) x y) : Reach (adjF l) y x := by
  induction hr with
  | one h1 => exact .one (adjF_mem.2 (adjF_swp.1 h1))
  | more _ h1 ih => exact Reach.trans (.one (adjF_mem.2 (adjF_swp.1 h1))) ih
theorem reach_fore {l : List P2} {x y : Int} (hr : Reach (adjF l) y x) : Reach (adjF (l.map P2.swp)) x y := by
  induction hr with
  | one h1 => exact .one (adjF_swp.2 (adjF_mem.1 h1))
  | more _ h1 ih => exact Reach.trans (.one (adjF_swp.2 (adjF_mem.1 h1))) ih
theorem ring_mem {l : List P2} {who : Int} {R : List Int} (h : RingOf l who R) {x : Int} : x ∈ R ↔ Reach (adjF l) who x ∧ Reach (adjF l) x who := by
  rw [h.mem]
  exact ⟨fun ⟨h1, h2⟩ => ⟨h1, reach_back h2⟩, fun ⟨h1, h2⟩ => ⟨h1, reach_fore h2⟩⟩
theorem ring_none {l : List P2} {rk : Int → Int} (h : ∀ e ∈ l, rk e.a < rk e.b) {who : Int} {R : List Int} (hR : RingOf l who R) : R = [] := by
  cases R with
  | nil => rfl
  | cons x t =>
    obtain ⟨h1, h2⟩ := (ring_mem hR).1 List.mem_cons_self
    have := reach_rank h h1
    have := reach_rank h h2
    omega
/-- The numbers below n. -/
def upto (n : Nat) : List Int := (List.range n).map fun (j : Nat) => (j : Int)
theorem upto_mem {n : Nat} {x : Int} : x ∈ upto n ↔ 0 ≤ x ∧ x < n := by
  unfold upto
  rw [List.mem_map]
  constructor
  · rintro ⟨j, hj, rfl⟩
    have := List.mem_range.1 hj
    omega
  · intro ⟨h0, h1⟩
    exact ⟨x.toNat, List.mem_range.2 (by omega), by omega⟩
theorem upto_up (n : Nat) : (upto n).Pairwise (· < ·) := by
  unfold upto
  rw [List.pairwise_map]
  exact List.pairwise_lt_range.imp fun h => by omega
theorem upto_len (n : Nat) : (upto n).length = n := by unfold upto; rw [List.length_map, List.length_range]
theorem upto_get {n i : Nat} (h : i < n) : (upto n)[i]? = some (i : Int) := by
  unfold upto
  rw [List.getElem?_map, List.getElem?_range h]; rfl
/-- All below n reach each other, and nobody of them anybody else. -/
theorem ring_all {l : List P2} {n : Nat} {who : Int} {R : List Int} (hR : RingOf l who R) (h0 : 0 ≤ who ∧ who < n) (hc : ∀ x y : Int, 0 ≤ x → x < n → 0 ≤ y → y < n → Reach (adjF l) x y) (hb : ∀ e ∈ l, 0 ≤ e.b ∧ e.b < n) : R = upto n := by
  refine up_unique hR.up (upto_up n) fun x => ?_
  rw [ring_mem hR, upto_mem]
  constructor
  · intro ⟨h1, _⟩
    cases h1 with
    | one h1 => exact hb _ (adjF_mem.1 h1)
    | more _ h1 => exact hb _ (adjF_mem.1 h1)
  · intro ⟨h1, h2⟩
    exact ⟨hc _ _ h0.1 h0.2 h1 h2, hc _ _ h1 h2 h0.1 h0.2⟩
theorem vicR_upto {n : Nat} (h : 1 ≤ n) : vicR (upto n) = (n : Int) - 1 := by
  rw [vicR_at (R := upto n) (x := ((n - 1 : Nat) : Int)) (by rw [upto_len]; exact upto_get (by omega))]
  omega
theorem isR_upto {n : Nat} (h : 1 ≤ n) : isR (upto n) = true := by
  unfold isR
  cases hu : upto n with
  | nil => have := congrArg List.length hu; rw [upto_len] at this; simp at this; omega
  | cons a t => rfl
/-- A way up, by single steps. -/
theorem reach_up {l : List P2} {a b : Nat} (h : ∀ i : Nat, a ≤ i → i < b → (⟨(i : Int), ((i + 1 : Nat) : Int)⟩ : P2) ∈ l) : ∀ {j : Nat}, a < j → j ≤ b → Reach (adjF l) a j
  | 0, h1, _ => absurd h1 (Nat.not_lt_zero _)
  | j + 1, h1, h2 => by
    have hs : ((j + 1 : Nat) : Int) ∈ adjF l (j : Int) := adjF_mem.2 (h j (by omega) (by omega))
    by_cases hj : a = j
    · rw [hj]; exact .one hs
    · exact .more (reach_up h (j := j) (by omega) (by omega)) hs

/-! ### A ring of n, and whoever waits for some of it -/
def e1 (n i : Nat) : P2 := ⟨(i : Int), (((i + 1) % n : Nat) : Int)⟩
theorem e1_b {n i : Nat} (h : i < n) : (e1 n i).b = if i + 1 = n then 0 else ((i + 1 : Nat) : Int) := by
  show (((i + 1) % n : Nat) : Int) = _
  split
  · rename_i e; rw [e, Nat.mod_self]; rfl
  · rw [Nat.mod_eq_of_lt (by omega)]
theorem ringE_all {n : Nat} {l : List P2} (hl : ∀ i, i < n → e1 n i ∈ l) : ∀ x y : Int, 0 ≤ x → x < n → 0 ≤ y → y < n → Reach (adjF l) x y := by
  have hup : ∀ i : Nat, 0 ≤ i → i < n - 1 → (⟨(i : Int), ((i + 1 : Nat) : Int)⟩ : P2) ∈ l := fun i _ hi => by
    have h1 := hl i (by omega)
    have h2 : e1 n i = ⟨(i : Int), ((i + 1 : Nat) : Int)⟩ := by
      have := e1_b (n := n) (i := i) (by omega)
      rw [if_neg (by omega)] at this
      show (⟨(i : Int), (e1 n i).b⟩ : P2) = _
      rw [this]
    rwa [h2] at h1
  have hlast : 1 ≤ n → (0 : Int) ∈ adjF l ((n - 1 : Nat) : Int) := fun h => by
    refine adjF_mem.2 ?_
    have h1 := hl (n - 1) (by omega)
    have h2 : e1 n (n - 1) = ⟨((n - 1 : Nat) : Int), 0⟩ := by
      have := e1_b (n := n) (i := n - 1) (by omega)
      rw [if_pos (by omega)] at this
      show (⟨((n - 1 : Nat) : Int), (e1 n (n - 1)).b⟩ : P2) = _
      rw [this]
    rwa [h2] at h1
  have hz : ∀ a : Nat, a < n → Reach (adjF l) (a : Int) 0 := fun a ha => by
    by_cases h : a = n - 1
    · rw [h]; exact .one (hlast (by omega))
    · exact .more (reach_up (a := a) (b := n - 1) (fun i h1 h2 => hup i (by omega) h2) (j := n - 1) (by omega) (Nat.le_refl _)) (hlast (by omega))
  intro x y hx0 hx1 hy0 hy1
  obtain ⟨a, rfl⟩ : ∃ a : Nat, x = a := ⟨x.toNat, by omega⟩
  obtain ⟨b, rfl⟩ : ∃ b : Nat, y = b := ⟨y.toNat, by omega⟩
  have h1 := hz a (by omega)
  by_cases hb : b = 0
  · rw [hb]; exact h1
  · exact h1.trans (reach_up (a := 0) (b := n - 1) (fun i h1 h2 => hup i h1 h2) (j := b) (by omega) (by omega))
def rkR (n at_ : Nat) (x : Int) : Int := if at_ < x ∧ x < n then x - at_ - 1 else if 0 ≤ x ∧ x ≤ at_ then x + n - at_ - 1 else -1
theorem rkR_e1 {n at_ i : Nat} (hi : i < n) (hne : i ≠ at_) (ha : at_ < n) : rkR n at_ (e1 n i).a < rkR n at_ (e1 n i).b := by
  rw [e1_b hi]
  show rkR n at_ (i : Int) < _
  unfold rkR
  (repeat' split) <;> omega
theorem rkR_e2 {n at_ : Nat} {x y : Int} (ha : at_ < n) (hx : (n : Int) ≤ x) (hy : 0 ≤ y ∧ y < n) : rkR n at_ x < rkR n at_ y := by
  unfold rkR
  (repeat' split) <;> omega
end Go.Proofs.Ytfpkeanimkgpaaa.L
