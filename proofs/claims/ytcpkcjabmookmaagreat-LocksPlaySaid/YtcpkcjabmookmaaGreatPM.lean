/- Plain: who holds and wants more. -/
import Derived.Test.YtcpkcjabmookmaaGreatPL
namespace Go.Proofs.YtcpkcjabmookmaaGreat.L
open Go Go.Proofs
set_option linter.unusedSimpArgs false
set_option linter.unusedVariables false

/-- Readers a, a + 1, .., b - 1. -/
def rdF (a n : Nat) : List One := (List.range' a n).map (fun (j : Nat) => ⟨(j : Int), 3⟩)
/-- Writers 100, 101, .. -/
def wrF (a n : Nat) : List One := (List.range' a n).map (fun (j : Nat) => ⟨100 + (j : Int), 5⟩)
theorem rdF_len (a n : Nat) : (rdF a n).length = n := by simp [rdF]
theorem wrF_len (a n : Nat) : (wrF a n).length = n := by simp [wrF]
theorem rdF_mem {a n : Nat} {x : One} (h : x ∈ rdF a n) : x.mode = 3 ∧ ∃ j : Nat, a ≤ j ∧ j < a + n ∧ x.who = j := by
  obtain ⟨j, hj, rfl⟩ := List.mem_map.1 h
  rw [List.mem_range'_1] at hj
  exact ⟨rfl, j, hj.1, hj.2, rfl⟩
theorem wrF_mem {a n : Nat} {x : One} (h : x ∈ wrF a n) : x.mode = 5 ∧ ∃ j : Nat, a ≤ j ∧ j < a + n ∧ x.who = 100 + (j : Int) := by
  obtain ⟨j, hj, rfl⟩ := List.mem_map.1 h
  rw [List.mem_range'_1] at hj
  exact ⟨rfl, j, hj.1, hj.2, rfl⟩
theorem rdF_snoc (n : Nat) : rdF 0 (n + 1) = rdF 0 n ++ [⟨(n : Int), 3⟩] := by
  unfold rdF
  rw [List.range'_concat, List.map_append]
  simp
theorem wrF_snoc (n : Nat) : wrF 0 (n + 1) = wrF 0 n ++ [⟨100 + (n : Int), 5⟩] := by
  unfold wrF
  rw [List.range'_concat, List.map_append]
  simp
theorem rdF_succ (a n : Nat) : rdF a (n + 1) = ⟨(a : Int), 3⟩ :: rdF (a + 1) n := by simp [rdF, List.range'_succ]
theorem wrF_succ (a n : Nat) : wrF a (n + 1) = ⟨100 + (a : Int), 5⟩ :: wrF (a + 1) n := by simp [wrF, List.range'_succ]
theorem mode3 : modeOf 3 = 3 := rfl
theorem mode5 : modeOf 5 = 5 := rfl
theorem more_read (i : Nat) : (Lk.mk (rdF 0 i) []).ask i 3 = (true, ⟨rdF 0 (i + 1), []⟩) := by
  have h2 : ∀ x ∈ rdF 0 i, x.who ≠ (i : Int) := fun x hx => by obtain ⟨_, j, _, h, hw⟩ := rdF_mem hx; rw [hw]; omega
  have hf : (Lk.mk (rdF 0 i) []).fits ⟨(i : Int), 3⟩ = true := Lk.fits_iff.2 (fun h hh _ => by show fitsM 3 h.mode = true; rw [(rdF_mem hh).1]; exact fits33)
  unfold Lk.ask
  rw [mode3, if_neg (by decide), if_neg (at1_no (fun x hx => by cases hx)), if_neg (at1_no h2), if_pos (by rw [hf]; rfl), Lk.grant_new h2, rdF_snoc]
theorem more_write {n : Nat} (h1 : 1 ≤ n) (hn : n ≤ 20) (j : Nat) : (Lk.mk (rdF 0 n) (wrF 0 j)).ask (100 + (j : Int)) 5 = (false, ⟨rdF 0 n, wrF 0 (j + 1)⟩) := by
  have h2 : ∀ x ∈ wrF 0 j, x.who ≠ 100 + (j : Int) := fun x hx => by obtain ⟨_, i, _, h, hw⟩ := wrF_mem hx; rw [hw]; omega
  have h3 : ∀ x ∈ rdF 0 n, x.who ≠ 100 + (j : Int) := fun x hx => by obtain ⟨_, i, _, h, hw⟩ := rdF_mem hx; rw [hw]; omega
  have hf : (Lk.mk (rdF 0 n) (wrF 0 j)).fits ⟨100 + (j : Int), 5⟩ = false := by
    obtain ⟨n, rfl⟩ : ∃ m, n = m + 1 := ⟨n - 1, by omega⟩
    refine Lk.unfit_of (y := ⟨((0 : Nat) : Int), 3⟩) (by rw [rdF_succ]; exact List.mem_cons_self) (by show ((0 : Nat) : Int) ≠ 100 + (j : Int); omega) ?_
    exact fits53
  unfold Lk.ask
  rw [mode5, if_neg (by decide), if_neg (at1_no h2), if_neg (at1_no h3), if_neg (by rw [hf]; simp)]
  unfold Lk.wait Lk.waitAt
  rw [if_neg (by unfold Lk.has; rw [decide_eq_false (at1_no h3)]; exact Bool.false_ne_true)]
  rw [List.take_length, List.drop_length, List.append_nil, wrF_snoc]
theorem join35 : joinM 3 5 = 5 := by decide +kernel
theorem covers35 : coversM 3 5 = false := by decide +kernel
/-- The lock while the readers go: i is the next that goes. -/
def moreK (i n m : Nat) : Lk := if i < n then ⟨⟨0, 3⟩ :: rdF i (n - i), ⟨0, 5⟩ :: wrF 0 m⟩ else ⟨[⟨0, 5⟩], wrF 0 m⟩
theorem more_up {n m : Nat} (h1 : 1 ≤ n) (hn : n ≤ 20) : (Lk.mk (rdF 0 n) (wrF 0 m)).ask 0 5 = (decide (n = 1), moreK 1 n m) := by
  obtain ⟨n, rfl⟩ : ∃ k, n = k + 1 := ⟨n - 1, by omega⟩
  have h2 : ∀ x ∈ wrF 0 m, x.who ≠ 0 := fun x hx => by obtain ⟨_, i, _, h, hw⟩ := wrF_mem hx; rw [hw]; omega
  have hat : at1 (rdF 0 (n + 1)) 0 = 0 := by
    rw [rdF_succ]
    unfold at1 idxP
    rw [List.findIdx?_cons, if_pos (by simp)]
    rfl
  unfold Lk.ask
  rw [mode5, if_neg (by decide), if_neg (at1_no h2), hat, if_pos (by decide)]
  have hd : (rdF 0 (n + 1)).getD (0 : Int).toNat ⟨0, 0⟩ = ⟨0, 3⟩ := by rw [rdF_succ]; rfl
  rw [hd, if_neg (by rw [covers35]; simp), join35]
  cases n with
  | zero =>
    have hf : (Lk.mk (rdF 0 (0 + 1)) (wrF 0 m)).fits ⟨0, 5⟩ = true := Lk.fits_iff.2 (fun h hh hw => by
      rw [rdF_succ] at hh
      rw [List.mem_singleton.1 hh] at hw
      exact absurd rfl hw)
    rw [if_pos hf]
    unfold Lk.grant moreK
    simp only [hat]
    rfl
  | succ n =>
    have hf : (Lk.mk (rdF 0 (n + 1 + 1)) (wrF 0 m)).fits ⟨0, 5⟩ = false := by
      refine Lk.unfit_of (y := ⟨((1 : Nat) : Int), 3⟩) (by rw [rdF_succ, rdF_succ]; simp) (by show ((1 : Nat) : Int) ≠ 0; omega) ?_
      exact fits53
    rw [if_neg (by rw [hf]; simp)]
    have hw : (Lk.mk (rdF 0 (n + 1 + 1)) (wrF 0 m)).waitAt 0 = 0 := by
      unfold Lk.waitAt
      rw [if_pos (by unfold Lk.has; rw [hat]; rfl)]
      cases m with
      | zero => rfl
      | succ m =>
        refine wAt_eq rfl (.inr ⟨⟨100 + ((0 : Nat) : Int), 5⟩, by rw [wrF_succ]; rfl, ?_⟩)
        show (Lk.mk (rdF 0 (n + 1 + 1)) _).has _ = false
        unfold Lk.has
        exact decide_eq_false (at1_no (fun x hx => by obtain ⟨_, i, _, h, hw⟩ := rdF_mem hx; rw [hw]; show (i : Int) ≠ 100 + ((0 : Nat) : Int); omega))
    unfold Lk.wait
    rw [hw]
    unfold moreK
    rw [if_pos (by omega), show n + 1 + 1 - 1 = n + 1 by omega, rdF_succ 0]
    simp
theorem more_drop {n m i : Nat} (h1 : 1 ≤ i) (hi : i < n) (hn : n ≤ 20) : (moreK i n m).drop i = (if i + 1 = n then [0] else [], moreK (i + 1) n m) := by
  obtain ⟨d, hd⟩ : ∃ d, n - i = d + 1 := ⟨n - i - 1, by omega⟩
  have hk : moreK i n m = ⟨⟨0, 3⟩ :: ⟨(i : Int), 3⟩ :: rdF (i + 1) d, ⟨0, 5⟩ :: wrF 0 m⟩ := by
    unfold moreK
    rw [if_pos hi, hd, rdF_succ]
  have hw : (moreK i n m).without i = ⟨⟨0, 3⟩ :: rdF (i + 1) d, ⟨0, 5⟩ :: wrF 0 m⟩ := by
    rw [hk]
    unfold Lk.without
    have e1 : (⟨0, 3⟩ :: ⟨(i : Int), 3⟩ :: rdF (i + 1) d : List One).filter (fun x => !decide (x.who = (i : Int))) = ⟨0, 3⟩ :: rdF (i + 1) d := by
      rw [List.filter_cons, if_pos (by show (!decide ((0 : Int) = (i : Int))) = true; rw [decide_eq_false (by omega)]; rfl), List.filter_cons, if_neg (by simp), filter_no]
      intro x hx
      obtain ⟨_, j, h, _, hxw⟩ := rdF_mem hx
      rw [hxw]; omega
    have e2 : (⟨0, 5⟩ :: wrF 0 m : List One).filter (fun x => !decide (x.who = (i : Int))) = ⟨0, 5⟩ :: wrF 0 m := filter_no (fun x hx => by
      rcases List.mem_cons.1 hx with rfl | hx
      · show (0 : Int) ≠ (i : Int); omega
      · obtain ⟨_, j, _, _, hxw⟩ := wrF_mem hx
        rw [hxw]; omega)
    show Lk.mk _ _ = _
    rw [e1, e2]
  unfold Lk.drop
  rw [hw]
  show pump (⟨0, 3⟩ :: rdF (i + 1) d) (⟨0, 5⟩ :: wrF 0 m) = _
  rw [pump]
  cases d with
  | zero =>
    have hf : (Lk.mk (⟨0, 3⟩ :: rdF (i + 1) 0) []).fits ⟨0, 5⟩ = true := Lk.fits_iff.2 (fun h hh hw => by
      have hh : h ∈ [(⟨0, 3⟩ : One)] := hh
      rw [List.mem_singleton.1 hh] at hw
      exact absurd rfl hw)
    have hg : (Lk.mk (⟨0, 3⟩ :: rdF (i + 1) 0) []).grant ⟨0, 5⟩ = ⟨[⟨0, 5⟩], []⟩ := rfl
    rw [if_pos hf, hg, if_pos (by omega)]
    have hp : pump [⟨0, 5⟩] (wrF 0 m) = ([], ⟨[⟨0, 5⟩], wrF 0 m⟩) := by
      cases m with
      | zero => rfl
      | succ m =>
        rw [wrF_succ, pump, if_neg]
        have : (Lk.mk [⟨0, 5⟩] []).fits ⟨100 + ((0 : Nat) : Int), 5⟩ = false := Lk.unfit_of (y := ⟨0, 5⟩) (List.mem_singleton_self _) (by show (0 : Int) ≠ 100 + ((0 : Nat) : Int); omega) fits55
        rw [this]
        exact Bool.false_ne_true
    show ((0 : Int) :: (pump [⟨0, 5⟩] (wrF 0 m)).1, (pump [⟨0, 5⟩] (wrF 0 m)).2) = _
    rw [hp]
    unfold moreK
    rw [if_neg (by omega)]
  | succ d =>
    have hf : (Lk.mk (⟨0, 3⟩ :: rdF (i + 1) (d + 1)) []).fits ⟨0, 5⟩ = false := by
      refine Lk.unfit_of (y := ⟨((i + 1 : Nat) : Int), 3⟩) (by rw [rdF_succ]; simp) (by show ((i + 1 : Nat) : Int) ≠ 0; omega) ?_
      exact fits53
    rw [if_neg (by rw [hf]; exact Bool.false_ne_true), if_neg (by omega)]
    unfold moreK
    rw [if_pos (by omega), show n - (i + 1) = d + 1 by omega]
theorem moreK_size (i n m : Nat) : (moreK i n m).size ≤ n + m + 2 := by
  unfold moreK Lk.size
  split
  · simp only [List.length_cons, rdF_len, wrF_len]; omega
  · simp only [List.length_cons, List.length_nil, wrF_len]; omega
theorem more_holds (n m : Nat) : (moreK n n m).holds = ⟨0, 5, 0⟩ :: (wrF 0 m).map One.wait1 := by
  unfold moreK
  rw [if_neg (by omega)]
  unfold Lk.holds Lk.hold1 wantsIn
  have h2 : ∀ x ∈ wrF 0 m, x.who ≠ 0 := fun x hx => by obtain ⟨_, i, _, h, hw⟩ := wrF_mem hx; rw [hw]; omega
  simp only [List.map_cons, List.map_nil, List.cons_append, List.nil_append]
  rw [if_neg (at1_no h2)]
  congr 2
  rw [List.filter_eq_self]
  intro x hx
  have : (Lk.mk [⟨0, 5⟩] (wrF 0 m)).has x.who = false := decide_eq_false (at1_no (fun y hy => by rw [List.mem_singleton.1 hy]; exact fun h => h2 x hx h.symm))
  rw [this]; rfl
theorem more_last (n m : Nat) : ((moreK n n m).drop 0).1 = if m = 0 then [] else [100] := by
  have hw : (moreK n n m).without 0 = ⟨[], wrF 0 m⟩ := by
    unfold moreK
    rw [if_neg (by omega)]
    unfold Lk.without
    have e2 : (wrF 0 m).filter (fun x => !decide (x.who = 0)) = wrF 0 m := filter_no (fun x hx => by obtain ⟨_, i, _, h, hw⟩ := wrF_mem hx; rw [hw]; omega)
    show Lk.mk _ _ = _
    rw [e2]
    rfl
  unfold Lk.drop
  rw [hw]
  show (pump [] (wrF 0 m)).1 = _
  cases m with
  | zero => rfl
  | succ m =>
    rw [wrF_succ, pump, if_pos (fits_nil _), grant_nil, if_neg (by omega)]
    show (100 + ((0 : Nat) : Int)) :: (pump [⟨100 + ((0 : Nat) : Int), 5⟩] (wrF (0 + 1) m)).1 = _
    cases m with
    | zero => rfl
    | succ m =>
      rw [wrF_succ, pump, if_neg]
      · rfl
      · have : (Lk.mk [⟨100 + ((0 : Nat) : Int), 5⟩] []).fits ⟨100 + ((0 + 1 : Nat) : Int), 5⟩ = false := Lk.unfit_of (y := ⟨100 + ((0 : Nat) : Int), 5⟩) (List.mem_singleton_self _) (by show 100 + ((0 : Nat) : Int) ≠ 100 + ((0 + 1 : Nat) : Int); omega) fits55
        rw [this]
        exact Bool.false_ne_true
end Go.Proofs.YtcpkcjabmookmaaGreat.L
