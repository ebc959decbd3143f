/- The laws LocksMany, LocksNames, walked. -/
import Derived.Test.YtcpkcjabmookmaaGreatJ6
import Derived.Test.YtcpkcjabmookmaaGreatPJ
namespace Go.Proofs.YtcpkcjabmookmaaGreat.L
open Go Go.Proofs
attribute [local irreducible] pv fv pt fz RowF RowO rowP old pure_ elA
set_option maxRecDepth 100000
set_option linter.unusedSimpArgs false
set_option linter.unusedVariables false

theorem many_ask (i : Nat) : askT (mT (min i 200)) ((min i 200 : Nat) : Int) i nmA 1 = (if i < 200 then 0 else 10, mT (min (i + 1) 200), ((min (i + 1) 200 : Nat) : Int)) := by
  by_cases h : i < 200
  · rw [Nat.min_eq_left (by omega), Nat.min_eq_left (by omega), if_pos h, many_more h]
    rfl
  · rw [Nat.min_eq_right (by omega), Nat.min_eq_right (by omega), if_neg h]
    exact many_full (by omega)
theorem many_ask2 {N : Nat} (hN : 190 ≤ N) {who : Int} (h0 : 0 ≤ who) (h1 : who < N) : ∃ k, k.line = [] ∧ k.size ≤ 1000 ∧ askT (mT (min N 200)) ((min N 200 : Nat) : Int) who nmA 2 = (if who < 200 then 0 else 10, [⟨nmA, k⟩], ((min N 200 : Nat) : Int)) := by
  by_cases h : who < 200
  · refine ⟨(mK (min N 200)).grant ⟨who, 2⟩, ?_, ?_, ?_⟩
    · rw [Lk.grant_same]; rfl
    · refine Nat.le_trans (Lk.grant_size _ _) ?_
      show (isH (min N 200)).length + 0 + 1 ≤ _
      rw [isH_len]; omega
    · rw [if_pos h, many_up (by omega) h0 (by omega)]
  · refine ⟨mK 200, rfl, ?_, ?_⟩
    · show (isH 200).length + 0 ≤ _
      rw [isH_len]; omega
    · rw [Nat.min_eq_right (by omega), if_neg h]
      exact many_no (by omega)
theorem tok_one {nm : Nm} {k : Lk} {c : Int} (hk : k.size ≤ 1000) (hc : 0 ≤ c ∧ c ≤ 1000) : TOk [⟨nm, k⟩] c := ⟨List.pairwise_singleton _ _, (fun e he => by rw [List.mem_singleton.1 he]; show k.size ≤ _; omega), by show 1 ≤ _; omega, by omega⟩
theorem tok_mT {n : Nat} (h : n ≤ 210) (c : Int) (hc : 0 ≤ c ∧ c ≤ 1000) : TOk (mT n) c := by
  obtain ⟨h1, h2, h3, h4, h5⟩ := mT_ok h c hc
  exact ⟨h1, h2, h3, h4, h5⟩
end Go.Proofs.YtcpkcjabmookmaaGreat.L
