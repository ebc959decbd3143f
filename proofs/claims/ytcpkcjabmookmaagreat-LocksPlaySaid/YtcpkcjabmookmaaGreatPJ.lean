/- Plain: many locks; names. -/
import Derived.Test.YtcpkcjabmookmaaGreatPT
import Derived.Test.YtcpkcjabmookmaaGreatPM
namespace Go.Proofs.YtcpkcjabmookmaaGreat.L
open Go Go.Proofs
set_option linter.unusedSimpArgs false
set_option linter.unusedVariables false

theorem wantsIn_nil (who : Int) : wantsIn [] who = 0 := rfl
theorem holds_noline {k : Lk} (h : k.line = []) : k.holds = k.hold.map (fun x => ⟨x.who, x.mode, 0⟩) := by
  unfold Lk.holds Lk.hold1
  rw [h]
  simp [wantsIn_nil]
theorem my_noline {k : Lk} (h : k.line = []) (who : Int) : (k.my who).wants = 0 := by
  unfold Lk.my
  split
  · rename_i h0
    obtain ⟨i, el, he, hi, _⟩ := atH_some h0
    rw [hi, Int.toNat_natCast, List.getD_eq_getElem?_getD, he]
    rw [holds_noline h] at he
    have := List.mem_of_getElem? he
    obtain ⟨x, _, hx⟩ := List.mem_map.1 this
    rw [← hx]; rfl
  · rfl
theorem mine_noline {k : Lk} (h : k.line = []) (who : Int) : k.mine who = true ↔ who ∈ k.hold.map One.who := by
  unfold Lk.mine
  rw [decide_eq_true_iff, atH_nonneg, holds_noline h, List.map_map]
  rfl
theorem waitT_none {T : List Ent} {who : Int} (h : ∀ e ∈ T, e.k.line = []) : (waitT T who).isSome = false := by
  unfold waitT
  rw [find_none]
  · rfl
  · rw [List.any_eq_false]
    intro e he
    rw [my_noline (h e he)]
    decide
/-- The beginning of asking, where nobody waits. -/
theorem askT_go {T : List Ent} {n who m : Int} {nm p : Nm} (hp : nm.plain = (p, true)) (hw : ∀ e ∈ T, e.k.line = []) (hm : modeOf m ≠ 0) : askT T n who nm m =
  if fndT T p = true then
    if (kAt T (lbT T p)).mine who = true then (err ((kAt T (lbT T p)).ask who m).1, T.set (lbT T p) ⟨p, ((kAt T (lbT T p)).ask who m).2⟩, n)
    else if 200 ≤ n then (10, T, n)
    else (err ((kAt T (lbT T p)).ask who m).1, T.set (lbT T p) ⟨p, ((kAt T (lbT T p)).ask who m).2⟩, n + 1)
  else if 200 ≤ n then (10, T, n)
  else (err ((Lk.mk [] []).ask who m).1, T.take (lbT T p) ++ [⟨p, ((Lk.mk [] []).ask who m).2⟩] ++ T.drop (lbT T p), n + 1) := by
  unfold askT
  rw [hp]
  simp only [Bool.true_eq_false, if_false]
  rw [if_neg (by rw [waitT_none hw]; decide), if_neg hm]
theorem ask_first {who m : Int} (hm : modeOf m ≠ 0) : (Lk.mk [] []).ask who m = (true, ⟨[⟨who, modeOf m⟩], []⟩) := by
  unfold Lk.ask
  rw [if_neg hm, if_neg (at1_no (fun x hx => by cases hx)), if_neg (at1_no (fun x hx => by cases hx)), if_pos (by rfl), grant_nil]

/-! ### Many -/
def nmA : Nm := ⟨1, ⟨#[97]⟩, ⟨#[]⟩⟩
def nmAB : Nm := ⟨2, ⟨#[97]⟩, ⟨#[98]⟩⟩
def isH (n : Nat) : List One := (List.range' 0 n).map (fun (j : Nat) => ⟨(j : Int), 1⟩)
theorem isH_len (n : Nat) : (isH n).length = n := by simp [isH]
theorem isH_snoc (n : Nat) : isH (n + 1) = isH n ++ [⟨(n : Int), 1⟩] := by
  unfold isH
  rw [List.range'_concat, List.map_append]
  simp
theorem isH_mem {n : Nat} {x : One} (h : x ∈ isH n) : x.mode = 1 ∧ ∃ j : Nat, j < n ∧ x.who = j := by
  obtain ⟨j, hj, rfl⟩ := List.mem_map.1 h
  rw [List.mem_range'_1] at hj
  exact ⟨rfl, j, by omega, rfl⟩
theorem isH_whos {n : Nat} {who : Int} : who ∈ (isH n).map One.who ↔ 0 ≤ who ∧ who < n := by
  constructor
  · intro h
    obtain ⟨x, hx, rfl⟩ := List.mem_map.1 h
    obtain ⟨_, j, hj, hw⟩ := isH_mem hx
    rw [hw]; omega
  · intro h
    refine List.mem_map.2 ⟨⟨((who.toNat : Nat) : Int), 1⟩, List.mem_map.2 ⟨who.toNat, ?_, rfl⟩, ?_⟩
    · rw [List.mem_range'_1]; omega
    · show ((who.toNat : Nat) : Int) = who
      omega
def mK (n : Nat) : Lk := ⟨isH n, []⟩
def mT (n : Nat) : List Ent := if n = 0 then [] else [⟨nmA, mK n⟩]
theorem mT_line (n : Nat) : ∀ e ∈ mT n, e.k.line = [] := by
  unfold mT
  split
  · intro e he; cases he
  · intro e he; rw [List.mem_singleton.1 he]; rfl
theorem nmA_plain : nmA.plain = (nmA, true) := by kernel_rfl
theorem nmAB_plain : nmAB.plain = (nmAB, true) := by kernel_rfl
theorem lb_self (nm : Nm) (k : Lk) : lbT [⟨nm, k⟩] nm = 0 ∧ fndT [⟨nm, k⟩] nm = true := by
  have hc : cmpN nm nm = 0 := cmpN_zero.2 rfl
  have hl : lbT [⟨nm, k⟩] nm = 0 := by
    unfold lbT
    rw [List.takeWhile_cons, if_neg (by rw [hc]; decide)]; rfl
  refine ⟨hl, ?_⟩
  unfold fndT
  rw [hl]
  show decide (cmpN nm nm = 0) = true
  rw [hc]; rfl
theorem is_fits {n : Nat} {who m : Int} (h : fitsM m 1 = true) : (mK n).fits ⟨who, m⟩ = true := Lk.fits_iff.2 (fun x hx _ => by show fitsM m x.mode = true; rw [(isH_mem hx).1]; exact h)
theorem fits11 : fitsM 1 1 = true := by decide +kernel
theorem fits21 : fitsM 2 1 = true := by decide +kernel
theorem covers12 : coversM 1 2 = false := by decide +kernel
theorem join12 : joinM 1 2 = 2 := by decide +kernel
theorem many_more {i : Nat} (hi : i < 200) : askT (mT i) i i nmA 1 = (0, mT (i + 1), (i : Int) + 1) := by
  rw [askT_go nmA_plain (mT_line i) (by decide)]
  cases i with
  | zero =>
    have h1 : fndT (mT 0) nmA = false := rfl
    have h2 : lbT (mT 0) nmA = 0 := rfl
    rw [if_neg (by rw [h1]; decide), if_neg (by omega), ask_first (by decide), h2]
    rfl
  | succ i =>
    have hm : mT (i + 1) = [⟨nmA, mK (i + 1)⟩] := rfl
    obtain ⟨h1, h2⟩ := lb_self nmA (mK (i + 1))
    rw [hm, if_pos h2, h1]
    have hk : kAt [⟨nmA, mK (i + 1)⟩] 0 = mK (i + 1) := rfl
    rw [hk, if_neg (by rw [mine_noline rfl]; show ¬ _ ∈ (isH (i + 1)).map One.who; rw [isH_whos]; omega), if_neg (by omega)]
    have ha : (mK (i + 1)).ask ((i + 1 : Nat) : Int) 1 = (true, mK (i + 2)) := by
      have hno : ∀ x ∈ (mK (i + 1)).hold, x.who ≠ ((i + 1 : Nat) : Int) := fun x hx => by obtain ⟨_, j, hj, hw⟩ := isH_mem hx; rw [hw]; omega
      unfold Lk.ask
      rw [show modeOf 1 = 1 from rfl, if_neg (by decide), if_neg (at1_no (fun x hx => by cases hx)), if_neg (at1_no hno), if_pos (by rw [is_fits fits11]; rfl)]
      have hg := Lk.grant_new (h := (mK (i + 1)).hold) (l := []) (x := ⟨((i + 1 : Nat) : Int), 1⟩) hno
      show (true, (Lk.mk (mK (i + 1)).hold []).grant _) = _
      rw [hg]
      show (true, Lk.mk (isH (i + 1) ++ _) []) = (true, Lk.mk (isH (i + 2)) [])
      rw [isH_snoc (i + 1)]
    rw [ha]
    rfl
theorem many_full {i : Nat} (hi : 200 ≤ i) : askT (mT 200) 200 i nmA 1 = (10, mT 200, 200) := by
  rw [askT_go nmA_plain (mT_line 200) (by decide)]
  have hm : mT 200 = [⟨nmA, mK 200⟩] := rfl
  obtain ⟨h1, h2⟩ := lb_self nmA (mK 200)
  rw [hm, if_pos h2, h1]
  have hk : kAt [⟨nmA, mK 200⟩] 0 = mK 200 := rfl
  rw [hk, if_neg (by rw [mine_noline rfl]; show ¬ _ ∈ (isH 200).map One.who; rw [isH_whos]; omega), if_pos (by decide)]
theorem many_up {c : Nat} (h0 : 1 ≤ c) {who : Int} (h1 : 0 ≤ who) (h2 : who < c) : askT (mT c) c who nmA 2 = (0, [⟨nmA, (mK c).grant ⟨who, 2⟩⟩], (c : Int)) := by
  rw [askT_go nmA_plain (mT_line c) (by decide)]
  have hm : mT c = [⟨nmA, mK c⟩] := by unfold mT; rw [if_neg (by omega)]
  obtain ⟨e1, e2⟩ := lb_self nmA (mK c)
  rw [hm, if_pos e2, e1]
  have hk : kAt [⟨nmA, mK c⟩] 0 = mK c := rfl
  have hmem : who ∈ (mK c).hold.map One.who := isH_whos.2 ⟨h1, h2⟩
  rw [hk, if_pos ((mine_noline rfl who).2 hmem)]
  have ha : (mK c).ask who 2 = (true, (mK c).grant ⟨who, 2⟩) := by
    unfold Lk.ask
    have hh := at1_nonneg.2 hmem
    obtain ⟨i, el, he, hi, _⟩ := at1_some hh
    rw [show modeOf 2 = 2 from rfl, if_neg (by decide), if_neg (at1_no (fun x hx => by cases hx)), if_pos hh, hi, Int.toNat_natCast, getD_at he, (isH_mem (List.mem_of_getElem? he)).1, if_neg (by rw [covers12]; decide), join12, if_pos (is_fits fits21)]
  rw [ha]
  rfl
theorem many_no {who : Int} (h : 200 ≤ who) : askT (mT 200) 200 who nmA 2 = (10, mT 200, 200) := by
  rw [askT_go nmA_plain (mT_line 200) (by decide)]
  have hm : mT 200 = [⟨nmA, mK 200⟩] := rfl
  obtain ⟨h1, h2⟩ := lb_self nmA (mK 200)
  rw [hm, if_pos h2, h1]
  have hk : kAt [⟨nmA, mK 200⟩] 0 = mK 200 := rfl
  rw [hk, if_neg (by rw [mine_noline rfl]; show ¬ _ ∈ (isH 200).map One.who; rw [isH_whos]; omega), if_pos (by decide)]
theorem many_row {k : Lk} (hk : k.line = []) (c who : Int) : askT [⟨nmA, k⟩] c who nmAB 5 = if 200 ≤ c then (10, [⟨nmA, k⟩], c) else (0, [⟨nmA, k⟩, ⟨nmAB, ⟨[⟨who, 5⟩], []⟩⟩], c + 1) := by
  rw [askT_go nmAB_plain (fun e he => by rw [List.mem_singleton.1 he]; exact hk) (by decide)]
  have hc : cmpN nmA nmAB = -1 := by decide +kernel
  have h1 : lbT [⟨nmA, k⟩] nmAB = 1 := by
    unfold lbT
    rw [List.takeWhile_cons, if_pos (by show decide (cmpN nmA nmAB < 0) = true; rw [hc]; decide)]; rfl
  have h2 : fndT [⟨nmA, k⟩] nmAB = false := by unfold fndT; rw [h1]; rfl
  rw [if_neg (by rw [h2]; decide), ask_first (by decide), h1]
  rfl
theorem mT_ok {n : Nat} (h : n ≤ 210) (c : Int) (hc : 0 ≤ c ∧ c ≤ 1000) : SrtT (mT n) ∧ (∀ e ∈ mT n, e.k.size ≤ 1000000) ∧ (mT n).length ≤ 1000000 ∧ 0 ≤ c ∧ c ≤ 1000000 := by
  unfold mT
  split
  · exact ⟨List.Pairwise.nil, (fun e he => by cases he), by decide, by omega, by omega⟩
  · refine ⟨List.pairwise_singleton _ _, (fun e he => ?_), by show 1 ≤ _; omega, by omega, by omega⟩
    rw [List.mem_singleton.1 he]
    show (isH n).length + 0 ≤ _
    rw [isH_len]; omega

/-! ### Names -/
theorem cmpB_selfz (a : ByteArray) : cmpB a a = 0 := cmpB_self a
def nm1 (a : ByteArray) : Nm := ⟨1, a, ⟨#[]⟩⟩
def nm2 (a b : ByteArray) : Nm := ⟨2, a, b⟩
theorem plain0 (a b : ByteArray) : (Nm.mk 0 a b).plain = (Nm.nil, true) := rfl
theorem plain1 (a b : ByteArray) : (Nm.mk 1 a b).plain = (nm1 a, true) := rfl
theorem plain2 (a b : ByteArray) : (Nm.mk 2 a b).plain = (nm2 a b, true) := rfl
theorem cmp01 (a : ByteArray) : cmpN Nm.nil (nm1 a) = -1 := rfl
theorem cmp02 (a b : ByteArray) : cmpN Nm.nil (nm2 a b) = -1 := rfl
theorem cmp12 (a b c : ByteArray) : cmpN (nm1 a) (nm2 b c) = -1 := rfl
theorem cmp22 (a b c : ByteArray) : cmpN (nm2 a b) (nm2 a c) = cmpB b c := by
  unfold cmpN nm2
  rw [if_neg (fun h => h rfl), if_neg (by simp [cmpB_self])]
def nK (m : Int) : Lk := ⟨[⟨1, m⟩], []⟩
theorem names1 {m : Int} (hm : 1 ≤ m ∧ m ≤ 5) (a b : ByteArray) : askT [] 0 1 ⟨0, a, b⟩ m = (0, [⟨Nm.nil, nK m⟩], 1) := by
  have hmo : modeOf m = m := by unfold modeOf; rw [if_neg (by omega)]
  rw [askT_go (plain0 a b) (fun e he => by cases he) (by rw [hmo]; omega)]
  have h1 : fndT [] Nm.nil = false := rfl
  have h2 : lbT [] Nm.nil = 0 := rfl
  rw [if_neg (by rw [h1]; decide), if_neg (by decide), ask_first (by rw [hmo]; omega), h2, hmo]
  rfl
theorem names2 {m : Int} (hm : 1 ≤ m ∧ m ≤ 5) (a b : ByteArray) : askT [⟨Nm.nil, nK m⟩] 1 1 ⟨1, a, b⟩ m = (0, [⟨Nm.nil, nK m⟩, ⟨nm1 a, nK m⟩], 2) := by
  have hmo : modeOf m = m := by unfold modeOf; rw [if_neg (by omega)]
  rw [askT_go (plain1 a b) (fun e he => by rw [List.mem_singleton.1 he]; rfl) (by rw [hmo]; omega)]
  have h2 : lbT [⟨Nm.nil, nK m⟩] (nm1 a) = 1 := by
    unfold lbT
    rw [List.takeWhile_cons, if_pos (by show decide (cmpN Nm.nil (nm1 a) < 0) = true; rw [cmp01]; decide)]; rfl
  have h1 : fndT [⟨Nm.nil, nK m⟩] (nm1 a) = false := by unfold fndT; rw [h2]; rfl
  rw [if_neg (by rw [h1]; decide), if_neg (by decide), ask_first (by rw [hmo]; omega), h2, hmo]
  rfl
def nT (a b : ByteArray) (m : Int) : List Ent := [⟨Nm.nil, nK m⟩, ⟨nm1 a, nK m⟩, ⟨nm2 a b, nK 5⟩]
theorem names3 {m : Int} (a b : ByteArray) : askT [⟨Nm.nil, nK m⟩, ⟨nm1 a, nK m⟩] 2 1 ⟨2, a, b⟩ 5 = (0, nT a b m, 3) := by
  rw [askT_go (plain2 a b) (fun e he => by rcases List.mem_cons.1 he with rfl | he; rfl; rw [List.mem_singleton.1 he]; rfl) (by decide)]
  have h2 : lbT [⟨Nm.nil, nK m⟩, ⟨nm1 a, nK m⟩] (nm2 a b) = 2 := by
    unfold lbT
    rw [List.takeWhile_cons, if_pos (by show decide (cmpN Nm.nil (nm2 a b) < 0) = true; rw [cmp02]; decide), List.takeWhile_cons, if_pos (by show decide (cmpN (nm1 a) (nm2 a b) < 0) = true; rw [cmp12]; decide)]; rfl
  have h1 : fndT [⟨Nm.nil, nK m⟩, ⟨nm1 a, nK m⟩] (nm2 a b) = false := by unfold fndT; rw [h2]; rfl
  rw [if_neg (by rw [h1]; decide), if_neg (by decide), ask_first (by decide), h2]
  rfl
theorem nT_mode0 {a b c d : ByteArray} {m : Int} : modeT (nT a b m) 1 ⟨0, c, d⟩ = m := by
  have hl : lbT (nT a b m) Nm.nil = 0 := by
    unfold lbT nT
    rw [List.takeWhile_cons, if_neg (by show ¬ decide (cmpN Nm.nil Nm.nil < 0) = true; decide)]; rfl
  have hf : fndT (nT a b m) Nm.nil = true := by unfold fndT; rw [hl]; rfl
  unfold modeT
  rw [plain0, if_pos ⟨rfl, hf⟩, hl]
  rfl
theorem nT_mode1 {a b c : ByteArray} {m : Int} : modeT (nT a b m) 1 ⟨1, a, c⟩ = m := by
  have hz : cmpN (nm1 a) (nm1 a) = 0 := cmpN_zero.2 rfl
  have hl : lbT (nT a b m) (nm1 a) = 1 := by
    unfold lbT nT
    rw [List.takeWhile_cons, if_pos (by show decide (cmpN Nm.nil (nm1 a) < 0) = true; rw [cmp01]; decide), List.takeWhile_cons, if_neg (by show ¬ decide (cmpN (nm1 a) (nm1 a) < 0) = true; rw [hz]; decide)]; rfl
  have hf : fndT (nT a b m) (nm1 a) = true := by
    unfold fndT
    rw [hl]
    show decide (cmpN (nm1 a) (nm1 a) = 0) = true
    rw [hz]; rfl
  unfold modeT
  rw [plain1, if_pos ⟨rfl, hf⟩, hl]
  rfl
theorem names4 {a b c : ByteArray} {m : Int} : (askT (nT a b m) 3 2 ⟨2, a, c⟩ 5).1 = if b = c then 13 else 0 := by
  have hline : ∀ e ∈ nT a b m, e.k.line = [] := fun e he => by
    unfold nT at he
    rcases List.mem_cons.1 he with rfl | he
    · rfl
    · rcases List.mem_cons.1 he with rfl | he
      · rfl
      · rw [List.mem_singleton.1 he]; rfl
  rw [askT_go (plain2 a c) hline (by decide)]
  by_cases hbc : b = c
  · subst hbc
    have hz : cmpN (nm2 a b) (nm2 a b) = 0 := cmpN_zero.2 rfl
    have hl : lbT (nT a b m) (nm2 a b) = 2 := by
      unfold lbT nT
      rw [List.takeWhile_cons, if_pos (by show decide (cmpN Nm.nil (nm2 a b) < 0) = true; rw [cmp02]; decide), List.takeWhile_cons, if_pos (by show decide (cmpN (nm1 a) (nm2 a b) < 0) = true; rw [cmp12]; decide), List.takeWhile_cons, if_neg (by show ¬ decide (cmpN (nm2 a b) (nm2 a b) < 0) = true; rw [hz]; decide)]; rfl
    have hf : fndT (nT a b m) (nm2 a b) = true := by
      unfold fndT
      rw [hl]
      show decide (cmpN (nm2 a b) (nm2 a b) = 0) = true
      rw [hz]; rfl
    have hk : kAt (nT a b m) 2 = nK 5 := rfl
    rw [if_pos hf, hl, hk, if_neg (by rw [mine_noline rfl]; decide), if_neg (by decide), if_pos rfl]
    show err ((nK 5).ask 2 5).1 = 13
    kernel_rfl
  · have hlb : lbT (nT a b m) (nm2 a c) = 2 ∨ lbT (nT a b m) (nm2 a c) = 3 := by
      unfold lbT nT
      rw [List.takeWhile_cons, if_pos (by show decide (cmpN Nm.nil (nm2 a c) < 0) = true; rw [cmp02]; decide), List.takeWhile_cons, if_pos (by show decide (cmpN (nm1 a) (nm2 a c) < 0) = true; rw [cmp12]; decide), List.takeWhile_cons]
      split
      · exact .inr rfl
      · exact .inl rfl
    have hf : fndT (nT a b m) (nm2 a c) = false := by
      unfold fndT
      rcases hlb with h | h
      · rw [h]
        show decide (cmpN (nm2 a b) (nm2 a c) = 0) = false
        rw [cmp22]
        exact decide_eq_false (fun h => hbc (cmpB_zero.1 h))
      · rw [h]; rfl
    rw [if_neg (by rw [hf]; decide), if_neg (by decide), if_neg hbc, ask_first (by decide)]
    rfl
end Go.Proofs.YtcpkcjabmookmaaGreat.L
