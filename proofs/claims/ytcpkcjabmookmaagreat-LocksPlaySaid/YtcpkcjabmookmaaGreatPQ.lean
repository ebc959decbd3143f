/- Plain: intents of writing beside one lock on the whole. -/
import Derived.Test.YtcpkcjabmookmaaGreatJ9
import Derived.Test.YtcpkcjabmookmaaGreatPJ
namespace Go.Proofs.YtcpkcjabmookmaaGreat.L
open Go Go.Proofs
set_option linter.unusedSimpArgs false
set_option linter.unusedVariables false

theorem compactL_id {α : Type} [DecidableEq α] : ∀ {l : List α}, l.Pairwise (· ≠ ·) → compactL l = l
  | [], _ => rfl
  | [a], _ => rfl
  | a :: b :: l, h => by
    obtain ⟨h1, h2⟩ := List.pairwise_cons.1 h
    show (if a = b then compactL (b :: l) else a :: compactL (b :: l)) = _
    rw [if_neg (h1 b (List.mem_cons_self)), compactL_id h2]
theorem waits_id {k : Lk} {who : Int} (h : (k.waitsR who).Pairwise (· < ·)) : k.waits who = k.waitsR who := by
  unfold Lk.waits
  rw [List.mergeSort_of_pairwise (h.imp fun hab => decide_eq_true (Int.le_of_lt hab)), compactL_id (h.imp fun hab => Int.ne_of_lt hab)]
def prsR (T : List Ent) : List P2 := T.flatMap fun e => e.k.holds.flatMap fun h => prsW h.who (e.k.waitsR h.who)
theorem prsT_R {T : List Ent} (h : ∀ e ∈ T, ∀ x ∈ e.k.holds, (e.k.waitsR x.who).Pairwise (· < ·)) : prsT T = prsR T := by
  have flatMap_congr : ∀ {α β : Type} {f g : α → List β} {l : List α}, (∀ x ∈ l, f x = g x) → l.flatMap f = l.flatMap g := fun {α β f g l} hh => by
    rw [List.flatMap_def, List.flatMap_def, List.map_congr_left hh]
  unfold prsT prsR
  refine flatMap_congr fun e he => ?_
  unfold prsE prsH
  exact flatMap_congr fun x hx => by rw [waits_id (h e he x hx)]
def chkE (T : List Ent) (n : Nat) : Bool := (T.all fun e => e.k.holds.all fun x => decide ((e.k.waitsR x.who).Pairwise (· < ·))) && decide ((prsR T).Pairwise fun a b => leP2 a b = true ∧ a ≠ b) && decide ((prsR T).length = n)
theorem chkE_ok {T : List Ent} {n : Nat} (h : chkE T n = true) : (edgesT T).length = n ∧ (prsT T).length = n := by
  unfold chkE at h
  simp only [Bool.and_eq_true, decide_eq_true_iff, List.all_eq_true] at h
  obtain ⟨⟨h1, h2⟩, h3⟩ := h
  have e := prsT_R h1
  refine ⟨?_, by rw [e, h3]⟩
  unfold edgesT
  rw [e, List.mergeSort_of_pairwise (h2.imp fun hab => hab.1), compactL_id (h2.imp fun hab => hab.2), h3]

/-! ### The run -/
def abcs : ByteArray := ⟨#[97, 98, 99, 100, 101, 102, 103, 104, 105, 106, 107, 108, 109, 110, 111, 112, 113, 114, 115, 116]⟩
def nmT : Nm := ⟨1, ⟨#[116]⟩, ⟨#[]⟩⟩
def nmR (i : Nat) : Nm := ⟨2, ⟨#[116]⟩, abcs.extract i (i + 1)⟩
def itA (s : List Ent × Int) (i : Nat) : Int × List Ent × Int := askT s.1 s.2 i Nm.nil 2
def itB (s : List Ent × Int) (i : Nat) : Int × List Ent × Int := askT s.1 s.2 i nmT 2
def itC (s : List Ent × Int) (i : Nat) : Int × List Ent × Int := askT s.1 s.2 i (nmR i) 5
def itS : Nat → List Ent × Int
  | 0 => ([], 0)
  | i + 1 => (itC (itB (itA (itS i) i).2 i).2 i).2
def itE (n : Nat) (m : Int) : Int × List Ent × Int := askT (itS n).1 (itS n).2 99 nmT m
def okB (s : List Ent × Int) : Bool := decide (s.1.Pairwise fun a b => cmpN a.name b.name < 0) && (s.1.all fun e => decide (e.k.size ≤ 1000000)) && decide (s.1.length ≤ 1000000) && decide (0 ≤ s.2 ∧ s.2 ≤ 1000000)
theorem okB_ok {s : List Ent × Int} (h : okB s = true) : TOk s.1 s.2 := by
  unfold okB at h
  simp only [Bool.and_eq_true, decide_eq_true_iff, List.all_eq_true] at h
  obtain ⟨⟨⟨h1, h2⟩, h3⟩, h4⟩ := h
  exact ⟨h1, h2, h3, h4⟩
def itChk (s : List Ent × Int) (i : Nat) : Bool :=
  let a := itA s i
  let b := itB a.2 i
  let c := itC b.2 i
  okB s && decide (a.1 = 0) && okB a.2 && decide (b.1 = 0) && okB b.2 && decide (c.1 = 0) && okB c.2
def itAll : Nat → Nat → List Ent × Int → Bool
  | 0, _, _ => true
  | n + 1, i, s => itChk s i && itAll n (i + 1) (itC (itB (itA s i).2 i).2 i).2
theorem itAll_at : ∀ (n i : Nat), itAll n i (itS i) = true → ∀ j, i ≤ j → j < i + n → itChk (itS j) j = true
  | 0, i, _, j, h1, h2 => by omega
  | n + 1, i, h, j, h1, h2 => by
    unfold itAll at h
    rw [Bool.and_eq_true] at h
    by_cases hj : j = i
    · rw [hj]; exact h.1
    · exact itAll_at n (i + 1) h.2 j (by omega) (by omega)
theorem it_all : itAll 20 0 (itS 0) = true := by decide +kernel
theorem it_step {i : Nat} (h : i < 20) : TOk (itS i).1 (itS i).2 ∧ (itA (itS i) i).1 = 0 ∧ TOk (itA (itS i) i).2.1 (itA (itS i) i).2.2 ∧ (itB (itA (itS i) i).2 i).1 = 0 ∧ TOk (itB (itA (itS i) i).2 i).2.1 (itB (itA (itS i) i).2 i).2.2 ∧ (itC (itB (itA (itS i) i).2 i).2 i).1 = 0 ∧ TOk (itS (i + 1)).1 (itS (i + 1)).2 := by
  have hc := itAll_at 20 0 it_all i (Nat.zero_le _) (by omega)
  unfold itChk at hc
  simp only [Bool.and_eq_true, decide_eq_true_iff] at hc
  obtain ⟨⟨⟨⟨⟨⟨h1, h2⟩, h3⟩, h4⟩, h5⟩, h6⟩, h7⟩ := hc
  exact ⟨okB_ok h1, h2, okB_ok h3, h4, okB_ok h5, h6, okB_ok h7⟩
def itLast (n m : Nat) (s : List Ent × Int) : Bool :=
  let e := askT s.1 s.2 99 nmT m
  let free := decide (m = 1 ∨ m = 2)
  decide ((e.1 = 0) = (free = true)) && okB e.2 && chkE e.2.1 (if free = true then 0 else n)
def itLasts : Nat → Nat → List Ent × Int → Bool
  | 0, _, _ => true
  | k + 1, i, s =>
    let s' := (itC (itB (itA s i).2 i).2 i).2
    itLast (i + 1) 1 s' && itLast (i + 1) 2 s' && itLast (i + 1) 3 s' && itLast (i + 1) 4 s' && itLast (i + 1) 5 s' && itLasts k (i + 1) s'
theorem itLasts_at : ∀ (k i : Nat), itLasts k i (itS i) = true → ∀ j, i ≤ j → j < i + k → ∀ m, 1 ≤ m → m ≤ 5 → itLast (j + 1) m (itS (j + 1)) = true
  | 0, i, _, j, h1, h2 => by omega
  | k + 1, i, h, j, h1, h2 => by
    unfold itLasts at h
    simp only [Bool.and_eq_true] at h
    obtain ⟨⟨⟨⟨⟨a1, a2⟩, a3⟩, a4⟩, a5⟩, a6⟩ := h
    by_cases hj : j = i
    · subst hj
      intro m hm1 hm2
      obtain rfl | rfl | rfl | rfl | rfl : m = 1 ∨ m = 2 ∨ m = 3 ∨ m = 4 ∨ m = 5 := by omega
      · exact a1
      · exact a2
      · exact a3
      · exact a4
      · exact a5
    · exact itLasts_at k (i + 1) a6 j (by omega) (by omega)
theorem it_lasts : itLasts 20 0 (itS 0) = true := by decide +kernel
theorem it_last {n : Nat} {m : Int} (h1 : 1 ≤ n) (h2 : n ≤ 20) (h3 : 1 ≤ m) (h4 : m ≤ 5) : ((itE n m).1 = 0 ↔ (m = 1 ∨ m = 2)) ∧ TOk (itE n m).2.1 (itE n m).2.2 ∧ (edgesT (itE n m).2.1).length = (if m = 1 ∨ m = 2 then 0 else n) ∧ (prsT (itE n m).2.1).length ≤ 1000000000 := by
  obtain ⟨i, rfl⟩ : ∃ i, n = i + 1 := ⟨n - 1, by omega⟩
  obtain ⟨k, rfl⟩ : ∃ k : Nat, m = k := ⟨m.toNat, by omega⟩
  have h := itLasts_at 20 0 it_lasts i (Nat.zero_le _) (by omega) k (by omega) (by omega)
  unfold itLast at h
  simp only [Bool.and_eq_true, decide_eq_true_iff] at h
  obtain ⟨⟨a1, a2⟩, a3⟩ := h
  have hk : ((k : Int) = 1 ∨ (k : Int) = 2) ↔ (k = 1 ∨ k = 2) := by omega
  obtain ⟨b1, b2⟩ := chkE_ok a3
  refine ⟨?_, okB_ok a2, ?_, ?_⟩
  · rw [hk]
    exact iff_of_eq a1
  · show (edgesT (askT (itS (i + 1)).1 (itS (i + 1)).2 99 nmT k).2.1).length = _
    rw [b1]
    by_cases hf : k = 1 ∨ k = 2
    · rw [if_pos hf, if_pos (hk.2 hf)]
    · rw [if_neg hf, if_neg (fun h => hf (hk.1 h))]
  · show (prsT (askT (itS (i + 1)).1 (itS (i + 1)).2 99 nmT k).2.1).length ≤ _
    rw [b2]
    split <;> omega
end Go.Proofs.YtcpkcjabmookmaaGreat.L
