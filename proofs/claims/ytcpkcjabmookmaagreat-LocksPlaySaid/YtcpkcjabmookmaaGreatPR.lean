/- Plain: the locks' table through asking and freeing: the count, and who stands where. -/
import Derived.Test.YtcpkcjabmookmaaGreatPQ
namespace Go.Proofs.YtcpkcjabmookmaaGreat.L
open Go Go.Proofs
set_option linter.unusedSimpArgs false
set_option linter.unusedVariables false

/-! ### Who stands in a lock -/
def Lk.whos (k : Lk) : List Int := k.holds.map Hold.who
theorem Lk.whos_len (k : Lk) : k.whos.length = k.holds.length := List.length_map _
theorem Lk.whos_mem {k : Lk} {x : Int} : x ∈ k.whos ↔ x ∈ k.hold.map One.who ∨ x ∈ k.line.map One.who := by
  unfold Lk.whos
  rw [Lk.holds_whos, List.mem_append]
  constructor
  · intro h
    rcases h with h | h
    · exact .inl h
    · obtain ⟨y, hy, rfl⟩ := List.mem_map.1 h
      exact .inr (List.mem_map_of_mem (List.mem_filter.1 hy).1)
  · intro h
    by_cases hh : x ∈ k.hold.map One.who
    · exact .inl hh
    · rcases h with h | h
      · exact absurd h hh
      · obtain ⟨y, hy, rfl⟩ := List.mem_map.1 h
        refine .inr (List.mem_map_of_mem (List.mem_filter.2 ⟨hy, ?_⟩))
        have : k.has y.who = false := decide_eq_false (fun h0 => hh (at1_nonneg.1 h0))
        rw [this]; rfl
theorem Lk.mine_iff {k : Lk} {who : Int} : k.mine who = true ↔ who ∈ k.whos := by
  unfold Lk.mine
  rw [decide_eq_true_iff, atH_nonneg]
  rfl
theorem Lk.grant_mem_who {k : Lk} {x : One} {y : Int} : y ∈ (k.grant x).hold.map One.who ↔ y ∈ k.hold.map One.who ∨ y = x.who := by
  rw [Lk.grant_whos]
  split
  · rename_i h
    have := at1_nonneg.1 h
    constructor
    · exact .inl
    · intro h2
      rcases h2 with h2 | h2
      · exact h2
      · rw [h2]; exact this
  · rw [List.mem_append, List.mem_singleton]
theorem Lk.wait_mem_who {k : Lk} {x : One} {y : Int} : y ∈ (k.wait x).line.map One.who ↔ y ∈ k.line.map One.who ∨ y = x.who := by
  show y ∈ (k.line.take (k.waitAt x.who) ++ [x] ++ k.line.drop (k.waitAt x.who)).map One.who ↔ _
  have h : y ∈ k.line.map One.who ↔ y ∈ (k.line.take (k.waitAt x.who)).map One.who ∨ y ∈ (k.line.drop (k.waitAt x.who)).map One.who := by
    rw [← List.mem_append, ← List.map_append, List.take_append_drop]
  rw [h, List.map_append, List.map_append, List.mem_append, List.mem_append]
  show (_ ∨ y ∈ [x.who]) ∨ _ ↔ _
  rw [List.mem_singleton]
  constructor
  · rintro ((h | h) | h)
    · exact .inl (.inl h)
    · exact .inr h
    · exact .inl (.inr h)
  · rintro ((h | h) | h)
    · exact .inl (.inl h)
    · exact .inr h
    · exact .inl (.inr h)
theorem Lk.whos_grant {k : Lk} {x : One} {y : Int} : y ∈ (k.grant x).whos ↔ y ∈ k.whos ∨ y = x.who := by
  rw [Lk.whos_mem, Lk.whos_mem, Lk.grant_mem_who, Lk.grant_same]
  constructor
  · rintro ((h | h) | h)
    · exact .inl (.inl h)
    · exact .inr h
    · exact .inl (.inr h)
  · rintro ((h | h) | h)
    · exact .inl (.inl h)
    · exact .inr h
    · exact .inl (.inr h)
theorem Lk.whos_wait {k : Lk} {x : One} {y : Int} : y ∈ (k.wait x).whos ↔ y ∈ k.whos ∨ y = x.who := by
  rw [Lk.whos_mem, Lk.whos_mem, Lk.wait_mem_who]
  show y ∈ k.hold.map One.who ∨ _ ↔ _
  constructor
  · rintro (h | h | h)
    · exact .inl (.inl h)
    · exact .inl (.inr h)
    · exact .inr h
  · rintro ((h | h) | h)
    · exact .inl h
    · exact .inr (.inl h)
    · exact .inr (.inr h)
theorem Lk.whos_ask {k : Lk} {who m y : Int} (hm : modeOf m ≠ 0) : y ∈ (k.ask who m).2.whos ↔ y ∈ k.whos ∨ y = who := by
  have stay : who ∈ k.whos → (y ∈ k.whos ↔ y ∈ k.whos ∨ y = who) := fun h => ⟨.inl, fun h2 => h2.elim id (fun e => e ▸ h)⟩
  unfold Lk.ask
  rw [if_neg hm]
  split
  · rename_i hl
    exact stay (Lk.whos_mem.2 (.inr (at1_nonneg.1 hl)))
  · split
    · rename_i hh
      split
      · exact stay (Lk.whos_mem.2 (.inl (at1_nonneg.1 hh)))
      · split
        · exact Lk.whos_grant
        · exact Lk.whos_wait
    · split
      · exact Lk.whos_grant
      · exact Lk.whos_wait
theorem pump_whos (y : Int) : ∀ (l h : List One), (y ∈ (pump h l).2.hold.map One.who ∨ y ∈ (pump h l).2.line.map One.who) ↔ (y ∈ h.map One.who ∨ y ∈ l.map One.who)
  | [], h => Iff.rfl
  | x :: l, h => by
    unfold pump
    split
    · rw [pump_whos y l, Lk.grant_mem_who]
      show (y ∈ h.map One.who ∨ y = x.who) ∨ _ ↔ _ ∨ y ∈ x.who :: l.map One.who
      rw [List.mem_cons, or_assoc]
    · exact Iff.rfl
theorem Lk.whos_drop {k : Lk} {who y : Int} : y ∈ (k.drop who).2.whos ↔ y ∈ k.whos ∧ y ≠ who := by
  have hf : ∀ l : List One, y ∈ (l.filter (fun x => !decide (x.who = who))).map One.who ↔ y ∈ l.map One.who ∧ y ≠ who := fun l => by
    constructor
    · intro h
      obtain ⟨x, hx, rfl⟩ := List.mem_map.1 h
      obtain ⟨h1, h2⟩ := List.mem_filter.1 hx
      exact ⟨List.mem_map_of_mem h1, by simpa using h2⟩
    · intro ⟨h, hne⟩
      obtain ⟨x, hx, rfl⟩ := List.mem_map.1 h
      exact List.mem_map_of_mem (List.mem_filter.2 ⟨hx, by simpa using hne⟩)
  rw [Lk.whos_mem, Lk.whos_mem]
  unfold Lk.drop Lk.pump Lk.without
  rw [pump_whos, hf, hf, or_and_right]
theorem waits_whos {k : Lk} {who y : Int} (h : y ∈ k.waits who) : y ∈ k.whos := by
  unfold Lk.waits at h
  rw [compactL_mem, List.mem_mergeSort] at h
  unfold Lk.waitsR at h
  split at h
  · cases h
  · rw [Lk.whos_mem]
    rcases List.mem_append.1 h with h | h
    · unfold Lk.waitsH at h
      obtain ⟨x, hx, rfl⟩ := List.mem_map.1 h
      exact .inl (List.mem_map_of_mem (List.mem_filter.1 hx).1)
    · obtain ⟨x, hx, rfl⟩ := List.mem_map.1 h
      exact .inr (List.mem_map_of_mem (List.mem_of_mem_take hx))
theorem my_none {k : Lk} {who : Int} (h : who ∉ k.whos) : k.my who = ⟨0, 0, 0⟩ := by
  unfold Lk.my
  rw [if_neg (fun h0 => h (atH_nonneg.1 h0))]
theorem nodup_eq {l m : List Int} (h1 : l.Nodup) (h2 : m.Nodup) (h : ∀ x, x ∈ l ↔ x ∈ m) : l.length = m.length :=
  Nat.le_antisymm (nodup_len h1 (fun x => (h x).1)) (nodup_len h2 (fun x => (h x).2))
theorem len_ask {k : Lk} (ok : k.Ok) {who m : Int} (hm : modeOf m ≠ 0) : (k.ask who m).2.whos.length = if k.mine who = true then k.whos.length else k.whos.length + 1 := by
  have h1 := Lk.holds_nodup (ok.ask who m)
  have h2 := Lk.holds_nodup ok
  split
  · rename_i h
    refine nodup_eq h1 h2 fun x => ?_
    show x ∈ (k.ask who m).2.whos ↔ x ∈ k.whos
    rw [Lk.whos_ask hm]
    exact ⟨fun h3 => h3.elim id (fun e => e ▸ Lk.mine_iff.1 h), .inl⟩
  · rename_i h
    have hn : who ∉ k.whos := fun h3 => h (Lk.mine_iff.2 h3)
    exact nodup_eq (m := who :: k.whos) h1 (List.nodup_cons.2 ⟨hn, h2⟩) fun x => by
      show x ∈ (k.ask who m).2.whos ↔ _
      rw [Lk.whos_ask hm, List.mem_cons, or_comm]
theorem len_drop {k : Lk} (ok : k.Ok) {who : Int} (h : k.mine who = true) : (k.drop who).2.whos.length + 1 = k.whos.length := by
  have h1 := Lk.holds_nodup (ok.drop who)
  have h2 := Lk.holds_nodup ok
  have hm := Lk.mine_iff.1 h
  exact nodup_eq (l := who :: (k.drop who).2.whos) (List.nodup_cons.2 ⟨fun h3 => (Lk.whos_drop.1 h3).2 rfl, h1⟩) h2 fun x => by
    show x ∈ who :: (k.drop who).2.whos ↔ x ∈ k.whos
    rw [List.mem_cons, Lk.whos_drop]
    by_cases hx : x = who
    · subst hx; exact ⟨fun _ => hm, fun _ => .inl rfl⟩
    · exact ⟨fun h3 => h3.elim (fun e => absurd e hx) (·.1), fun h3 => .inr ⟨h3, hx⟩⟩
end Go.Proofs.YtcpkcjabmookmaaGreat.L
