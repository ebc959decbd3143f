/- Plain: objects made in any order stand by their names. -/
import Derived.Test.YthnmoiilaaoooaaGreatF2
import Derived.Test.YthnmoiilaaoooaaGreatPT2
namespace Go.Proofs.YthnmoiilaaoooaaGreat.L
open Go Go.Proofs
set_option linter.unusedSimpArgs false
set_option linter.unusedVariables false

def alpha : ByteArray := ⟨#[97, 98, 99, 100, 101, 102, 103, 104, 105, 106, 107, 108, 109, 110, 111, 112, 113, 114, 115, 116, 117, 118, 119, 120, 121, 122]⟩
def nmL (k : Nat) : ByteArray := alpha.extract k (k + 1)
def tabO (k : Nat) : Ob := ⟨nmL k, 1, 0, [], [], []⟩
def mkE (k : Nat) : Eff := ⟨1, nmL k, ⟨#[]⟩, ⟨#[]⟩, 1, 0, false, ⟨0, 0, 0, false, ⟨#[]⟩, ⟨#[]⟩⟩⟩
theorem nm_ord : ((List.range 26).all fun i => (List.range 26).all fun j => decide (cmpB (nmL i) (nmL j) = cmpI i j)) = true := by decide +kernel
theorem nm_cmp {i j : Nat} (hi : i < 26) (hj : j < 26) : cmpB (nmL i) (nmL j) = cmpI i j := by
  have := List.all_eq_true.1 nm_ord i (List.mem_range.2 hi)
  exact of_decide_eq_true (List.all_eq_true.1 this j (List.mem_range.2 hj))
theorem nm_right : ((List.range 26).all fun i => (tabO i).right && (mkE i).right) = true := by decide +kernel
theorem tab_right {i : Nat} (hi : i < 26) : (tabO i).right = true ∧ (mkE i).right = true := by
  have := List.all_eq_true.1 nm_right i (List.mem_range.2 hi)
  rwa [Bool.and_eq_true] at this
theorem nm_inj {i j : Nat} (hi : i < 26) (hj : j < 26) : nmL i = nmL j ↔ i = j := by
  constructor
  · intro h
    have h1 := nm_cmp hi hj
    rw [h, cmpB_self] at h1
    have := cmpI_zero.1 h1.symm
    omega
  · rintro rfl; rfl
/-- The state whose tables are those of ks. -/
def stK (ks : List Nat) : Stt := ⟨1, ks.map tabO⟩
structure KS (ks : List Nat) : Prop where
  up : ks.Pairwise (· < ·)
  lt : ∀ k ∈ ks, k < 26
  len : ks.length ≤ 20
theorem KS.nil : KS [] := ⟨List.Pairwise.nil, (fun k h => by cases h), Nat.zero_le _⟩
theorem adj_of_pair {α : Type} {f : α → α → Bool} : ∀ {l : List α}, l.Pairwise (fun a b => f a b = true) → adj f l = true
  | [], _ => rfl
  | [_], _ => rfl
  | a :: b :: l, h => by
    have h' := List.pairwise_cons.1 h
    simp only [adj, Bool.and_eq_true]
    exact ⟨h'.1 b List.mem_cons_self, adj_of_pair h'.2⟩
theorem KS.pair {ks : List Nat} (h : KS ks) : (ks.map tabO).Pairwise (fun a b => cmpB a.name b.name < 0) := by
  rw [List.pairwise_map]
  refine List.Pairwise.imp_of_mem (fun {a b} ha hb hab => ?_) h.up
  show cmpB (nmL a) (nmL b) < 0
  rw [nm_cmp (h.lt a ha) (h.lt b hb), cmpI_neg]
  omega
theorem KS.right {ks : List Nat} (h : KS ks) : (stK ks).right = true := by
  have hids : (stK ks).ids = [] := by
    unfold Stt.ids stK
    rw [List.flatMap_map, List.flatMap_eq_nil_iff]
    intro k _
    rfl
  have ho : (stK ks).once = true := by
    unfold Stt.once
    rw [hids]
    rfl
  have h1 : (stK ks).objs.all Ob.right = true := List.all_eq_true.2 fun o hm => by
    obtain ⟨k, hk, rfl⟩ := List.mem_map.1 (hm : o ∈ ks.map tabO)
    exact (tab_right (h.lt k hk)).1
  have h2 : adj (fun a b => decide (cmpB a.name b.name < 0)) (stK ks).objs = true := adj_of_pair (h.pair.imp fun h => decide_eq_true h)
  have h3 : ((stK ks).objs.length : Int) ≤ 20 := by
    show (((ks.map tabO).length : Nat) : Int) ≤ 20
    rw [List.length_map]
    have := h.len
    omega
  unfold Stt.right
  rw [h1, h2, ho, decide_eq_true h3, show (stK ks).next = 1 from rfl]
  rfl
theorem plc_map {α β : Type} (p : β → Bool) (f : α → β) (l : List α) : plc p (l.map f) = plc (fun x => p (f x)) l := by
  unfold plc idxP
  rw [List.findIdx?_map, List.length_map]
  rfl
theorem insAt_map {α β : Type} (f : α → β) (l : List α) (i : Nat) (x : α) : insAt (l.map f) i (f x) = (insAt l i x).map f := by
  unfold insAt
  rw [List.map_append, List.map_append, List.map_take, List.map_drop]
  rfl
/-- A number put in its place. -/
theorem ins_up {k : Nat} : ∀ {ks : List Nat}, ks.Pairwise (· < ·) → k ∉ ks → (insAt ks (plc (fun j => decide (k < j)) ks) k).Pairwise (· < ·)
  | [], _, _ => List.pairwise_singleton _ _
  | a :: l, h, hn => by
    have h' := List.pairwise_cons.1 h
    by_cases ha : k < a
    · have hp : plc (fun j => decide (k < j)) (a :: l) = 0 := by
        unfold plc
        rw [idxP_some (i := 0) (x := a) rfl (decide_eq_true ha) rfl]
        rfl
      rw [hp]
      show (k :: a :: l).Pairwise _
      refine List.pairwise_cons.2 ⟨fun x hx => ?_, h⟩
      rcases List.mem_cons.1 hx with rfl | hx
      · exact ha
      · exact Nat.lt_trans ha (h'.1 x hx)
    · have hp : plc (fun j => decide (k < j)) (a :: l) = plc (fun j => decide (k < j)) l + 1 := by
        unfold plc idxP
        rw [List.findIdx?_cons, decide_eq_false ha]
        simp only [Bool.false_eq_true, if_false]
        cases l.findIdx? (fun j => decide (k < j)) with
        | none => simp
        | some i =>
          simp only [Option.map_some]
          rw [if_neg (by omega), if_neg (by omega)]
          omega
      rw [hp]
      have ih := ins_up h'.2 (fun hm => hn (List.mem_cons_of_mem a hm))
      show (a :: insAt l (plc (fun j => decide (k < j)) l) k).Pairwise _
      refine List.pairwise_cons.2 ⟨fun x hx => ?_, ih⟩
      have hak : a < k := by
        have : a ≠ k := fun e => hn (by rw [e]; exact List.mem_cons_self)
        omega
      unfold insAt at hx
      rcases List.mem_append.1 hx with hx | hx
      · rcases List.mem_append.1 hx with hx | hx
        · exact h'.1 x (List.mem_of_mem_take hx)
        · rw [List.mem_singleton.1 hx]; exact hak
      · exact h'.1 x (List.mem_of_mem_drop hx)
theorem insAt_memI {α : Type} {l : List α} {i : Nat} {x y : α} : y ∈ insAt l i x ↔ y ∈ l ∨ y = x := by
  unfold insAt
  constructor
  · intro h
    rcases List.mem_append.1 h with h | h
    · rcases List.mem_append.1 h with h | h
      · exact .inl (List.mem_of_mem_take h)
      · exact .inr (List.mem_singleton.1 h)
    · exact .inl (List.mem_of_mem_drop h)
  · rintro (h | rfl)
    · rw [← List.take_append_drop i l] at h
      rcases List.mem_append.1 h with h | h
      · exact List.mem_append_left _ (List.mem_append_left _ h)
      · exact List.mem_append_right _ h
    · exact List.mem_append_left _ (List.mem_append_right _ List.mem_cons_self)
theorem plc_le {α : Type} (p : α → Bool) (l : List α) : plc p l ≤ l.length := by
  unfold plc
  split
  · exact Nat.le_refl _
  · rename_i h
    unfold idxP at h ⊢
    cases hf : l.findIdx? p with
    | none => rw [hf] at h; exact absurd (by decide) h
    | some i =>
      rw [List.findIdx?_eq_some_iff_getElem] at hf
      obtain ⟨hi, _⟩ := hf
      show ((i : Nat) : Int).toNat ≤ _
      omega
def putK (ks : List Nat) (k : Nat) : List Nat := insAt ks (plc (fun j => decide (k < j)) ks) k
theorem putK_mem {ks : List Nat} {k j : Nat} : j ∈ putK ks k ↔ j ∈ ks ∨ j = k := insAt_memI
theorem putK_len (ks : List Nat) (k : Nat) : (putK ks k).length = ks.length + 1 := by
  have := plc_le (fun j => decide (k < j)) ks
  unfold putK insAt
  rw [List.length_append, List.length_append, List.length_take, List.length_drop, List.length_singleton]
  omega
theorem KS.put {ks : List Nat} (h : KS ks) {k : Nat} (hk : k < 26) (hn : k ∉ ks) (hl : ks.length < 20) : KS (putK ks k) :=
  ⟨ins_up h.up hn, fun j hj => (putK_mem.1 hj).elim (h.lt j) (fun e => by omega), by rw [putK_len]; omega⟩
/-- What making a table answers. -/
theorem make_at {ks : List Nat} (h : KS ks) {k : Nat} (hk : k < 26) : applyS (stK ks) [mkE k] = if k ∈ ks then (⟨0, []⟩, 4) else if 20 ≤ ks.length then (⟨0, []⟩, 6) else (stK (putK ks k), 0) := by
  have hf : 0 ≤ findO (stK ks) (mkE k).object ↔ k ∈ ks := by
    unfold findO stK
    rw [show (idxP (fun o : Ob => decide (o.name = (mkE k).object)) (ks.map tabO)) = idxP (fun j => decide (nmL j = nmL k)) ks from by unfold idxP; rw [List.findIdx?_map]; rfl]
    unfold idxP
    constructor
    · intro h0
      cases hx : ks.findIdx? (fun j => decide (nmL j = nmL k)) with
      | none => rw [hx] at h0; exact absurd h0 (by decide)
      | some i =>
        rw [List.findIdx?_eq_some_iff_getElem] at hx
        obtain ⟨hi, h1, _⟩ := hx
        have := (nm_inj (h.lt _ (List.getElem_mem hi)) hk).1 (of_decide_eq_true h1)
        rw [← this]; exact List.getElem_mem hi
    · intro hm
      cases hx : ks.findIdx? (fun j => decide (nmL j = nmL k)) with
      | some i => exact Int.natCast_nonneg i
      | none =>
        rw [List.findIdx?_eq_none_iff] at hx
        exact absurd (hx k hm) (by simp)
  have hm : makeS (stK ks) (mkE k) = if k ∈ ks then (stK ks, 4) else if 20 ≤ ks.length then (stK ks, 6) else (stK (putK ks k), 0) := by
    unfold makeS
    by_cases h1 : k ∈ ks
    · rw [if_pos (hf.2 h1), if_pos h1]
    · rw [if_neg (fun h2 => h1 (hf.1 h2)), if_neg h1]
      by_cases h2 : 20 ≤ ks.length
      · rw [if_pos (by show 20 ≤ (ks.map tabO).length; rw [List.length_map]; exact h2), if_pos h2]
      · rw [if_neg (by show ¬ 20 ≤ (ks.map tabO).length; rw [List.length_map]; exact h2), if_neg h2]
        have hp : plc (fun o : Ob => decide (0 < cmpB o.name (mkE k).object)) (ks.map tabO) = plc (fun j => decide (k < j)) ks := by
          rw [plc_map]
          have hall : ∀ j ∈ ks, decide (0 < cmpB (tabO j).name (mkE k).object) = decide (k < j) := fun j hj => by
            rw [decide_eq_decide]
            show 0 < cmpB (nmL j) (nmL k) ↔ _
            rw [nm_cmp (h.lt j hj) hk]
            unfold cmpI
            (repeat' split) <;> omega
          unfold plc idxP
          rw [show ks.findIdx? (fun x => decide (0 < cmpB (tabO x).name (mkE k).object)) = ks.findIdx? (fun j => decide (k < j)) from by
            clear h h1 h2 hf
            induction ks with
            | nil => rfl
            | cons a l ih =>
              rw [List.findIdx?_cons, List.findIdx?_cons, hall a List.mem_cons_self, ih (fun j hj => hall j (List.mem_cons_of_mem a hj))]]
        show ((⟨1, insAt (ks.map tabO) (plc (fun o : Ob => decide (0 < cmpB o.name (mkE k).object)) (ks.map tabO)) (tabO k)⟩ : Stt), (0 : Int)) = _
        rw [hp, insAt_map]
        rfl
  unfold applyS
  rw [if_neg (by rw [h.right]; decide), doAll]
  have hd : doS (stK ks) (mkE k) = makeS (stK ks) (mkE k) := by
    unfold doS
    rw [if_neg (by rw [(tab_right hk).2]; decide), if_pos (show (mkE k).kind = 1 from rfl)]
  rw [hd, hm]
  by_cases h1 : k ∈ ks
  · simp only [if_pos h1]; rfl
  · by_cases h2 : 20 ≤ ks.length
    · simp only [if_neg h1, if_pos h2]; rfl
    · simp only [if_neg h1, if_neg h2]; rfl
theorem KS.small {ks : List Nat} (h : KS ks) : (stK ks).small 0 := by
  refine ⟨(by show (-9223372036854775808 : Int) ≤ 1 ∧ (1 : Int) ≤ 9223372036854775807; decide), ?_, fun o ho => ?_⟩
  · show (ks.map tabO).length ≤ _
    rw [List.length_map]; have := h.len; omega
  · obtain ⟨k, hk, rfl⟩ := List.mem_map.1 (ho : o ∈ ks.map tabO)
    have hk := h.lt k hk
    have hsz : (nmL k).size ≤ 140737488351232 := by
      have hr := (right_ob (tab_right hk).1).1
      unfold effName at hr
      rw [Bool.and_eq_true, decide_eq_true_eq, decide_eq_true_eq] at hr
      have h2 : ((nmL k).size : Int) ≤ 16 := hr.2
      omega
    exact ⟨⟨hsz, (by show (-9223372036854775808 : Int) ≤ 1 ∧ (1 : Int) ≤ 9223372036854775807; decide), (by show (-9223372036854775808 : Int) ≤ 0 ∧ (0 : Int) ≤ 9223372036854775807; decide), (fun _ h => by cases h), (fun _ h => by cases h), (fun _ h => by cases h), Nat.zero_le _, Nat.zero_le _, Nat.zero_le _⟩, Nat.le_refl _, Nat.le_refl _, Nat.le_refl _⟩
end Go.Proofs.YthnmoiilaaoooaaGreat.L
