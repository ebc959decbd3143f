/- Walks: the example of the document; what frees all claimed messages. -/
import Derived.Test.YthnmoiilaaoooaaGreatE8
import Derived.Test.YthnmoiilaaoooaaGreatC7
namespace Go.Proofs.YthnmoiilaaoooaaGreat.L
open Go Go.Proofs
attribute [local irreducible] pv fv pt fz RowF RowO rowP old pure_ elA
set_option maxRecDepth 100000
set_option linter.unusedSimpArgs false
set_option linter.unusedVariables false

theorem pv_effs {ρ : World} {L : List HP} {w : World} {b t : Nat} {cs : List Value} (xs : List Eff) (hcs : cs = xs.flatMap Eff.cells) (h : St ρ (pv b t cs :: L) w) : St ρ (RowF Kd.eff (some ⟨b, 0, none⟩) xs :: L) w := pv_flat xs hcs h
theorem objs_len (s : Sz) : s.st.objs.length = s.l.length := List.length_map _
theorem cnt_obj {s : Sz} {n : Nat} (h : s.cnt s.l.length ≤ n) {o : Oz} (ho : o ∈ s.l) : o.x.cnt ≤ n := by
  obtain ⟨i, hi⟩ := List.mem_iff_getElem?.1 ho
  have h1 := cnt_succ hi
  have h2 := cnt_mono s (i + 1)
  omega
theorem good_of {s : Sz} {n : Nat} (hok : s.ok) (h : s.cnt s.l.length ≤ n) (hn : n ≤ 1000000) : s.good n := by
  refine ⟨⟨hok.1, ?_, fun ob hob => ?_⟩, hok.2.2.1, fun o ho => (hok.2.2.2 o ho).2⟩
  · rw [objs_len]
    have : s.l.length ≤ s.cnt s.l.length := by
      unfold Sz.cnt
      rw [List.take_length]
      generalize s.l = l
      induction l with
      | nil => exact Nat.le_refl _
      | cons o l ih =>
        simp only [List.length_cons, List.map_cons, List.sum_cons]
        have : 1 ≤ o.x.cnt := by unfold Ob.cnt; omega
        omega
    omega
  · obtain ⟨o, ho, rfl⟩ := List.mem_map.1 hob
    have hc := cnt_obj h ho
    unfold Ob.cnt at hc
    exact ⟨(hok.2.2.2 o ho).1, by omega, by omega, by omega⟩
end Go.Proofs.YthnmoiilaaoooaaGreat.L
