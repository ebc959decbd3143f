/- What an argument's reading tells: the cells of a value of each type, as lists and records of Lean. -/
import Derived.Test.YtlellgnklohclaaLaw
import Derived.ChangeArms
import Derived.RowKit
import Derived.ChangeMaps
import Derived.ChangeMaps5
import Derived.Carry
import Derived.OpenShut
namespace Go.Proofs.Ytlellgnklohclaa.L
open Go Go.RowKit Go.ChangeShapes

section
variable {H : Type} (enc : TypeId × Value → H) (P : Program) (W : World)
/-- Whatever is read as of type t, its cells hold an x of kind k, and B tells of x. -/
def Opens {α : Type} (k : Kd α) (t : TypeId) (B : α → Prop) : Prop :=
  ∀ fuel cs y, DataW.trod enc P W 0 (fun _ => true) true fuel t cs = some y → ∃ x, k.rd (heapOf W) x cs ∧ B x
end
section
variable {H : Type} {enc : TypeId × Value → H} {P : Program} {W : World}
theorem opens_int {t : TypeId} (ht : P.underlying t = some (.int .i64)) : Opens enc P W (Kd.int .i64) t (fun n => -9223372036854775808 ≤ n ∧ n ≤ 9223372036854775807) := fun fuel cs y h => by
  obtain ⟨n, rfl, _, hw⟩ := DataW.trod_int ht h
  exact ⟨n, rfl, bounds_i64 hw⟩
theorem opens_u8 {t : TypeId} (ht : P.underlying t = some (.int .u8)) : Opens enc P W Kd.u8 t (fun _ => True) := fun fuel cs y h => by
  obtain ⟨n, rfl, _, hw⟩ := DataW.trod_int ht h
  have hb : 0 ≤ n ∧ n ≤ 255 := by
    simp [Lit.wf, IntKind.min, IntKind.max, IntKind.signed, IntKind.bits] at hw
    omega
  refine ⟨UInt8.ofNat n.toNat, ?_, trivial⟩
  show [Value.int .u8 n] = [Value.int .u8 _]
  have : ((UInt8.ofNat n.toNat).toNat : Int) = n := by rw [UInt8.toNat_ofNat']; omega
  rw [this]
theorem opens_bool {t : TypeId} (ht : P.underlying t = some .bool) : Opens enc P W Kd.boolK t (fun _ => True) := fun fuel cs y h => by
  obtain ⟨b, rfl, _⟩ := DataW.trod_bool ht h
  exact ⟨b, rfl, trivial⟩
theorem opens_str {t : TypeId} (ht : P.underlying t = some .string) : Opens enc P W Kd.str t (fun s => (s.size : Int) ≤ 9223372036854775807) := fun fuel cs y h => by
  obtain ⟨s, rfl, _, hs⟩ := DataW.trod_string ht h
  exact ⟨s, rfl, sz_le hs⟩
/-- A slice's header, and the row behind it. -/
theorem opens_slice {α : Type} {k : Kd α} {B : α → Prop} {t e : TypeId} (ht : P.underlying t = some (.slice e)) (hc : P.cellsOf e = k.sz) (h0 : 0 < k.sz) (he : Opens enc P W k e B) {fuel : Nat} {cs : List Value} {y : DataW H × List MemPlace}
    (h : DataW.trod enc P W 0 (fun _ => true) true fuel t cs = some y) :
    ∃ (p : Option Addr) (xs : List α) (cap : Nat), cs = [.slice p xs.length cap] ∧ xs.length ≤ cap ∧ (cap : Int) ≤ 9223372036854775807 ∧ (∀ x ∈ xs, B x) ∧
      (xs = [] ∨ ∃ b o c e fr, p = some ⟨b, o, none⟩ ∧ W.heap[b]? = some (.cells c e fr) ∧ rowAt k (heapOf W) c o xs) := by
  rcases DataW.trod_slice ht h with ⟨rfl, _⟩ | ⟨a, len, cap, elems, rest, n, _, rfl, _, hb, hl, hm, hlen, hel, _⟩
  · exact ⟨none, [], 0, rfl, Nat.le_refl _, by decide, fun x hx => by simp at hx, .inl rfl⟩
  have hmax : (cap : Int) ≤ 9223372036854775807 := by unfold maxLen at hm; omega
  by_cases hl0 : len = 0
  · subst hl0
    exact ⟨some a, [], cap, rfl, Nat.zero_le _, hmax, fun x hx => by simp at hx, .inl rfl⟩
  have each : ∀ i : Fin len, ∃ x cs', W.cells? 0 (a.add (i.1 * k.sz)) k.sz = some cs' ∧ k.rd (heapOf W) x cs' ∧ B x := by
    intro i
    have h1 := hel i.1 i.2
    rw [List.getElem?_eq_getElem (by omega), hc, Option.bind_eq_some_iff] at h1
    obtain ⟨cs', h2, h3⟩ := h1
    obtain ⟨x, h4, h5⟩ := he _ _ _ h3
    exact ⟨x, cs', h2, h4, h5⟩
  let f : Fin len → α := fun i => Classical.choose (each i)
  have hf : ∀ i : Fin len, ∃ cs', W.cells? 0 (a.add (i.1 * k.sz)) k.sz = some cs' ∧ k.rd (heapOf W) (f i) cs' ∧ B (f i) := fun i => Classical.choose_spec (each i)
  have hlen2 : (List.ofFn f).length = len := List.length_ofFn
  -- the block
  obtain ⟨b, o, hab, c, ee, fr, hblk⟩ : ∃ b o, a = ⟨b, o, none⟩ ∧ ∃ c ee fr, W.heap[b]? = some (.cells c ee fr) := by
    obtain ⟨cs', h1, h2, _⟩ := hf ⟨0, by omega⟩
    obtain ⟨_, hl', hcell⟩ := World.cells?_some h1
    have h3 := hcell 0 h0
    have h4 : W.cell? a = some (cs'[0]'(by omega)) := by
      rw [← List.getElem?_eq_getElem (by omega)]
      simpa [Addr.add] using h3
    unfold World.cell? at h4
    obtain ⟨b, o, sp⟩ := a
    split at h4
    · rename_i c ee fr hb
      cases sp with
      | none => exact ⟨b, o, rfl, c, ee, fr, hb⟩
      | some s => simp at h4
    · cases h4
  subst hab
  refine ⟨some ⟨b, o, none⟩, List.ofFn f, cap, by rw [hlen2], by rw [hlen2]; exact hl, hmax, ?_, .inr ⟨b, o, c, ee, fr, rfl, hblk, ?_⟩⟩
  · intro x hx
    obtain ⟨i, rfl⟩ := List.mem_ofFn.1 hx
    obtain ⟨_, _, _, h⟩ := hf i
    exact h
  · intro i x hx
    obtain ⟨hi, hx2⟩ := List.getElem?_eq_some_iff.1 hx
    rw [List.getElem_ofFn] at hx2
    have hi' : i < len := by rwa [hlen2] at hi
    obtain ⟨cs', h1, h2, _⟩ := hf ⟨i, hi'⟩
    obtain ⟨_, hl', hcell⟩ := World.cells?_some h1
    refine ⟨cs', hx2 ▸ h2, fun j v hv => ?_⟩
    have hj : j < k.sz := by rw [← hl']; exact (List.getElem?_eq_some_iff.1 hv).1
    have h3 := hcell j hj
    rw [add_addr, add_addr, hv] at h3
    unfold World.cell? at h3
    have h4 : W.heap[(⟨b, o + i * k.sz + j, none⟩ : Addr).block]? = some (.cells c ee fr) := hblk
    rw [h4] at h3
    exact h3
/-- A record: the cells of each field are read. -/
theorem opens_fields {t : TypeId} {fs : Array Field} (ht : P.underlying t = some (.struct fs)) {fuel : Nat} {cs : List Value} {y : DataW H × List MemPlace} (h : DataW.trod enc P W 0 (fun _ => true) true fuel t cs = some y) :
    cs.length = P.cellsOf t ∧ ∃ n, ∀ (i : Nat) (f : Field), fs[i]? = some f → ∃ y, DataW.trod enc P W 0 (fun _ => true) true n f.type ((cs.drop f.offset).take (P.cellsOf f.type)) = some y := by
  obtain ⟨xs, n, _, _, hl, hlen, hf⟩ := DataW.trod_struct ht h
  refine ⟨hl, n, fun i f hi => ?_⟩
  have hi' : i < xs.length := by rw [hlen]; exact (Array.getElem?_eq_some_iff.1 hi).1
  exact ⟨xs[i], by rw [hf i f hi, List.getElem?_eq_getElem hi']⟩
end
end Go.Proofs.Ytlellgnklohclaa.L
