/- What an argument's reading tells, when its weights are bounded: rows, messages, objects, states. -/
import Derived.Test.YthnmoiilaaoooaaGreatSA
import Derived.SizedLaws
namespace Go.Proofs.YthnmoiilaaoooaaGreat.L
open Go Go.Proofs
set_option maxRecDepth 100000
set_option linter.unusedSimpArgs false
set_option linter.unusedVariables false
open Go Go.RowKit Go.ChangeShapes

/-- All the weights are within reach. -/
def Light {H : Type} (P : Program) (t : TypeId) (d : DataW H) : Prop := ∀ n ∈ d.weights P t, n ≤ reachBytes
def OpensW {H α : Type} (enc : TypeId × Value → H) (P : Program) (W : World) (k : Kd α) (t : TypeId) (B : α → Prop) : Prop :=
  ∀ fuel cs (y : DataW H × List MemPlace), DataW.trod enc P W 0 (fun _ => true) true fuel t cs = some y → Light P t y.1 → ∃ x, k.rd (heapOf W) x cs ∧ B x
/-- A row that stands in W. -/
def rowW {α : Type} (k : Kd α) (W : World) (p : Option Addr) (xs : List α) : Prop := xs = [] ∨ ∃ b o c e fr, p = some ⟨b, o, none⟩ ∧ W.heap[b]? = some (.cells c e fr) ∧ rowAt k (heapOf W) c o xs
section
variable {H : Type} {enc : TypeId × Value → H} {P : Program} {W : World}
theorem weights_all {e : TypeId} : ∀ {l : List (DataW H)} {d : DataW H}, d ∈ l → ∀ n ∈ d.weights P e, n ∈ DataW.weightsAll P e l
  | d0 :: l, d, hd, n, hn => by
    simp only [DataW.weightsAll, List.mem_append]
    rcases List.mem_cons.1 hd with h | h
    · subst h; exact .inl hn
    · exact .inr (weights_all h n hn)
theorem opensW_of {α : Type} {k : Kd α} {t : TypeId} {B : α → Prop} (h : Opens enc P W k t B) : OpensW enc P W k t B := fun fuel cs y hy _ => h fuel cs y hy
theorem opensW_str {t : TypeId} (ht : P.underlying t = some .string) : OpensW enc P W Kd.str t (fun s => s.size ≤ 140737488351232) := fun fuel cs y h hw => by
  obtain ⟨s, rfl, rfl, hs⟩ := DataW.trod_string ht h
  refine ⟨s, rfl, ?_⟩
  have := hw s.data.toList.length (by simp [DataW.weights])
  exact this
theorem opensW_slice {α : Type} {k : Kd α} {B : α → Prop} {t e : TypeId} (ht : P.underlying t = some (.slice e)) (hc : P.cellsOf e = k.sz) (h0 : 0 < k.sz) (hb : 0 < P.bytesOf e) (he : OpensW enc P W k e B) {fuel : Nat} {cs : List Value} {y : DataW H × List MemPlace}
    (h : DataW.trod enc P W 0 (fun _ => true) true fuel t cs = some y) (hw : Light P t y.1) :
    ∃ (p : Option Addr) (xs : List α) (cap : Nat), cs = [.slice p xs.length cap] ∧ xs.length ≤ cap ∧ xs.length ≤ 140737488351232 ∧ (∀ x ∈ xs, B x) ∧ rowW k W p xs := by
  have h1 := DataW.trod_slice ht h
  rcases h1 with ⟨rfl, _⟩ | ⟨a, len, cap, elems, rest, n, _, rfl, rfl, _, hl, hm, hlen, hel, _⟩
  · exact ⟨none, [], 0, rfl, Nat.le_refl _, Nat.zero_le _, fun x hx => by simp at hx, .inl rfl⟩
  have hsz : len ≤ 140737488351232 := by
    have h2 := hw ((elems.length + rest.length) * P.bytesOf e) (by simp [DataW.weights, ht])
    have h3 : elems.length + rest.length ≤ (elems.length + rest.length) * P.bytesOf e := Nat.le_mul_of_pos_right _ hb
    unfold reachBytes at h2
    omega
  by_cases hl0 : len = 0
  · subst hl0
    exact ⟨some a, [], cap, rfl, Nat.zero_le _, Nat.zero_le _, fun x hx => by simp at hx, .inl rfl⟩
  have each : ∀ i : Fin len, ∃ x cs', W.cells? 0 (a.add (i.1 * k.sz)) k.sz = some cs' ∧ k.rd (heapOf W) x cs' ∧ B x := by
    intro i
    have h1 := hel i.1 i.2
    rw [List.getElem?_eq_getElem (by omega), hc, Option.bind_eq_some_iff] at h1
    obtain ⟨cs', h2, h3⟩ := h1
    obtain ⟨x, h4, h5⟩ := he _ _ _ h3 (fun n hn => hw n (by
      simp only [DataW.weights, ht, List.mem_cons, List.mem_append]
      exact .inr (.inl (weights_all (List.mem_map.2 ⟨_, List.getElem_mem _, rfl⟩) n hn))))
    exact ⟨x, cs', h2, h4, h5⟩
  let f : Fin len → α := fun i => Classical.choose (each i)
  have hf : ∀ i : Fin len, ∃ cs', W.cells? 0 (a.add (i.1 * k.sz)) k.sz = some cs' ∧ k.rd (heapOf W) (f i) cs' ∧ B (f i) := fun i => Classical.choose_spec (each i)
  have hlen2 : (List.ofFn f).length = len := List.length_ofFn
  obtain ⟨b, o, hab, c, ee, fr, hblk⟩ : ∃ b o, a = ⟨b, o, none⟩ ∧ ∃ c ee fr, W.heap[b]? = some (.cells c ee fr) := by
    obtain ⟨cs', h1, h2, _⟩ := hf ⟨0, by omega⟩
    obtain ⟨_, hl', hcell⟩ := World.cells?_some h1
    have h3 := hcell 0 h0
    have h4 : W.cell? a = some (cs'[0]'(by omega)) := by
      rw [← List.getElem?_eq_getElem (by omega)]
      simpa [Addr.add] using h3
    unfold World.cell? at h4
    obtain ⟨b, o, sp⟩ := a
    split at h4
    · rename_i c ee fr hb
      cases sp with
      | none => exact ⟨b, o, rfl, c, ee, fr, hb⟩
      | some s => simp at h4
    · cases h4
  subst hab
  refine ⟨some ⟨b, o, none⟩, List.ofFn f, cap, by rw [hlen2], by rw [hlen2]; exact hl, by rw [hlen2]; exact hsz, ?_, .inr ⟨b, o, c, ee, fr, rfl, hblk, ?_⟩⟩
  · intro x hx
    obtain ⟨i, rfl⟩ := List.mem_ofFn.1 hx
    obtain ⟨_, _, _, h⟩ := hf i
    exact h
  · intro i x hx
    obtain ⟨hi, hx2⟩ := List.getElem?_eq_some_iff.1 hx
    rw [List.getElem_ofFn] at hx2
    have hi' : i < len := by rwa [hlen2] at hi
    obtain ⟨cs', h1, h2, _⟩ := hf ⟨i, hi'⟩
    obtain ⟨_, hl', hcell⟩ := World.cells?_some h1
    refine ⟨cs', hx2 ▸ h2, fun j v hv => ?_⟩
    have hj : j < k.sz := by rw [← hl']; exact (List.getElem?_eq_some_iff.1 hv).1
    have h3 := hcell j hj
    rw [add_addr, add_addr, hv] at h3
    unfold World.cell? at h3
    have h4 : W.heap[(⟨b, o + i * k.sz + j, none⟩ : Addr).block]? = some (.cells c ee fr) := hblk
    rw [h4] at h3
    exact h3
theorem opensW_fields {t : TypeId} {fs : Array Field} (ht : P.underlying t = some (.struct fs)) {fuel : Nat} {cs : List Value} {y : DataW H × List MemPlace} (h : DataW.trod enc P W 0 (fun _ => true) true fuel t cs = some y) (hw : Light P t y.1) :
    cs.length = P.cellsOf t ∧ ∃ n, ∀ (i : Nat) (f : Field), fs[i]? = some f → ∃ y, DataW.trod enc P W 0 (fun _ => true) true n f.type ((cs.drop f.offset).take (P.cellsOf f.type)) = some y ∧ Light P f.type y.1 := by
  obtain ⟨xs, n, _, rfl, hl, hlen, hf⟩ := DataW.trod_struct ht h
  refine ⟨hl, n, fun i f hi => ?_⟩
  have hi' : i < xs.length := by rw [hlen]; exact (Array.getElem?_eq_some_iff.1 hi).1
  refine ⟨xs[i], by rw [hf i f hi, List.getElem?_eq_getElem hi'], fun m hm => hw m ?_⟩
  simp only [DataW.weights, ht]
  refine DataW.weights_mem_each (j := i) (t := f.type) (d := xs[i].1) ?_ ?_ m hm
  · rw [List.getElem?_map]
    have : fs.toList[i]? = some f := by rw [Array.getElem?_toList]; exact hi
    rw [this]; rfl
  · rw [List.getElem?_map, List.getElem?_eq_getElem hi']; rfl
end
theorem len_2w (cs : List Value) (h : cs.length = 2) : ∃ v0 v1, cs = [v0, v1] := by
  match cs, h with
  | [v0, v1], _ => exact ⟨v0, v1, rfl⟩
theorem len_6w (cs : List Value) (h : cs.length = 6) : ∃ v0 v1 v2 v3 v4 v5, cs = [v0, v1, v2, v3, v4, v5] := by
  match cs, h with
  | [v0, v1, v2, v3, v4, v5], _ => exact ⟨v0, v1, v2, v3, v4, v5, rfl⟩
theorem opensW_rw {H : Type} {enc : TypeId × Value → H} {W : World} : OpensW enc Tryz.prog W Kd.rw 29 Rw.sm := fun fuel cs y h hw => by
  obtain ⟨hl, n, hf⟩ := opensW_fields Tryz.underlying29 h hw
  have hl2 : cs.length = 2 := hl.trans (by kernel_rfl)
  obtain ⟨v0, v1, rfl⟩ := len_2w cs hl2
  obtain ⟨y0, h0, w0⟩ := hf 0 _ rfl
  replace h0 : DataW.trod enc Tryz.prog W 0 (fun _ => true) true n 9 (([v0, v1].drop 0).take (Tryz.prog.cellsOf 9)) = some y0 := h0
  replace w0 : Light Tryz.prog 9 y0.1 := w0
  rw [show Tryz.prog.cellsOf 9 = 1 by kernel_rfl] at h0
  obtain ⟨x0, e0, b0⟩ := opensW_str Tryz.underlying9 _ _ _ h0 w0
  have u0 : v0 = Value.string x0 := (List.cons.inj (show [v0] = [Value.string x0] from e0)).1
  obtain ⟨y1, h1, w1⟩ := hf 1 _ rfl
  replace h1 : DataW.trod enc Tryz.prog W 0 (fun _ => true) true n 9 (([v0, v1].drop 1).take (Tryz.prog.cellsOf 9)) = some y1 := h1
  replace w1 : Light Tryz.prog 9 y1.1 := w1
  rw [show Tryz.prog.cellsOf 9 = 1 by kernel_rfl] at h1
  obtain ⟨x1, e1, b1⟩ := opensW_str Tryz.underlying9 _ _ _ h1 w1
  have u1 : v1 = Value.string x1 := (List.cons.inj (show [v1] = [Value.string x1] from e1)).1
  subst u0; subst u1
  exact ⟨⟨x0, x1⟩, rfl, b0, b1⟩
theorem opensW_msg {H : Type} {enc : TypeId × Value → H} {W : World} : OpensW enc Tryz.prog W Kd.msg 39 Msg.sm := fun fuel cs y h hw => by
  obtain ⟨hl, n, hf⟩ := opensW_fields Tryz.underlying39 h hw
  have hl2 : cs.length = 6 := hl.trans (by kernel_rfl)
  obtain ⟨v0, v1, v2, v3, v4, v5, rfl⟩ := len_6w cs hl2
  obtain ⟨y0, h0, w0⟩ := hf 0 _ rfl
  replace h0 : DataW.trod enc Tryz.prog W 0 (fun _ => true) true n 3 (([v0, v1, v2, v3, v4, v5].drop 0).take (Tryz.prog.cellsOf 3)) = some y0 := h0
  replace w0 : Light Tryz.prog 3 y0.1 := w0
  rw [show Tryz.prog.cellsOf 3 = 1 by kernel_rfl] at h0
  obtain ⟨x0, e0, b0⟩ := opensW_of (opens_int Tryz.underlying3) _ _ _ h0 w0
  have u0 : v0 = Value.int .i64 x0 := (List.cons.inj (show [v0] = [Value.int .i64 x0] from e0)).1
  obtain ⟨y1, h1, w1⟩ := hf 1 _ rfl
  replace h1 : DataW.trod enc Tryz.prog W 0 (fun _ => true) true n 3 (([v0, v1, v2, v3, v4, v5].drop 1).take (Tryz.prog.cellsOf 3)) = some y1 := h1
  replace w1 : Light Tryz.prog 3 y1.1 := w1
  rw [show Tryz.prog.cellsOf 3 = 1 by kernel_rfl] at h1
  obtain ⟨x1, e1, b1⟩ := opensW_of (opens_int Tryz.underlying3) _ _ _ h1 w1
  have u1 : v1 = Value.int .i64 x1 := (List.cons.inj (show [v1] = [Value.int .i64 x1] from e1)).1
  obtain ⟨y2, h2, w2⟩ := hf 2 _ rfl
  replace h2 : DataW.trod enc Tryz.prog W 0 (fun _ => true) true n 3 (([v0, v1, v2, v3, v4, v5].drop 2).take (Tryz.prog.cellsOf 3)) = some y2 := h2
  replace w2 : Light Tryz.prog 3 y2.1 := w2
  rw [show Tryz.prog.cellsOf 3 = 1 by kernel_rfl] at h2
  obtain ⟨x2, e2, b2⟩ := opensW_of (opens_int Tryz.underlying3) _ _ _ h2 w2
  have u2 : v2 = Value.int .i64 x2 := (List.cons.inj (show [v2] = [Value.int .i64 x2] from e2)).1
  obtain ⟨y3, h3, w3⟩ := hf 3 _ rfl
  replace h3 : DataW.trod enc Tryz.prog W 0 (fun _ => true) true n 4 (([v0, v1, v2, v3, v4, v5].drop 3).take (Tryz.prog.cellsOf 4)) = some y3 := h3
  replace w3 : Light Tryz.prog 4 y3.1 := w3
  rw [show Tryz.prog.cellsOf 4 = 1 by kernel_rfl] at h3
  obtain ⟨x3, e3, b3⟩ := opensW_of (opens_bool Tryz.underlying4) _ _ _ h3 w3
  have u3 : v3 = Value.bool x3 := (List.cons.inj (show [v3] = [Value.bool x3] from e3)).1
  obtain ⟨y4, h4, w4⟩ := hf 4 _ rfl
  replace h4 : DataW.trod enc Tryz.prog W 0 (fun _ => true) true n 9 (([v0, v1, v2, v3, v4, v5].drop 4).take (Tryz.prog.cellsOf 9)) = some y4 := h4
  replace w4 : Light Tryz.prog 9 y4.1 := w4
  rw [show Tryz.prog.cellsOf 9 = 1 by kernel_rfl] at h4
  obtain ⟨x4, e4, b4⟩ := opensW_str Tryz.underlying9 _ _ _ h4 w4
  have u4 : v4 = Value.string x4 := (List.cons.inj (show [v4] = [Value.string x4] from e4)).1
  obtain ⟨y5, h5, w5⟩ := hf 5 _ rfl
  replace h5 : DataW.trod enc Tryz.prog W 0 (fun _ => true) true n 9 (([v0, v1, v2, v3, v4, v5].drop 5).take (Tryz.prog.cellsOf 9)) = some y5 := h5
  replace w5 : Light Tryz.prog 9 y5.1 := w5
  rw [show Tryz.prog.cellsOf 9 = 1 by kernel_rfl] at h5
  obtain ⟨x5, e5, b5⟩ := opensW_str Tryz.underlying9 _ _ _ h5 w5
  have u5 : v5 = Value.string x5 := (List.cons.inj (show [v5] = [Value.string x5] from e5)).1
  subst u0; subst u1; subst u2; subst u3; subst u4; subst u5
  exact ⟨⟨x0, x1, x2, x3, x4, x5⟩, rfl, b0, b1, b2, b4, b5⟩
/-- An object's rows stand in W. -/
def nestW (W : World) (o : Oz) : Prop := rowW Kd.rw W o.z.q1 o.x.rows ∧ rowW Kd.msg W o.z.q2 o.x.msgs ∧ rowW Kd.msg W o.z.q3 o.x.dead
theorem opensW_oz {H : Type} {enc : TypeId × Value → H} {W : World} : OpensW enc Tryz.prog W Kd.oz 33 (fun o => o.ok ∧ nestW W o) := fun fuel cs y h hw => by
  obtain ⟨hl, n, hf⟩ := opensW_fields Tryz.underlying33 h hw
  have hl2 : cs.length = 6 := hl.trans (by kernel_rfl)
  obtain ⟨v0, v1, v2, v3, v4, v5, rfl⟩ := len_6w cs hl2
  obtain ⟨y0, h0, w0⟩ := hf 0 _ rfl
  replace h0 : DataW.trod enc Tryz.prog W 0 (fun _ => true) true n 9 (([v0, v1, v2, v3, v4, v5].drop 0).take (Tryz.prog.cellsOf 9)) = some y0 := h0
  replace w0 : Light Tryz.prog 9 y0.1 := w0
  rw [show Tryz.prog.cellsOf 9 = 1 by kernel_rfl] at h0
  obtain ⟨x0, e0, b0⟩ := opensW_str Tryz.underlying9 _ _ _ h0 w0
  have u0 : v0 = Value.string x0 := (List.cons.inj (show [v0] = [Value.string x0] from e0)).1
  obtain ⟨y1, h1, w1⟩ := hf 1 _ rfl
  replace h1 : DataW.trod enc Tryz.prog W 0 (fun _ => true) true n 3 (([v0, v1, v2, v3, v4, v5].drop 1).take (Tryz.prog.cellsOf 3)) = some y1 := h1
  replace w1 : Light Tryz.prog 3 y1.1 := w1
  rw [show Tryz.prog.cellsOf 3 = 1 by kernel_rfl] at h1
  obtain ⟨x1, e1, b1⟩ := opensW_of (opens_int Tryz.underlying3) _ _ _ h1 w1
  have u1 : v1 = Value.int .i64 x1 := (List.cons.inj (show [v1] = [Value.int .i64 x1] from e1)).1
  obtain ⟨y2, h2, w2⟩ := hf 2 _ rfl
  replace h2 : DataW.trod enc Tryz.prog W 0 (fun _ => true) true n 3 (([v0, v1, v2, v3, v4, v5].drop 2).take (Tryz.prog.cellsOf 3)) = some y2 := h2
  replace w2 : Light Tryz.prog 3 y2.1 := w2
  rw [show Tryz.prog.cellsOf 3 = 1 by kernel_rfl] at h2
  obtain ⟨x2, e2, b2⟩ := opensW_of (opens_int Tryz.underlying3) _ _ _ h2 w2
  have u2 : v2 = Value.int .i64 x2 := (List.cons.inj (show [v2] = [Value.int .i64 x2] from e2)).1
  obtain ⟨y3, h3, w3⟩ := hf 3 _ rfl
  replace h3 : DataW.trod enc Tryz.prog W 0 (fun _ => true) true n 30 (([v0, v1, v2, v3, v4, v5].drop 3).take (Tryz.prog.cellsOf 30)) = some y3 := h3
  replace w3 : Light Tryz.prog 30 y3.1 := w3
  rw [show Tryz.prog.cellsOf 30 = 1 by kernel_rfl] at h3
  obtain ⟨p3, x3, c3, e3, l3, m3, b3, g3⟩ := opensW_slice Tryz.underlying30 (by kernel_rfl) (by decide) (of_decide_eq_true (by kernel_rfl)) opensW_rw h3 w3
  have u3 : v3 = Value.slice p3 x3.length c3 := (List.cons.inj (show [v3] = [_] from e3)).1
  obtain ⟨y4, h4, w4⟩ := hf 4 _ rfl
  replace h4 : DataW.trod enc Tryz.prog W 0 (fun _ => true) true n 31 (([v0, v1, v2, v3, v4, v5].drop 4).take (Tryz.prog.cellsOf 31)) = some y4 := h4
  replace w4 : Light Tryz.prog 31 y4.1 := w4
  rw [show Tryz.prog.cellsOf 31 = 1 by kernel_rfl] at h4
  obtain ⟨p4, x4, c4, e4, l4, m4, b4, g4⟩ := opensW_slice Tryz.underlying31 (by kernel_rfl) (by decide) (of_decide_eq_true (by kernel_rfl)) opensW_msg h4 w4
  have u4 : v4 = Value.slice p4 x4.length c4 := (List.cons.inj (show [v4] = [_] from e4)).1
  obtain ⟨y5, h5, w5⟩ := hf 5 _ rfl
  replace h5 : DataW.trod enc Tryz.prog W 0 (fun _ => true) true n 31 (([v0, v1, v2, v3, v4, v5].drop 5).take (Tryz.prog.cellsOf 31)) = some y5 := h5
  replace w5 : Light Tryz.prog 31 y5.1 := w5
  rw [show Tryz.prog.cellsOf 31 = 1 by kernel_rfl] at h5
  obtain ⟨p5, x5, c5, e5, l5, m5, b5, g5⟩ := opensW_slice Tryz.underlying31 (by kernel_rfl) (by decide) (of_decide_eq_true (by kernel_rfl)) opensW_msg h5 w5
  have u5 : v5 = Value.slice p5 x5.length c5 := (List.cons.inj (show [v5] = [_] from e5)).1
  subst u0; subst u1; subst u2; subst u3; subst u4; subst u5
  exact ⟨⟨⟨x0, x1, x2, x3, x4, x5⟩, ⟨p3, c3, p4, c4, p5, c5⟩⟩, rfl, ⟨⟨b0, b1, b2, b3, b4, b5, m3, m4, m5⟩, l3, l4, l5⟩, g3, g4, g5⟩
theorem opensW_st {H : Type} {enc : TypeId × Value → H} {W : World} : ∀ fuel cs (y : DataW H × List MemPlace), DataW.trod enc Tryz.prog W 0 (fun _ => true) true fuel 24 cs = some y → Light Tryz.prog 24 y.1 →
    ∃ s : Sz, cs = s.cells ∧ s.ok ∧ rowW Kd.oz W s.q s.l ∧ ∀ o ∈ s.l, nestW W o := fun fuel cs y h hw => by
  obtain ⟨hl, n, hf⟩ := opensW_fields Tryz.underlying24 h hw
  have hl2 : cs.length = 2 := hl.trans (by kernel_rfl)
  obtain ⟨v0, v1, rfl⟩ := len_2w cs hl2
  obtain ⟨y0, h0, w0⟩ := hf 0 _ rfl
  replace h0 : DataW.trod enc Tryz.prog W 0 (fun _ => true) true n 3 (([v0, v1].drop 0).take (Tryz.prog.cellsOf 3)) = some y0 := h0
  replace w0 : Light Tryz.prog 3 y0.1 := w0
  rw [show Tryz.prog.cellsOf 3 = 1 by kernel_rfl] at h0
  obtain ⟨x0, e0, b0⟩ := opensW_of (opens_int Tryz.underlying3) _ _ _ h0 w0
  have u0 : v0 = Value.int .i64 x0 := (List.cons.inj (show [v0] = [Value.int .i64 x0] from e0)).1
  obtain ⟨y1, h1, w1⟩ := hf 1 _ rfl
  replace h1 : DataW.trod enc Tryz.prog W 0 (fun _ => true) true n 22 (([v0, v1].drop 1).take (Tryz.prog.cellsOf 22)) = some y1 := h1
  replace w1 : Light Tryz.prog 22 y1.1 := w1
  rw [show Tryz.prog.cellsOf 22 = 1 by kernel_rfl] at h1
  obtain ⟨p1, x1, c1, e1, l1, m1, b1, g1⟩ := opensW_slice Tryz.underlying22 (by kernel_rfl) (by decide) (of_decide_eq_true (by kernel_rfl)) opensW_oz h1 w1
  have u1 : v1 = Value.slice p1 x1.length c1 := (List.cons.inj (show [v1] = [_] from e1)).1
  subst u0; subst u1
  exact ⟨⟨x0, p1, c1, x1⟩, rfl, ⟨b0, m1, l1, fun o ho => (b1 o ho).1⟩, g1, fun o ho => (b1 o ho).2⟩
theorem rowW_hold {α : Type} {k : Kd α} {W : World} {p : Option Addr} {xs : List α} {g : Hp} (h : rowW k W p xs) (hg : Hp.le (heapOf W) g) : (RowF k p xs).holds g (fun _ => none) :=
  h.imp id fun ⟨b, o, c, e, fr, hp, hb, hr⟩ => ⟨b, o, c, e, fr, hp, hg _ _ hb, hr.mono hg⟩
theorem St.nestOf {W : World} {L : List HP} {w : World} {l : List Oz} (m : old W ∈ L) (h : ∀ o ∈ l, nestW W o) (hs : St W L w) : St W (NestF l :: L) w :=
  St.derive m rfl (fun _ _ hg => fun o ho => ⟨rowW_hold (h o ho).1 hg, rowW_hold (h o ho).2.1 hg, rowW_hold (h o ho).2.2 hg⟩) hs
theorem St.stOf {W : World} {L : List HP} {w : World} {s : Sz} (m : old W ∈ L) (h1 : rowW Kd.oz W s.q s.l) (h2 : ∀ o ∈ s.l, nestW W o) (hs : St W L w) : St W (StL s ++ L) w :=
  St.rowOf (List.Mem.tail _ m) h1 (St.nestOf m h2 hs)
end Go.Proofs.YthnmoiilaaoooaaGreat.L
