/- Append, copies of rows, texts and bytes, make. -/
import Derived.Test.YtlellgnklohclaaOps4
namespace Go.Proofs.Ytlellgnklohclaa.L
open Go Go.RowKit

/-- What the cells say, as a frozen fact. -/
def rowP {α : Type} (k : Kd α) (c : Array Value) (o : Nat) (xs : List α) : HP := HP.per (fun g => rowAt k g c o xs) (fun hg h => h.mono hg)
section
variable {α : Type} {k : Kd α} {ρ : World} {L : List HP} {w : World}
theorem sepAll_cons_per {A : HP} (hp : A.pers = true) {g h : Hp} {h1 : Hp} (ha : A.holds g h1) (hl : sepAll L g h) : sepAll (A :: L) g h :=
  ⟨fun _ => none, h, fun _ => .inl rfl, Hp.none_le _, Hp.le_refl _, A.free hp ha, hl⟩
theorem rowO_open {e : TypeId} {p : Option Addr} {cap : Nat} {xs : List α} (h : St ρ (RowO k e p cap xs :: L) w) :
    (p = none ∧ cap = 0 ∧ xs = [] ∧ St ρ L w) ∨ ∃ b o c, p = some ⟨b, o, none⟩ ∧ xs.length ≤ cap ∧ c.size = o + cap * k.sz ∧ St ρ (pt b (.cells c e (0, 0)) :: rowP k c o xs :: L) w := by
  obtain ⟨g, q, a, b, c, h1, h2, ap, l1, l2, ha, d⟩ := h.body
  rcases (ha : _ ∨ _) with ⟨hp, hc, hx⟩ | ⟨b', o, cc, hp, hl, hb, hs, hr⟩
  · exact .inl ⟨hp, hc, hx, h.tail⟩
  · exact .inr ⟨b', o, cc, hp, hl, hs, h.os, h.tape, h.output, g, q, a, b, c, h1, h2, ap, l1, l2, hb, sepAll_cons_per (A := rowP k cc o xs) rfl (h1 := fun _ => none) hr d⟩
theorem rowO_shut {e : TypeId} {b o cap : Nat} {c : Array Value} {xs : List α} (hs : c.size = o + cap * k.sz) (hl : xs.length ≤ cap) (h : St ρ (pt b (.cells c e (0, 0)) :: rowP k c o xs :: L) w) : St ρ (RowO k e (some ⟨b, o, none⟩) cap xs :: L) w := by
  obtain ⟨g, q, a, b', c', h1, h2, ap, l1, l2, ha, k1, k2, ap', m1, m2, hr, d⟩ := h.body
  exact ⟨h.os, h.tape, h.output, g, q, a, b', c', h1, h2, ap, l1, l2, .inr ⟨b, o, c, rfl, hl, ha, hs, hr⟩, sepAll_mono (Hp.le_refl _) m2 d⟩
theorem rowF_open {p : Option Addr} {xs : List α} (m : RowF k p xs ∈ L) (h : St ρ L w) :
    xs = [] ∨ ∃ b o c e fr, p = some ⟨b, o, none⟩ ∧ St ρ (fz b (.cells c e fr) :: rowP k c o xs :: L) w := by
  obtain ⟨g, q, a, b, c, d⟩ := h.body
  obtain ⟨_, _, ha⟩ := sepAll_mem m d
  rcases (ha : _ ∨ _) with hx | ⟨b', o, cc, e, fr, hp, hb, hr⟩
  · exact .inl hx
  · exact .inr ⟨b', o, cc, e, fr, hp, h.os, h.tape, h.output, g, q, a, b, c, sepAll_cons_per (A := fz b' (.cells cc e fr)) rfl (h1 := fun _ => none) hb (sepAll_cons_per (A := rowP k cc o xs) rfl (h1 := fun _ => none) hr d)⟩
theorem rowF_shut {b o : Nat} {c : Array Value} {e : TypeId} {fr : Nat × Nat} {xs : List α} (m1 : fz b (.cells c e fr) ∈ L) (m2 : rowP k c o xs ∈ L) (h : St ρ L w) : St ρ (RowF k (some ⟨b, o, none⟩) xs :: L) w := by
  obtain ⟨g, q, a, b', c', d⟩ := h.body
  obtain ⟨_, _, h1⟩ := sepAll_mem m1 d
  obtain ⟨_, _, h2⟩ := sepAll_mem m2 d
  exact ⟨h.os, h.tape, h.output, g, q, a, b', c', sepAll_cons_per (A := RowF k (some ⟨b, o, none⟩) xs) rfl (h1 := fun _ => none) (.inr ⟨b, o, c, e, fr, rfl, h1, h2⟩) d⟩
theorem St.derive2 {A A' B : HP} (m : A ∈ L) (m' : A' ∈ L) (hp : B.pers = true) (hi : ∀ g h h', A.holds g h → A'.holds g h' → B.holds g h) (h : St ρ L w) : St ρ (B :: L) w := by
  obtain ⟨g, q, a, b, c, d⟩ := h.body
  obtain ⟨_, _, h1⟩ := sepAll_mem m d
  obtain ⟨_, _, h2⟩ := sepAll_mem m' d
  exact ⟨h.os, h.tape, h.output, g, q, a, b, c, sepAll_cons_per hp (hi _ _ _ h1 h2) d⟩
end
theorem rowAt.size {α : Type} {k : Kd α} {g : Hp} {c : Array Value} {o : Nat} {xs : List α} (h : rowAt k g c o xs) (hz : xs.length * k.sz ≠ 0) : o + xs.length * k.sz ≤ c.size := by
  cases hl : xs.length with
  | zero => rw [hl] at hz; simp at hz
  | succ n =>
    have hk : k.sz ≠ 0 := fun e => by rw [e] at hz; simp at hz
    obtain ⟨x, hx⟩ : ∃ x, xs[n]? = some x := ⟨xs[n]'(by omega), List.getElem?_eq_getElem _⟩
    obtain ⟨cs, hr, hc⟩ := h n x hx
    have hlen := k.len hr
    have hj : k.sz - 1 < cs.length := by omega
    have := hc (k.sz - 1) _ (List.getElem?_eq_getElem hj)
    have hlt := (Array.getElem?_eq_some_iff.1 this).1
    rw [Nat.succ_mul]
    omega
theorem rowAt.one {α : Type} {k : Kd α} {g : Hp} {c : Array Value} {o : Nat} {xs : List α} (h : rowAt k g c o xs) {j : Nat} {v : Value} (hj : j < xs.length * k.sz) (hv : c[o + j]? = some v) : v.oneCell' = true := by
  have hk : 0 < k.sz := by
    rcases Nat.eq_zero_or_pos k.sz with e | e
    · rw [e] at hj; simp at hj
    · exact e
  have hi : j / k.sz < xs.length := (Nat.div_lt_iff_lt_mul hk).2 hj
  obtain ⟨cs, hr, hc⟩ := h (j / k.sz) _ (List.getElem?_eq_getElem hi)
  have hm : j % k.sz < cs.length := by rw [k.len hr]; exact Nat.mod_lt _ hk
  have h1 := hc (j % k.sz) _ (List.getElem?_eq_getElem hm)
  have e : o + j / k.sz * k.sz + j % k.sz = o + j := by have := Nat.div_add_mod' j k.sz; omega
  rw [e, hv] at h1
  rw [Option.some.inj h1]
  exact k.one hr _ (List.getElem_mem hm)
/-- The cells of a row, cut out. -/
theorem rowAt.cut {α : Type} {k : Kd α} {g : Hp} {c : Array Value} {o : Nat} {xs : List α} (h : rowAt k g c o xs) : rowAt k g (c.extract o (o + xs.length * k.sz)) 0 xs := fun i x hx => by
  obtain ⟨cs, hr, hc⟩ := h i x hx
  refine ⟨cs, hr, fun j v hv => ?_⟩
  have h1 := hc j v hv
  have hi : i < xs.length := (List.getElem?_eq_some_iff.1 hx).1
  have hj : j < k.sz := by rw [← k.len hr]; exact (List.getElem?_eq_some_iff.1 hv).1
  have hm : (i + 1) * k.sz ≤ xs.length * k.sz := Nat.mul_le_mul_right _ hi
  rw [Nat.succ_mul] at hm
  have hlt := (Array.getElem?_eq_some_iff.1 h1).1
  rw [Array.getElem?_extract]
  rw [if_pos (by omega)]
  rw [← h1]
  congr 1
  omega
theorem rowAt.append {α : Type} {k : Kd α} {g : Hp} {c c' : Array Value} {o o' : Nat} {xs ys : List α} (h : rowAt k g c o xs) (h' : rowAt k g c' o' ys) {d : Array Value} {q : Nat}
    (h1 : ∀ j, j < xs.length * k.sz → d[q + j]? = c[o + j]?) (h2 : ∀ j, j < ys.length * k.sz → d[q + xs.length * k.sz + j]? = c'[o' + j]?) : rowAt k g d q (xs ++ ys) := fun i x hx => by
  have bound : ∀ {n i j : Nat} {cs : List Value}, i < n → cs.length = k.sz → j < cs.length → i * k.sz + j < n * k.sz := fun {n i j cs} hi hl hj => by
    have hm : (i + 1) * k.sz ≤ n * k.sz := Nat.mul_le_mul_right _ hi
    rw [Nat.succ_mul] at hm
    omega
  by_cases hi : i < xs.length
  · rw [List.getElem?_append_left hi] at hx
    obtain ⟨cs, hr, hc⟩ := h i x hx
    refine ⟨cs, hr, fun j v hv => ?_⟩
    have hj := (List.getElem?_eq_some_iff.1 hv).1
    rw [Nat.add_assoc, h1 _ (bound hi (k.len hr) hj), ← Nat.add_assoc]
    exact hc j v hv
  · rw [List.getElem?_append_right (by omega)] at hx
    obtain ⟨cs, hr, hc⟩ := h' _ x hx
    refine ⟨cs, hr, fun j v hv => ?_⟩
    have hj := (List.getElem?_eq_some_iff.1 hv).1
    have hi' := (List.getElem?_eq_some_iff.1 hx).1
    have e : i * k.sz = xs.length * k.sz + (i - xs.length) * k.sz := by rw [← Nat.add_mul]; congr 1; omega
    have := h2 ((i - xs.length) * k.sz + j) (bound hi' (k.len hr) hj)
    rw [show q + i * k.sz + j = q + xs.length * k.sz + ((i - xs.length) * k.sz + j) by omega, this, ← Nat.add_assoc]
    exact hc j v hv
theorem run_loadCells {P : Program} {w : World} {b o n : Nat} {c : Array Value} {e : TypeId} {fr : Nat × Nat} (hb : w.heap[b]? = some (.cells c e fr)) (hn : o + n ≤ c.size) : (loadCells ⟨b, o, none⟩ n).run P w = .ok (c.extract o (o + n)) w := by
  have hl : (c.extract o (o + n)).toList.length = n := by simp; omega
  have := run_loadCellsFrom (P := P) (w := w) (b := b) (o := o) (c.extract o (o + n)).toList 0 #[] (fun j v hv => by
    rw [Nat.zero_add]
    refine cell_of_heap hb ?_
    rw [Array.getElem?_toList, Array.getElem?_extract] at hv
    split at hv
    · exact hv
    · cases hv)
  rw [hl] at this
  unfold loadCells
  rw [this]
  congr 1
  apply Array.ext'
  simp
theorem growBy_le : ∀ (r n c : Nat), c ≤ n → Builtin.growBy n r c ≤ n + (n + 768) / 4
  | 0, n, c, h => by simp only [Builtin.growBy]; omega
  | r + 1, n, c, h => by
    simp only [Builtin.growBy]
    split
    · omega
    · rename_i hc
      by_cases h2 : c + (c + 768) / 4 ≤ n
      · exact growBy_le r n _ h2
      · cases r with
        | zero => simp only [Builtin.growBy]; omega
        | succ r => simp only [Builtin.growBy]; rw [if_pos (by omega)]; omega
theorem nextcap_le {n c : Nat} (h : c < n) : Builtin.nextslicecap n c ≤ 2 * n + 768 := by
  unfold Builtin.nextslicecap
  split
  · omega
  · split
    · omega
    · have := growBy_le 4 n c (by omega); omega

section
variable {X : Fx} {E : Env} {L L1 : List HP} {d : Option Tmp} {ty : TypeId} {pos : String} {af : Array Edge} {gd : Option (Nat × Bool)}
/-- append(s, x...), s owned: what is appended comes out of 'new'. -/
theorem run_append {P : Program} {w : World} {α : Type} {k : Kd α} {ρ : World} {s t t2 e bytes m : Nat} {p : Option Addr} {cap : Nat} {xs ys : List α} {x : Value} {new : Array Value} {ds : TypeDesc}
    (ht : slElem P t = some (e, k.sz, bytes)) (ht2 : P.underlying t2 = some ds) (hds : ∀ q, ds ≠ .int q) (hlen : ∀ w, (Builtin.lenOf x).run P w = .ok m w) (hm : ys.length = m)
    (hnew : ∀ n, (Builtin.firstCells k.sz m x).run P { w with drawn := n } = .ok new { w with drawn := n }) (hsz : new.size = m * k.sz) (hone : ∀ v ∈ new.toList, v.oneCell' = true)
    (mrow : rowP k new 0 ys ∈ L1) (hz : ∃ z, zeroOf P e = some z ∧ z.length = k.sz) (hs : s = xs.length) (hby : bytes ≠ 0) (hbig : (2 * (xs.length + m) + 768) * bytes ≤ 281474976710656)
    (hst : St ρ (RowO k e p cap xs :: L1) w) :
    ∃ p' cap' w', (Builtin.append_ #[t, t2] ty #[.slice p s cap, x]).run P w = .ok (.slice p' (xs ++ ys).length cap') w' ∧ St ρ (RowO k e p' cap' (xs ++ ys) :: L1) w' := by
  subst hs
  have ht0 := ht
  unfold slElem at ht
  cases hu : P.underlying t with
  | none => rw [hu] at ht; simp at ht
  | some dd =>
    cases dd <;> rw [hu] at ht <;> simp only [reduceCtorEq] at ht
    rename_i e'
    cases hi : P.info? e' with
    | none => rw [hi] at ht; simp at ht
    | some inf =>
      rw [hi] at ht
      simp only [Option.some.injEq, Prod.mk.injEq] at ht
      obtain ⟨rfl, hisz, hiby⟩ := ht
      have hlenapp : (xs ++ ys).length = xs.length + m := by simp [hm]
      by_cases hfit : xs.length + m ≤ cap
      · -- room
        have common : (Builtin.append_ #[t, t2] ty #[.slice p xs.length cap, x]).run P w =
            (match p with
              | some a => ((storeCells (a.add (xs.length * k.sz)) new.toList).run P w).andThen fun _ w' => .ok (.slice p (xs.length + m) cap) w'
              | none => .ok (.slice p (xs.length + m) cap) w) := by
          have hn1 : (Builtin.firstCells k.sz m x).run P w = .ok new w := hnew w.drawn
          cases p <;> simp [Builtin.append_, underlying, hu, sizeOf, typeInfo, hi, hisz, ht2, hlen, hfit, hn1]
        rcases rowO_open hst with ⟨rfl, rfl, rfl, hL⟩ | ⟨b, o, c, rfl, hl, hcs, hL⟩
        · have hm0 : m = 0 := by simp at hfit; omega
          have : ys = [] := by cases ys with | nil => rfl | cons _ _ => simp at hm; omega
          subst this
          refine ⟨none, 0, w, ?_, hst⟩
          rw [common]
          simp [hm0]
        · have hb := hL.pt_heap (List.Mem.head _)
          have hmul : xs.length * k.sz + m * k.sz ≤ cap * k.sz := by rw [← Nat.add_mul]; exact Nat.mul_le_mul_right _ hfit
          have hrun := run_storeCells (P := P) (b := b) (o := o + xs.length * k.sz) new.toList 0 w c hb hone (by simp [hsz]; omega)
          rw [Nat.add_zero] at hrun
          have hL2 := hL.put (.cells (spl c (o + xs.length * k.sz) new.toList) e' (0, 0))
          have hget : ∀ j, (spl c (o + xs.length * k.sz) new.toList)[j]? = if o + xs.length * k.sz ≤ j ∧ j < o + xs.length * k.sz + new.toList.length then new.toList[j - (o + xs.length * k.sz)]? else c[j]? := fun j =>
            spl_get _ _ _ _ (by simp [hsz]; omega)
          have hL3 := St.derive2 (B := rowP k (spl c (o + xs.length * k.sz) new.toList) o (xs ++ ys)) (List.Mem.tail _ (List.Mem.head _)) (List.Mem.tail _ (List.Mem.tail _ mrow)) rfl
            (fun g _ _ h1 h2 => rowAt.append (h1 : rowAt k g c o xs) (h2 : rowAt k g new 0 ys)
              (fun j hj => by rw [hget, if_neg (by omega)])
              (fun j hj => by rw [hget, if_pos (by simp [hsz]; rw [hm] at hj; omega), Nat.zero_add, Array.getElem?_toList]; congr 1; omega)) hL2
          have hL4 := ((hL3.pick (.there .here)).pick (.there (.there .here))).tail
          refine ⟨some ⟨b, o, none⟩, cap, _, ?_, rowO_shut (by rw [spl_size]; exact hcs) (by omega) hL4⟩
          rw [common]
          simp only [add_addr]
          rw [hrun]
          simp only [Result.andThen_ok, hlenapp]
      · -- a new array
        obtain ⟨z, hz1, hz2⟩ := hz
        unfold zeroOf at hz1
        rw [hi] at hz1
        simp only [Option.bind_some] at hz1
        obtain ⟨zv, hzv, hzc⟩ := Option.map_eq_some_iff.1 hz1
        have hn2 : Builtin.nextslicecap (xs.length + m) cap ≤ 2 * (xs.length + m) + 768 := nextcap_le (by omega)
        have hbig' : ¬ (Builtin.nextslicecap (xs.length + m) cap * inf.bytes > 2 ^ 48) := by
          have := Nat.mul_le_mul_right inf.bytes hn2
          rw [hiby] at this ⊢
          omega
        obtain ⟨old, hold, holdsz, hdrop⟩ : ∃ old : Array Value, (∀ n, (Builtin.firstCells k.sz xs.length (.slice p xs.length cap)).run P { w with drawn := n } = .ok old { w with drawn := n }) ∧ old.size = xs.length * k.sz ∧ St ρ (rowP k old 0 xs :: L1) w := by
          rcases rowO_open hst with ⟨rfl, rfl, rfl, hL⟩ | ⟨b, o, c, rfl, hl, hcs, hL⟩
          · refine ⟨#[], fun n => by simp [Builtin.firstCells], by simp, ?_⟩
            obtain ⟨g, q, a, b, c, dd⟩ := hL.body
            exact ⟨hL.os, hL.tape, hL.output, g, q, a, b, c, sepAll_cons_per (A := rowP k #[] 0 []) rfl (h1 := fun _ => none) (fun i x hx => by simp at hx) dd⟩
          · have hb := hL.pt_heap (List.Mem.head _)
            have hle : xs.length * k.sz ≤ cap * k.sz := Nat.mul_le_mul_right _ hl
            refine ⟨c.extract o (o + xs.length * k.sz), fun n => ?_, by simp; omega, ?_⟩
            · simp only [Builtin.firstCells]
              exact run_loadCells (w := { w with drawn := n }) hb (by omega)
            · exact St.turn (fun g _ h => (h : rowAt k g c o xs).cut) hL.tail
        have hforced : (Question.appendCap (xs.length + m) cap e').forced = false := rfl
        let nc := (Question.appendCap (xs.length + m) cap e').cut (w.tape w.drawn (Question.appendCap (xs.length + m) cap e'))
        have hnc : xs.length + m ≤ nc := Nat.le_add_right _ _
        let arr : Array Value := old ++ new ++ Builtin.zeroCells zv.cells (nc - (xs.length + m))
        have hrun : (Builtin.append_ #[t, t2] ty #[.slice p xs.length cap, x]).run P w = .ok (.slice (some ⟨w.heap.size, 0, none⟩) (xs.length + m) nc) { w with drawn := w.drawn + 1, heap := w.heap.push (.cells arr e') } := by
          have hold' : (Builtin.firstCells k.sz xs.length (.slice p xs.length cap)).run P w.drew = .ok old w.drew := hold (w.drawn + 1)
          have hn1' : (Builtin.firstCells k.sz m x).run P w.drew = .ok new w.drew := hnew (w.drawn + 1)
          have hb0 : ¬ inf.bytes = 0 := by rw [hiby]; exact hby
          simp [Builtin.append_, underlying, hu, sizeOf, typeInfo, hi, hisz, ht2, hlen, hfit, hbig', hforced, hold', hn1', zeroValue, hzv, newRow, nc, arr, hb0]
          rfl
        refine ⟨_, _, _, by rw [hlenapp]; exact hrun, ?_⟩
        have hL1 := (hdrop.drewN (w.drawn + 1)).alloc (.cells arr e')
        have hzl : zv.cells.size = k.sz := by rw [← hz2, ← hzc]; simp
        have harr : arr.size = 0 + nc * k.sz := by
          have : nc * k.sz = (xs.length * k.sz + m * k.sz) + (nc - (xs.length + m)) * k.sz := by rw [← Nat.add_mul, ← Nat.add_mul]; congr 1; omega
          simp only [arr, Array.size_append, holdsz, hsz, Builtin.zeroCells, Array.size_map, Array.size_range, hzl]
          omega
        have hL3 := St.derive2 (B := rowP k arr 0 (xs ++ ys)) (List.Mem.tail _ (List.Mem.head _)) (List.Mem.tail _ (List.Mem.tail _ mrow)) rfl
            (fun g _ _ h1 h2 => rowAt.append (h1 : rowAt k g old 0 xs) (h2 : rowAt k g new 0 ys)
              (fun j hj => by
                rw [Nat.zero_add]
                simp only [arr]
                rw [Array.getElem?_append_left (by simp [holdsz, hsz]; omega), Array.getElem?_append_left (by omega)])
              (fun j hj => by
                rw [hm] at hj
                simp only [arr, Nat.zero_add]
                rw [Array.getElem?_append_left (by simp [holdsz, hsz]; omega), Array.getElem?_append_right (by omega)]
                congr 1
                omega)) hL1
        have hL4 := ((hL3.pick (.there .here)).pick (.there (.there .here))).tail
        exact rowO_shut harr (by omega) hL4
end
end Go.Proofs.Ytlellgnklohclaa.L
