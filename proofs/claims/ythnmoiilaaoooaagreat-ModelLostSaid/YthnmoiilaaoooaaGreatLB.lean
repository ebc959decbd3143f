/- Append, copies of rows, texts and bytes, make. Append as an operation; bytes and texts; make; copy. From a contract to a law's call: whatever the world W, the law answers true and leaves all that W held as it was. What an argument's reading tells: the cells of a value of each type, as lists and records of Lean. -/
import Derived.Test.YthnmoiilaaoooaaGreatLA
import Derived.Laws.BytesString
import Derived.ChangeArms
import Derived.RowKit
import Derived.ChangeMaps
import Derived.ChangeMaps5
import Derived.Carry
import Derived.OpenShut
/-! Append, copies of rows, texts and bytes, make. -/
namespace Go.Proofs.YthnmoiilaaoooaaGreat.L
open Go Go.RowKit

/-- What the cells say, as a frozen fact. -/
def rowP {α : Type} (k : Kd α) (c : Array Value) (o : Nat) (xs : List α) : HP := HP.per (fun g => rowAt k g c o xs) (fun hg h => h.mono hg)
section
variable {α : Type} {k : Kd α} {ρ : World} {L : List HP} {w : World}
theorem sepAll_cons_per {A : HP} (hp : A.pers = true) {g h : Hp} {h1 : Hp} (ha : A.holds g h1) (hl : sepAll L g h) : sepAll (A :: L) g h :=
  ⟨fun _ => none, h, fun _ => .inl rfl, Hp.none_le _, Hp.le_refl _, A.free hp ha, hl⟩
theorem rowO_open {e : TypeId} {p : Option Addr} {cap : Nat} {xs : List α} (h : St ρ (RowO k e p cap xs :: L) w) :
    (p = none ∧ cap = 0 ∧ xs = [] ∧ St ρ L w) ∨ ∃ b o c, p = some ⟨b, o, none⟩ ∧ xs.length ≤ cap ∧ o + cap * k.sz ≤ c.size ∧ St ρ (pt b (.cells c e (0, 0)) :: rowP k c o xs :: L) w := by
  obtain ⟨g, q, a, b, c, h1, h2, ap, l1, l2, ha, d⟩ := h.body
  rcases (ha : _ ∨ _) with ⟨hp, hc, hx⟩ | ⟨b', o, cc, hp, hl, hb, hs, hr⟩
  · exact .inl ⟨hp, hc, hx, h.tail⟩
  · exact .inr ⟨b', o, cc, hp, hl, hs, h.os, h.tape, h.output, g, q, a, b, c, h1, h2, ap, l1, l2, hb, sepAll_cons_per (A := rowP k cc o xs) rfl (h1 := fun _ => none) hr d⟩
theorem rowO_shut {e : TypeId} {b o cap : Nat} {c : Array Value} {xs : List α} (hs : o + cap * k.sz ≤ c.size) (hl : xs.length ≤ cap) (h : St ρ (pt b (.cells c e (0, 0)) :: rowP k c o xs :: L) w) : St ρ (RowO k e (some ⟨b, o, none⟩) cap xs :: L) w := by
  obtain ⟨g, q, a, b', c', h1, h2, ap, l1, l2, ha, k1, k2, ap', m1, m2, hr, d⟩ := h.body
  exact ⟨h.os, h.tape, h.output, g, q, a, b', c', h1, h2, ap, l1, l2, .inr ⟨b, o, c, rfl, hl, ha, hs, hr⟩, sepAll_mono (Hp.le_refl _) m2 d⟩
theorem rowF_open {p : Option Addr} {xs : List α} (m : RowF k p xs ∈ L) (h : St ρ L w) :
    xs = [] ∨ ∃ b o c e fr, p = some ⟨b, o, none⟩ ∧ St ρ (fz b (.cells c e fr) :: rowP k c o xs :: L) w := by
  obtain ⟨g, q, a, b, c, d⟩ := h.body
  obtain ⟨_, _, ha⟩ := sepAll_mem m d
  rcases (ha : _ ∨ _) with hx | ⟨b', o, cc, e, fr, hp, hb, hr⟩
  · exact .inl hx
  · exact .inr ⟨b', o, cc, e, fr, hp, h.os, h.tape, h.output, g, q, a, b, c, sepAll_cons_per (A := fz b' (.cells cc e fr)) rfl (h1 := fun _ => none) hb (sepAll_cons_per (A := rowP k cc o xs) rfl (h1 := fun _ => none) hr d)⟩
theorem rowF_shut {b o : Nat} {c : Array Value} {e : TypeId} {fr : Nat × Nat} {xs : List α} (m1 : fz b (.cells c e fr) ∈ L) (m2 : rowP k c o xs ∈ L) (h : St ρ L w) : St ρ (RowF k (some ⟨b, o, none⟩) xs :: L) w := by
  obtain ⟨g, q, a, b', c', d⟩ := h.body
  obtain ⟨_, _, h1⟩ := sepAll_mem m1 d
  obtain ⟨_, _, h2⟩ := sepAll_mem m2 d
  exact ⟨h.os, h.tape, h.output, g, q, a, b', c', sepAll_cons_per (A := RowF k (some ⟨b, o, none⟩) xs) rfl (h1 := fun _ => none) (.inr ⟨b, o, c, e, fr, rfl, h1, h2⟩) d⟩
theorem St.derive2 {A A' B : HP} (m : A ∈ L) (m' : A' ∈ L) (hp : B.pers = true) (hi : ∀ g h h', A.holds g h → A'.holds g h' → B.holds g h) (h : St ρ L w) : St ρ (B :: L) w := by
  obtain ⟨g, q, a, b, c, d⟩ := h.body
  obtain ⟨_, _, h1⟩ := sepAll_mem m d
  obtain ⟨_, _, h2⟩ := sepAll_mem m' d
  exact ⟨h.os, h.tape, h.output, g, q, a, b, c, sepAll_cons_per hp (hi _ _ _ h1 h2) d⟩
end
theorem rowAt.size {α : Type} {k : Kd α} {g : Hp} {c : Array Value} {o : Nat} {xs : List α} (h : rowAt k g c o xs) (hz : xs.length * k.sz ≠ 0) : o + xs.length * k.sz ≤ c.size := by
  cases hl : xs.length with
  | zero => rw [hl] at hz; simp at hz
  | succ n =>
    have hk : k.sz ≠ 0 := fun e => by rw [e] at hz; simp at hz
    obtain ⟨x, hx⟩ : ∃ x, xs[n]? = some x := ⟨xs[n]'(by omega), List.getElem?_eq_getElem _⟩
    obtain ⟨cs, hr, hc⟩ := h n x hx
    have hlen := k.len hr
    have hj : k.sz - 1 < cs.length := by omega
    have := hc (k.sz - 1) _ (List.getElem?_eq_getElem hj)
    have hlt := (Array.getElem?_eq_some_iff.1 this).1
    rw [Nat.succ_mul]
    omega
theorem rowAt.one {α : Type} {k : Kd α} {g : Hp} {c : Array Value} {o : Nat} {xs : List α} (h : rowAt k g c o xs) {j : Nat} {v : Value} (hj : j < xs.length * k.sz) (hv : c[o + j]? = some v) : v.oneCell' = true := by
  have hk : 0 < k.sz := by
    rcases Nat.eq_zero_or_pos k.sz with e | e
    · rw [e] at hj; simp at hj
    · exact e
  have hi : j / k.sz < xs.length := (Nat.div_lt_iff_lt_mul hk).2 hj
  obtain ⟨cs, hr, hc⟩ := h (j / k.sz) _ (List.getElem?_eq_getElem hi)
  have hm : j % k.sz < cs.length := by rw [k.len hr]; exact Nat.mod_lt _ hk
  have h1 := hc (j % k.sz) _ (List.getElem?_eq_getElem hm)
  have e : o + j / k.sz * k.sz + j % k.sz = o + j := by have := Nat.div_add_mod' j k.sz; omega
  rw [e, hv] at h1
  rw [Option.some.inj h1]
  exact k.one hr _ (List.getElem_mem hm)
/-- The cells of a row, cut out. -/
theorem rowAt.cut {α : Type} {k : Kd α} {g : Hp} {c : Array Value} {o : Nat} {xs : List α} (h : rowAt k g c o xs) : rowAt k g (c.extract o (o + xs.length * k.sz)) 0 xs := fun i x hx => by
  obtain ⟨cs, hr, hc⟩ := h i x hx
  refine ⟨cs, hr, fun j v hv => ?_⟩
  have h1 := hc j v hv
  have hi : i < xs.length := (List.getElem?_eq_some_iff.1 hx).1
  have hj : j < k.sz := by rw [← k.len hr]; exact (List.getElem?_eq_some_iff.1 hv).1
  have hm : (i + 1) * k.sz ≤ xs.length * k.sz := Nat.mul_le_mul_right _ hi
  rw [Nat.succ_mul] at hm
  have hlt := (Array.getElem?_eq_some_iff.1 h1).1
  rw [Array.getElem?_extract]
  rw [if_pos (by omega)]
  rw [← h1]
  congr 1
  omega
theorem rowAt.append {α : Type} {k : Kd α} {g : Hp} {c c' : Array Value} {o o' : Nat} {xs ys : List α} (h : rowAt k g c o xs) (h' : rowAt k g c' o' ys) {d : Array Value} {q : Nat}
    (h1 : ∀ j, j < xs.length * k.sz → d[q + j]? = c[o + j]?) (h2 : ∀ j, j < ys.length * k.sz → d[q + xs.length * k.sz + j]? = c'[o' + j]?) : rowAt k g d q (xs ++ ys) := fun i x hx => by
  have bound : ∀ {n i j : Nat} {cs : List Value}, i < n → cs.length = k.sz → j < cs.length → i * k.sz + j < n * k.sz := fun {n i j cs} hi hl hj => by
    have hm : (i + 1) * k.sz ≤ n * k.sz := Nat.mul_le_mul_right _ hi
    rw [Nat.succ_mul] at hm
    omega
  by_cases hi : i < xs.length
  · rw [List.getElem?_append_left hi] at hx
    obtain ⟨cs, hr, hc⟩ := h i x hx
    refine ⟨cs, hr, fun j v hv => ?_⟩
    have hj := (List.getElem?_eq_some_iff.1 hv).1
    rw [Nat.add_assoc, h1 _ (bound hi (k.len hr) hj), ← Nat.add_assoc]
    exact hc j v hv
  · rw [List.getElem?_append_right (by omega)] at hx
    obtain ⟨cs, hr, hc⟩ := h' _ x hx
    refine ⟨cs, hr, fun j v hv => ?_⟩
    have hj := (List.getElem?_eq_some_iff.1 hv).1
    have hi' := (List.getElem?_eq_some_iff.1 hx).1
    have e : i * k.sz = xs.length * k.sz + (i - xs.length) * k.sz := by rw [← Nat.add_mul]; congr 1; omega
    have := h2 ((i - xs.length) * k.sz + j) (bound hi' (k.len hr) hj)
    rw [show q + i * k.sz + j = q + xs.length * k.sz + ((i - xs.length) * k.sz + j) by omega, this, ← Nat.add_assoc]
    exact hc j v hv
theorem run_loadCells {P : Program} {w : World} {b o n : Nat} {c : Array Value} {e : TypeId} {fr : Nat × Nat} (hb : w.heap[b]? = some (.cells c e fr)) (hn : o + n ≤ c.size) : (loadCells ⟨b, o, none⟩ n).run P w = .ok (c.extract o (o + n)) w := by
  have hl : (c.extract o (o + n)).toList.length = n := by simp; omega
  have := run_loadCellsFrom (P := P) (w := w) (b := b) (o := o) (c.extract o (o + n)).toList 0 #[] (fun j v hv => by
    rw [Nat.zero_add]
    refine cell_of_heap hb ?_
    rw [Array.getElem?_toList, Array.getElem?_extract] at hv
    split at hv
    · exact hv
    · cases hv)
  rw [hl] at this
  unfold loadCells
  rw [this]
  congr 1
  apply Array.ext'
  simp
theorem growBy_le : ∀ (r n c : Nat), c ≤ n → Builtin.growBy n r c ≤ n + (n + 768) / 4
  | 0, n, c, h => by simp only [Builtin.growBy]; omega
  | r + 1, n, c, h => by
    simp only [Builtin.growBy]
    split
    · omega
    · rename_i hc
      by_cases h2 : c + (c + 768) / 4 ≤ n
      · exact growBy_le r n _ h2
      · cases r with
        | zero => simp only [Builtin.growBy]; omega
        | succ r => simp only [Builtin.growBy]; rw [if_pos (by omega)]; omega
theorem nextcap_le {n c : Nat} (h : c < n) : Builtin.nextslicecap n c ≤ 2 * n + 768 := by
  unfold Builtin.nextslicecap
  split
  · omega
  · split
    · omega
    · have := growBy_le 4 n c (by omega); omega

section
variable {X : Fx} {E : Env} {L L1 : List HP} {d : Option Tmp} {ty : TypeId} {pos : String} {af : Array Edge} {gd : Option (Nat × Bool)}
/-- append(s, x...), s owned: what is appended comes out of 'new'. -/
theorem run_append {P : Program} {w : World} {α : Type} {k : Kd α} {ρ : World} {s t t2 e bytes m : Nat} {p : Option Addr} {cap : Nat} {xs ys : List α} {x : Value} {new : Array Value} {ds : TypeDesc}
    (ht : slElem P t = some (e, k.sz, bytes)) (ht2 : P.underlying t2 = some ds) (hds : ∀ q, ds ≠ .int q) (hlen : ∀ w, (Builtin.lenOf x).run P w = .ok m w) (hm : ys.length = m)
    (hnew : ∀ n, (Builtin.firstCells k.sz m x).run P { w with drawn := n } = .ok new { w with drawn := n }) (hsz : new.size = m * k.sz) (hone : ∀ v ∈ new.toList, v.oneCell' = true)
    (mrow : rowP k new 0 ys ∈ L1) (hz : ∃ z, zeroOf P e = some z ∧ z.length = k.sz) (hs : s = xs.length) (hby : bytes ≠ 0) (hbig : (2 * (xs.length + m) + 768) * bytes ≤ 281474976710656)
    (hst : St ρ (RowO k e p cap xs :: L1) w) :
    ∃ p' cap' w', (Builtin.append_ #[t, t2] ty #[.slice p s cap, x]).run P w = .ok (.slice p' (xs ++ ys).length cap') w' ∧ St ρ (RowO k e p' cap' (xs ++ ys) :: L1) w' := by
  subst hs
  have ht0 := ht
  unfold slElem at ht
  cases hu : P.underlying t with
  | none => rw [hu] at ht; simp at ht
  | some dd =>
    cases dd <;> rw [hu] at ht <;> simp only [reduceCtorEq] at ht
    rename_i e'
    cases hi : P.info? e' with
    | none => rw [hi] at ht; simp at ht
    | some inf =>
      rw [hi] at ht
      simp only [Option.some.injEq, Prod.mk.injEq] at ht
      obtain ⟨rfl, hisz, hiby⟩ := ht
      have hlenapp : (xs ++ ys).length = xs.length + m := by simp [hm]
      by_cases hfit : xs.length + m ≤ cap
      · -- room
        have common : (Builtin.append_ #[t, t2] ty #[.slice p xs.length cap, x]).run P w =
            (match p with
              | some a => ((storeCells (a.add (xs.length * k.sz)) new.toList).run P w).andThen fun _ w' => .ok (.slice p (xs.length + m) cap) w'
              | none => .ok (.slice p (xs.length + m) cap) w) := by
          have hn1 : (Builtin.firstCells k.sz m x).run P w = .ok new w := hnew w.drawn
          cases p <;> simp [Builtin.append_, underlying, hu, sizeOf, typeInfo, hi, hisz, ht2, hlen, hfit, hn1]
        rcases rowO_open hst with ⟨rfl, rfl, rfl, hL⟩ | ⟨b, o, c, rfl, hl, hcs, hL⟩
        · have hm0 : m = 0 := by simp at hfit; omega
          have : ys = [] := by cases ys with | nil => rfl | cons _ _ => simp at hm; omega
          subst this
          refine ⟨none, 0, w, ?_, hst⟩
          rw [common]
          simp [hm0]
        · have hb := hL.pt_heap (List.Mem.head _)
          have hmul : xs.length * k.sz + m * k.sz ≤ cap * k.sz := by rw [← Nat.add_mul]; exact Nat.mul_le_mul_right _ hfit
          have hrun := run_storeCells (P := P) (b := b) (o := o + xs.length * k.sz) new.toList 0 w c hb hone (by simp [hsz]; omega)
          rw [Nat.add_zero] at hrun
          have hL2 := hL.put (.cells (spl c (o + xs.length * k.sz) new.toList) e' (0, 0))
          have hget : ∀ j, (spl c (o + xs.length * k.sz) new.toList)[j]? = if o + xs.length * k.sz ≤ j ∧ j < o + xs.length * k.sz + new.toList.length then new.toList[j - (o + xs.length * k.sz)]? else c[j]? := fun j =>
            spl_get _ _ _ _ (by simp [hsz]; omega)
          have hL3 := St.derive2 (B := rowP k (spl c (o + xs.length * k.sz) new.toList) o (xs ++ ys)) (List.Mem.tail _ (List.Mem.head _)) (List.Mem.tail _ (List.Mem.tail _ mrow)) rfl
            (fun g _ _ h1 h2 => rowAt.append (h1 : rowAt k g c o xs) (h2 : rowAt k g new 0 ys)
              (fun j hj => by rw [hget, if_neg (by omega)])
              (fun j hj => by rw [hget, if_pos (by simp [hsz]; rw [hm] at hj; omega), Nat.zero_add, Array.getElem?_toList]; congr 1; omega)) hL2
          have hL4 := ((hL3.pick (.there .here)).pick (.there (.there .here))).tail
          refine ⟨some ⟨b, o, none⟩, cap, _, ?_, rowO_shut (by rw [spl_size]; exact hcs) (by omega) hL4⟩
          rw [common]
          simp only [add_addr]
          rw [hrun]
          simp only [Result.andThen_ok, hlenapp]
      · -- a new array
        obtain ⟨z, hz1, hz2⟩ := hz
        unfold zeroOf at hz1
        rw [hi] at hz1
        simp only [Option.bind_some] at hz1
        obtain ⟨zv, hzv, hzc⟩ := Option.map_eq_some_iff.1 hz1
        have hn2 : Builtin.nextslicecap (xs.length + m) cap ≤ 2 * (xs.length + m) + 768 := nextcap_le (by omega)
        have hbig' : ¬ (Builtin.nextslicecap (xs.length + m) cap * inf.bytes > 2 ^ 48) := by
          have := Nat.mul_le_mul_right inf.bytes hn2
          rw [hiby] at this ⊢
          omega
        obtain ⟨old, hold, holdsz, hdrop⟩ : ∃ old : Array Value, (∀ n, (Builtin.firstCells k.sz xs.length (.slice p xs.length cap)).run P { w with drawn := n } = .ok old { w with drawn := n }) ∧ old.size = xs.length * k.sz ∧ St ρ (rowP k old 0 xs :: L1) w := by
          rcases rowO_open hst with ⟨rfl, rfl, rfl, hL⟩ | ⟨b, o, c, rfl, hl, hcs, hL⟩
          · refine ⟨#[], fun n => by simp [Builtin.firstCells], by simp, ?_⟩
            obtain ⟨g, q, a, b, c, dd⟩ := hL.body
            exact ⟨hL.os, hL.tape, hL.output, g, q, a, b, c, sepAll_cons_per (A := rowP k #[] 0 []) rfl (h1 := fun _ => none) (fun i x hx => by simp at hx) dd⟩
          · have hb := hL.pt_heap (List.Mem.head _)
            have hle : xs.length * k.sz ≤ cap * k.sz := Nat.mul_le_mul_right _ hl
            refine ⟨c.extract o (o + xs.length * k.sz), fun n => ?_, by simp; omega, ?_⟩
            · simp only [Builtin.firstCells]
              exact run_loadCells (w := { w with drawn := n }) hb (by omega)
            · exact St.turn (fun g _ h => (h : rowAt k g c o xs).cut) hL.tail
        have hforced : (Question.appendCap (xs.length + m) cap e').forced = false := rfl
        let nc := (Question.appendCap (xs.length + m) cap e').cut (w.tape w.drawn (Question.appendCap (xs.length + m) cap e'))
        have hnc : xs.length + m ≤ nc := Nat.le_add_right _ _
        let arr : Array Value := old ++ new ++ Builtin.zeroCells zv.cells (nc - (xs.length + m))
        have hrun : (Builtin.append_ #[t, t2] ty #[.slice p xs.length cap, x]).run P w = .ok (.slice (some ⟨w.heap.size, 0, none⟩) (xs.length + m) nc) { w with drawn := w.drawn + 1, heap := w.heap.push (.cells arr e') } := by
          have hold' : (Builtin.firstCells k.sz xs.length (.slice p xs.length cap)).run P w.drew = .ok old w.drew := hold (w.drawn + 1)
          have hn1' : (Builtin.firstCells k.sz m x).run P w.drew = .ok new w.drew := hnew (w.drawn + 1)
          have hb0 : ¬ inf.bytes = 0 := by rw [hiby]; exact hby
          simp [Builtin.append_, underlying, hu, sizeOf, typeInfo, hi, hisz, ht2, hlen, hfit, hbig', hforced, hold', hn1', zeroValue, hzv, newRow, nc, arr, hb0]
          rfl
        refine ⟨_, _, _, by rw [hlenapp]; exact hrun, ?_⟩
        have hL1 := (hdrop.drewN (w.drawn + 1) (Nat.le_succ _)).alloc (.cells arr e')
        have hzl : zv.cells.size = k.sz := by rw [← hz2, ← hzc]; simp
        have harr : arr.size = 0 + nc * k.sz := by
          have : nc * k.sz = (xs.length * k.sz + m * k.sz) + (nc - (xs.length + m)) * k.sz := by rw [← Nat.add_mul, ← Nat.add_mul]; congr 1; omega
          simp only [arr, Array.size_append, holdsz, hsz, Builtin.zeroCells, Array.size_map, Array.size_range, hzl]
          omega
        have hL3 := St.derive2 (B := rowP k arr 0 (xs ++ ys)) (List.Mem.tail _ (List.Mem.head _)) (List.Mem.tail _ (List.Mem.tail _ mrow)) rfl
            (fun g _ _ h1 h2 => rowAt.append (h1 : rowAt k g old 0 xs) (h2 : rowAt k g new 0 ys)
              (fun j hj => by
                rw [Nat.zero_add]
                simp only [arr]
                rw [Array.getElem?_append_left (by simp [holdsz, hsz]; omega), Array.getElem?_append_left (by omega)])
              (fun j hj => by
                rw [hm] at hj
                simp only [arr, Nat.zero_add]
                rw [Array.getElem?_append_left (by simp [holdsz, hsz]; omega), Array.getElem?_append_right (by omega)]
                congr 1
                omega)) hL1
        have hL4 := ((hL3.pick (.there .here)).pick (.there (.there .here))).tail
        exact rowO_shut (Nat.le_of_eq harr.symm) (by omega) hL4
end
end Go.Proofs.YthnmoiilaaoooaaGreat.L
/-! Append as an operation; bytes and texts; make; copy. -/
namespace Go.Proofs.YthnmoiilaaoooaaGreat.L
open Go Go.RowKit

def Kd.u8 : Kd UInt8 := Kd.flat 1 (fun b => [.int .u8 b.toNat]) (fun _ => rfl) (fun _ v h => by simp at h; subst h; rfl)
section
variable {α : Type} {k : Kd α} {ρ : World} {L : List HP} {w : World}
/-- The cells of a row, read: with the fact on them. -/
theorem row_cells {P : Program} {A : HP} {p : Option Addr} {xs : List α} {n c : Nat} (hA : IsRow A k p xs) (m : A ∈ L) (hn : n = xs.length) (hs : St ρ L w) :
    ∃ new : Array Value, (∀ w', heapOf w' = heapOf w → (Builtin.firstCells k.sz n (.slice p n c)).run P w' = .ok new w') ∧ new.size = n * k.sz ∧ (∀ v ∈ new.toList, v.oneCell' = true) ∧ St ρ (rowP k new 0 xs :: L) w := by
  subst hn
  obtain ⟨g, q, a, lg, c', d⟩ := hs.body
  obtain ⟨h1, l1, ha⟩ := sepAll_mem m d
  rcases hA g h1 ha with rfl | ⟨b, o, cc, e, fr, rfl, hb, hr⟩
  · refine ⟨#[], fun w' _ => ?_, by simp, by simp, hs.os, hs.tape, hs.output, g, q, a, lg, c', sepAll_cons_per (A := rowP k #[] 0 []) rfl (h1 := fun _ => none) (fun i x hx => by simp at hx) d⟩
    cases p <;> simp [Builtin.firstCells, loadCells, loadCellsFrom]
  · have hbw : heapOf w b = some (.cells cc e fr) := hb.elim (fun hb => lg _ _ hb) (fun hb => c' _ _ (l1 _ _ hb))
    by_cases hz : xs.length * k.sz = 0
    · refine ⟨#[], fun w' _ => ?_, by simp [hz], by simp, hs.os, hs.tape, hs.output, g, q, a, lg, c', sepAll_cons_per (A := rowP k #[] 0 xs) rfl (h1 := fun _ => none) (fun i x hx => ?_) d⟩
      · simp [Builtin.firstCells, loadCells, hz, loadCellsFrom]
      · obtain ⟨cs, h1, h2⟩ := hr i x hx
        have hi := (List.getElem?_eq_some_iff.1 hx).1
        have hk : k.sz = 0 := by
          rcases Nat.mul_eq_zero.1 hz with h | h
          · omega
          · exact h
        have hl := k.len h1
        rw [hk] at hl
        have : cs = [] := List.length_eq_zero_iff.1 hl
        subst this
        exact ⟨[], h1, fun j v hv => by simp at hv⟩
    · have hle := hr.size hz
      refine ⟨cc.extract o (o + xs.length * k.sz), fun w' hw => ?_, by simp; omega, fun v hv => ?_, hs.os, hs.tape, hs.output, g, q, a, lg, c', sepAll_cons_per (A := rowP k _ 0 xs) rfl (h1 := fun _ => none) hr.cut d⟩
      · simp only [Builtin.firstCells]
        exact run_loadCells (by rw [← hw] at hbw; exact hbw) hle
      · obtain ⟨j, hj⟩ := List.mem_iff_getElem?.1 hv
        rw [Array.getElem?_toList, Array.getElem?_extract] at hj
        split at hj
        · rename_i hlt
          exact hr.one (by omega) hj
        · cases hj
theorem heapOf_drawn (w : World) (n : Nat) : heapOf { w with drawn := n } = heapOf w := rfl
end
section
variable {X : Fx} {E : Env} {L L1 : List HP} {d : Option Tmp} {ty : TypeId} {pos : String} {af : Array Edge} {gd : Option (Nat × Bool)} {t t2 : TypeId} {x y : Operand}
/-- append(xs, ys...): xs owned, ys may be read. -/
theorem l_append {α : Type} (k : Kd α) {e bytes s m : Nat} {p q : Option Addr} {cap c2 : Nat} {xs ys : List α} {e2 : TypeId} (ht : slElem X.P t = some (e, k.sz, bytes)) (ht2 : X.P.underlying t2 = some (.slice e2))
    (hz : ∃ z, zeroOf X.P e = some z ∧ z.length = k.sz) (hby : bytes ≠ 0)
    (hx : Env.ev E x = some (.slice p s cap)) (hy : Env.ev E y = some (.slice q m c2)) (hp : Pick L (RowO k e p cap xs) L1) {A : HP} (hA : IsRow A k q ys) (mq : A ∈ L1) (hs : s = xs.length) (hm : m = ys.length)
    (hbig : (2 * (xs.length + ys.length) + 768) * bytes ≤ 281474976710656) :
    OpL X ⟨d, .call ⟨.builtin .append, [x, y].toArray, [t, t2].toArray⟩, ty, pos, af, gd⟩ E L (fun v L' => ∃ p' cap', v = .slice p' (xs ++ ys).length cap' ∧ L' = RowO k e p' cap' (xs ++ ys) :: L1) := fun a w hk hst => by
  have h1 := hst.pick hp
  obtain ⟨new, hnew, hsz, hone, h2⟩ := row_cells (P := X.P) (c := c2) hA (List.Mem.tail (RowO k e p cap xs) mq) hm h1
  have h3 : St X.ρ (RowO k e p cap xs :: rowP k new 0 ys :: L1) w := h2.pick (.there .here)
  subst hm
  obtain ⟨p', cap', w', hrun, hst'⟩ := run_append (ty := ty) (L1 := rowP k new 0 ys :: L1) ht ht2 (fun _ h => by cases h) (x := .slice q ys.length c2) (m := ys.length) (fun w => by simp [Builtin.lenOf]) rfl
    (new := new) (fun n => hnew _ rfl) hsz hone (List.Mem.head _) hz hs hby hbig h3
  unfold Oper.wp
  have : (execOp a.eval ⟨d, .call ⟨.builtin .append, [x, y].toArray, [t, t2].toArray⟩, ty, pos, af, gd⟩).run X.P w = .ok (.value (.slice p' (xs ++ ys).length cap')) w' := by
    have e1 := hk.ev hx
    have e2 := hk.ev hy
    simp only [execOp, resolve, invoke, builtin, Sem.run_bind, Sem.run_pure, Result.andThen_ok, List.map_toArray, List.map_cons, List.map_nil, e1, e2]
    rw [hrun]
    rfl
  rw [this]
  exact ⟨_, _, ⟨p', cap', rfl, rfl⟩, rfl, (hst'.pick (.there .here)).tail⟩
def bytesOf (s : ByteArray) : List UInt8 := s.data.toList
/-- append(b, s...): a text's bytes behind an owned row of bytes. -/
theorem l_appendS {e bytes n : Nat} {p : Option Addr} {cap : Nat} {xs : List UInt8} {s : ByteArray} (ht : slElem X.P t = some (e, 1, bytes)) (ht2 : X.P.underlying t2 = some .string)
    (hz : ∃ z, zeroOf X.P e = some z ∧ z.length = 1) (hby : bytes ≠ 0)
    (hx : Env.ev E x = some (.slice p n cap)) (hy : Env.ev E y = some (.string s)) (hp : Pick L (RowO Kd.u8 e p cap xs) L1) (hs : n = xs.length)
    (hbig : (2 * (xs.length + s.size) + 768) * bytes ≤ 281474976710656) :
    OpL X ⟨d, .call ⟨.builtin .append, [x, y].toArray, [t, t2].toArray⟩, ty, pos, af, gd⟩ E L (fun v L' => ∃ p' cap', v = .slice p' (xs ++ bytesOf s).length cap' ∧ L' = RowO Kd.u8 e p' cap' (xs ++ bytesOf s) :: L1) := fun a w hk hst => by
  have h1 := hst.pick hp
  have hlen : (bytesOf s).length = s.size := by simp [bytesOf]
  have hdat : (s.extract 0 s.size).data = s.data := by simp
  have h3 : St X.ρ (RowO Kd.u8 e p cap xs :: rowP Kd.u8 (s.data.map fun b => Value.int .u8 b.toNat) 0 (bytesOf s) :: L1) w := by
    obtain ⟨g, q, a', b, c, dd⟩ := h1.body
    refine St.pick (.there .here) (⟨h1.os, h1.tape, h1.output, g, q, a', b, c, sepAll_cons_per (A := rowP Kd.u8 (s.data.map fun b => Value.int .u8 b.toNat) 0 (bytesOf s)) rfl (h1 := fun _ => none) (fun i x hx => ?_) dd⟩ : St X.ρ (rowP Kd.u8 (s.data.map fun b => Value.int .u8 b.toNat) 0 (bytesOf s) :: RowO Kd.u8 e p cap xs :: L1) w)
    refine ⟨_, rfl, fun j v hv => ?_⟩
    have hj : j = 0 := by
      cases j with
      | zero => rfl
      | succ j => simp at hv
    subst hj
    have hx : s.data[i]? = some x := by simpa [bytesOf] using hx
    have hv : Value.int .u8 x.toNat = v := by simpa using hv
    subst hv
    show (s.data.map fun b => Value.int .u8 b.toNat)[0 + i * 1 + 0]? = _
    simp [hx]
  obtain ⟨p', cap', w', hrun, hst'⟩ := run_append (k := Kd.u8) (ty := ty) (L1 := rowP Kd.u8 (s.data.map fun b => Value.int .u8 b.toNat) 0 (bytesOf s) :: L1) ht ht2 (fun _ h => by cases h) (x := .string s) (m := s.size) (fun w => by simp [Builtin.lenOf]) hlen
    (new := s.data.map fun b => Value.int .u8 b.toNat) (fun n => by simp [Builtin.firstCells]) (by simp [Kd.u8, Kd.flat]) (fun v hv => by simp at hv; obtain ⟨b, _, rfl⟩ := hv; rfl) (List.Mem.head _) hz hs hby hbig h3
  unfold Oper.wp
  have : (execOp a.eval ⟨d, .call ⟨.builtin .append, [x, y].toArray, [t, t2].toArray⟩, ty, pos, af, gd⟩).run X.P w = .ok (.value (.slice p' (xs ++ bytesOf s).length cap')) w' := by
    have e1 := hk.ev hx
    have e2 := hk.ev hy
    simp only [execOp, resolve, invoke, builtin, Sem.run_bind, Sem.run_pure, Result.andThen_ok, List.map_toArray, List.map_cons, List.map_nil, e1, e2]
    rw [hrun]
    rfl
  rw [this]
  exact ⟨_, _, ⟨p', cap', rfl, rfl⟩, rfl, (hst'.pick (.there .here)).tail⟩
/-- string(b). -/
theorem foldl_push (bs : List UInt8) : ∀ (r : ByteArray), (bs.map fun b => (b.toNat : Int)).foldl (fun r n => r.push (UInt8.ofNat n.toNat)) r = ⟨r.data ++ bs.toArray⟩ := by
  induction bs with
  | nil => intro r; simp
  | cons b bs ih =>
    intro r
    rw [List.map_cons, List.foldl_cons, ih]
    congr 1
    simp [ByteArray.push]
theorem rowAt_u8 {g : Hp} {c : Array Value} {o : Nat} {bs : List UInt8} (h : rowAt Kd.u8 g c o bs) : c.extract o (o + bs.length) = (bs.map fun b => Value.int .u8 b.toNat).toArray := by
  have hsz : bs ≠ [] → o + bs.length ≤ c.size := fun hne => by
    have := h.size (by show bs.length * 1 ≠ 0; rw [Nat.mul_one]; exact fun e => hne (List.length_eq_zero_iff.1 e))
    simpa [Kd.u8, Kd.flat] using this
  apply Array.ext_getElem?
  intro i
  rw [Array.getElem?_extract]
  by_cases hi : i < bs.length
  · have hne : bs ≠ [] := fun e => by subst e; simp at hi
    have := hsz hne
    obtain ⟨cs, rfl, hc⟩ := h i _ (List.getElem?_eq_getElem hi)
    have h0 := hc 0 _ rfl
    rw [if_pos (by omega)]
    have e : o + i * Kd.u8.sz + 0 = o + i := by show o + i * 1 + 0 = o + i; omega
    rw [e] at h0
    rw [h0]
    simp [hi]
  · have hn : (bs.map fun b => Value.int .u8 b.toNat).toArray[i]? = none := by simp; omega
    rw [hn]
    rw [if_neg (by omega)]
theorem row_loads {P : Program} {ρ : World} {L : List HP} {w : World} {A : HP} {b o : Nat} {bs : List UInt8} (hA : IsRow A Kd.u8 (some ⟨b, o, none⟩) bs) (m : A ∈ L) (hs : St ρ L w) : (loadCells ⟨b, o, none⟩ bs.length).run P w = .ok (bs.map fun b => Value.int .u8 b.toNat).toArray w := by
  obtain ⟨g, q, _, lg, lh, d⟩ := hs.body
  obtain ⟨h1, l1, ha⟩ := sepAll_mem m d
  rcases hA g h1 ha with rfl | ⟨b', o', cc, e, fr, hp, hb, hr⟩
  · simp [loadCells, loadCellsFrom]
  · cases hp
    have hbw : heapOf w b = some (.cells cc e fr) := hb.elim (fun hb => lg _ _ hb) (fun hb => lh _ _ (l1 _ _ hb))
    by_cases hne : bs = []
    · subst hne; simp [loadCells, loadCellsFrom]
    · have := hr.size (by show bs.length * 1 ≠ 0; rw [Nat.mul_one]; exact fun e => hne (List.length_eq_zero_iff.1 e))
      rw [run_loadCells hbw (by simpa [Kd.u8, Kd.flat] using this), rowAt_u8 hr]
theorem q_bstr {src dst e n c : Nat} {p : Option Addr} {bs : List UInt8} (h1 : X.P.underlying src = some (.slice e)) (h2 : X.P.underlying e = some (.int .u8)) (h3 : X.P.underlying dst = some .string)
    (hx : Env.ev E x = some (.slice p n c)) {A : HP} (hA : IsRow A Kd.u8 p bs) (m : A ∈ L) (hn : n = bs.length) : OpQ X ⟨d, .convert src dst x, ty, pos, af, gd⟩ E L (.string ⟨bs.toArray⟩) := fun a w hk hs => by
  subst hn
  have : (Conv.bytesToString (.slice p bs.length c)).run X.P w = .ok (.string ⟨bs.toArray⟩) w := by
    by_cases hne : bs = []
    · subst hne
      cases p <;> simp [Conv.bytesToString, loadCells, loadCellsFrom, ByteArray.empty, ByteArray.emptyWithCapacity] <;> rfl
    · obtain ⟨b, o, rfl⟩ := row_addr hA m hne w hs
      have hl := row_loads (P := X.P) hA m hs
      have hm : (bs.map fun b => Value.int .u8 b.toNat) = (bs.map fun b => (b.toNat : Int)).map (Value.int .u8) := by simp
      rw [hm] at hl
      rw [run_bytesToString w _ _ _ _ hl, foldl_push]
      simp [ByteArray.empty, ByteArray.emptyWithCapacity] <;> rfl
  simp only [execOp, hk.ev hx, Sem.run_bind, run_convert_bytes_string w src dst e p bs.length c h1 h2 h3, this, Result.andThen_ok, Sem.run_pure]
/-- make([]byte, n). -/
theorem l_make {α : Type} (k : Kd α) (z : α) {e bytes : Nat} {n : Int} {m : Nat} {zs : List Value} (ht : slElem X.P t = some (e, k.sz, bytes)) (hz : zeroOf X.P e = some zs) (hzl : zs.length = k.sz) (hzr : ∀ g, k.rd g z zs)
    (hx : Env.ev E x = some (.int .i64 n)) (hn : n = m) (hbig : bytes * m ≤ 281474976710656) (hm : m ≤ 9223372036854775807) :
    OpL X ⟨d, .makeSlice t x x, ty, pos, af, gd⟩ E L (fun v L' => ∃ p, v = .slice p m m ∧ L' = RowO k e p m (List.replicate m z) :: L) := fun a w hk hst => by
  subst hn
  unfold slElem at ht
  cases hu : X.P.underlying t with
  | none => rw [hu] at ht; simp at ht
  | some dd =>
    cases dd <;> rw [hu] at ht <;> simp only [reduceCtorEq] at ht
    rename_i e'
    cases hi : X.P.info? e' with
    | none => rw [hi] at ht; simp at ht
    | some inf =>
      rw [hi] at ht
      simp only [Option.some.injEq, Prod.mk.injEq] at ht
      obtain ⟨rfl, hisz, hiby⟩ := ht
      have hz1 := hz
      unfold zeroOf at hz
      rw [hi] at hz
      simp only [Option.bind_some] at hz
      obtain ⟨zv, hzv, hzc⟩ := Option.map_eq_some_iff.1 hz
      have hw : IntKind.i64.wrap (m : Int) = m := wrap_i64 (by omega) (by omega)
      let arr : Array Value := (Array.range (m * k.sz)).map (zv.cells[· % zv.cells.size]!)
      have hmi : ((bytes * m : Nat) : Int) ≤ ((281474976710656 : Nat) : Int) := Int.ofNat_le.2 hbig
      rw [Int.natCast_mul] at hmi
      have hc : ¬ (((m : Int) < 0 ∨ 281474976710656 < (inf.bytes : Int) * m) ∨ (m : Int) < 0) := by rw [hiby]; omega
      unfold Oper.wp
      have hrun : (execOp a.eval ⟨d, .makeSlice t x x, ty, pos, af, gd⟩).run X.P w = .ok (.value (.slice (some ⟨w.heap.size, 0, none⟩) m m)) { w with heap := w.heap.push (.cells arr e') } := by
        simp [execOp, hk.ev hx, Instr.makeSlice, underlying, hu, asInt, asIntOf, typeInfo, hi, hw, sizeOf, zeroValue, hzv, newRow]
        rw [if_neg hc]
        simp only [arr, ← hisz]
        by_cases h0 : m * inf.size = 0
        · have h9 : Array.range 0 = #[] := rfl
          have h8 : ∀ (f : Nat → Value), Array.map f #[] = #[] := fun f => Array.map_empty
          rw [if_pos h0, h0, h9, h8, h8]
        · rw [if_neg h0]
      rw [hrun]
      refine ⟨_, _, ⟨some ⟨w.heap.size, 0, none⟩, rfl, rfl⟩, rfl, ?_⟩
      have hL := hst.alloc (.cells arr e')
      have hzs : zv.cells.size = k.sz := by rw [← hzl, ← hzc]; simp
      refine rowO_shut (c := arr) (by simp [arr]) (by simp) (St.pick (.there .here) ?_)
      obtain ⟨g, q, a', b, c, dd⟩ := hL.body
      refine ⟨hL.os, hL.tape, hL.output, g, q, a', b, c, sepAll_cons_per (A := rowP k arr 0 (List.replicate m z)) rfl (h1 := fun _ => none) (fun i y hy => ?_) dd⟩
      rw [List.getElem?_replicate] at hy
      split at hy
      · rename_i him
        cases hy
        refine ⟨zs, hzr g, fun j v hv => ?_⟩
        have hj : j < k.sz := by rw [← hzl]; exact (List.getElem?_eq_some_iff.1 hv).1
        have hlt : i * k.sz + j < m * k.sz := by
          have : (i + 1) * k.sz ≤ m * k.sz := Nat.mul_le_mul_right _ him
          rw [Nat.succ_mul] at this; omega
        have hmod : (i * k.sz + j) % k.sz = j := by rw [Nat.mul_comm, Nat.mul_add_mod]; exact Nat.mod_eq_of_lt hj
        have hv' : zv.cells[j]? = some v := by rw [← hv, ← hzc]; simp
        obtain ⟨hj', hv''⟩ := Array.getElem?_eq_some_iff.1 hv'
        simp only [arr, Nat.zero_add]
        have hg : ((Array.range (m * k.sz)).map (zv.cells[· % zv.cells.size]!))[i * k.sz + j]? = some v := by
          rw [Array.getElem?_map, Array.getElem?_range, if_pos hlt]
          simp only [Option.map_some, hzs, hmod]
          rw [getElem!_pos zv.cells j hj', hv'']
        exact hg
      · cases hy
/-- An empty slice literal. -/
theorem l_slice0 {α : Type} (k : Kd α) {e bytes : Nat} (ht : slElem X.P t = some (e, k.sz, bytes)) :
    OpL X ⟨d, .buildSlice t 0 [].toArray, ty, pos, af, gd⟩ E L (fun v L' => ∃ p, v = .slice p 0 0 ∧ L' = RowO k e p 0 [] :: L) := fun a w hk hst => by
  unfold slElem at ht
  cases hu : X.P.underlying t with
  | none => rw [hu] at ht; simp at ht
  | some dd =>
    cases dd <;> rw [hu] at ht <;> simp only [reduceCtorEq] at ht
    rename_i e'
    cases hi : X.P.info? e' with
    | none => rw [hi] at ht; simp at ht
    | some inf =>
      rw [hi] at ht
      simp only [Option.some.injEq, Prod.mk.injEq] at ht
      obtain ⟨rfl, hisz, hiby⟩ := ht
      unfold Oper.wp
      have hrun : (execOp a.eval ⟨d, .buildSlice t 0 [].toArray, ty, pos, af, gd⟩).run X.P w = .ok (.value (.slice (some ⟨w.heap.size, 0, none⟩) 0 0)) { w with heap := w.heap.push (.cells #[] e') } := by
        have h9 : Array.range 0 = #[] := rfl
        simp [execOp, Instr.buildSlice, underlying, hu, sizeOf, typeInfo, hi, Instr.fill, newRow, h9]
      rw [hrun]
      refine ⟨_, _, ⟨some ⟨w.heap.size, 0, none⟩, rfl, rfl⟩, rfl, rowO_shut (c := #[]) (by simp) (by simp) (St.pick (.there .here) ?_)⟩
      have hL := hst.alloc (.cells #[] e')
      obtain ⟨g, q, a', b, c, dd⟩ := hL.body
      exact ⟨hL.os, hL.tape, hL.output, g, q, a', b, c, sepAll_cons_per (A := rowP k #[] 0 []) rfl (h1 := fun _ => none) (fun i y hy => by simp at hy) dd⟩
end

/-! ### Cases on a value that a guard looks at; ways that meet again -/
section
variable {X : Fx} {k : List Item} {E : Env} {L Sc : List HP} {ops : Array Oper} {l : List Oper} {fuel : Nat} {early : List Nat} {listed : Array Bool}
theorem Know.bool_at {N : Nat} {a : Act} {s : Nat} {v : Value} (hk : Know N E a) (h : Env.get E s = some v) : Know N ((s, v) :: E) a := hk.sub (fun t u e => by
  rw [get_cons] at e
  by_cases hst : s = t
  · subst hst; rw [if_pos rfl] at e; rw [← Option.some.inj e]; exact h
  · rw [if_neg hst] at e; exact e)
theorem KO.split {b : Bool} (s : Nat) (hs : Env.get E s = some (.bool b)) (h1 : b = true → KO X ops l k ((s, .bool true) :: E) L) (h2 : b = false → KO X ops l k ((s, .bool false) :: E) L) : KO X ops l k E L := fun a w hk hst => by
  cases b
  · exact h2 rfl a w (hk.bool_at hs) hst
  · exact h1 rfl a w (hk.bool_at hs) hst
theorem KO.dsplit {p : Prop} {dp : Decidable p} (s : Nat) (hs : Env.get E s = some (.bool (@decide p dp))) (h1 : p → KO X ops l k ((s, .bool true) :: E) L) (h2 : ¬ p → KO X ops l k ((s, .bool false) :: E) L) : KO X ops l k E L :=
  KO.split s hs (fun h => h1 (of_decide_eq_true h)) (fun h => h2 (of_decide_eq_false h))
theorem D.split {b : Bool} (s : Nat) (hs : Env.get E s = some (.bool b)) (h1 : b = true → D X ops k Sc fuel early listed ((s, .bool true) :: E) L) (h2 : b = false → D X ops k Sc fuel early listed ((s, .bool false) :: E) L) : D X ops k Sc fuel early listed E L := fun a w hk hst => by
  cases b
  · exact h2 rfl a w (hk.bool_at hs) hst
  · exact h1 rfl a w (hk.bool_at hs) hst
theorem D.dsplit {p : Prop} {dp : Decidable p} (s : Nat) (hs : Env.get E s = some (.bool (@decide p dp))) (h1 : p → D X ops k Sc fuel early listed ((s, .bool true) :: E) L) (h2 : ¬ p → D X ops k Sc fuel early listed ((s, .bool false) :: E) L) : D X ops k Sc fuel early listed E L :=
  D.split s hs (fun h => h1 (of_decide_eq_true h)) (fun h => h2 (of_decide_eq_false h))
/-- The ways through a region meet again: slot s holds b. -/
theorem K.joinB {c : Code} (s : Nat) (b : Bool) (h : (∀ y, y = b → K X k ((s, .bool y) :: E) L) → K X (.code c :: k) E L) (h' : ∀ y, y = b → K X k ((s, .bool y) :: E) L) : K X (.code c :: k) E L := h h'
theorem K.subE {E' : Env} (hE : Env.sub E E') (h : K X k E' L) : K X k E L := K.weak hE (fun _ h => h) h
theorem D.st {L' : List HP} (hL : ∀ w, St X.ρ L w → St X.ρ L' w) (h : D X ops k Sc fuel early listed E L') : D X ops k Sc fuel early listed E L := fun a w hk hs => h a w hk (hL w hs)
theorem D.fact {φ : Prop} (hL : ∀ w, St X.ρ L w → φ) (h : φ → D X ops k Sc fuel early listed E L) : D X ops k Sc fuel early listed E L := fun a w hk hs => h (hL w hs) a w hk hs
theorem D.ex {ι : Type} {B : ι → List HP} (hL : ∀ w, St X.ρ L w → ∃ i, St X.ρ (B i) w) (h : ∀ i, D X ops k Sc fuel early listed E (B i)) : D X ops k Sc fuel early listed E L := fun a w hk hs => let ⟨i, hi⟩ := hL w hs; h i a w hk hi
end
class Pers (A : HP) : Prop where
  h : A.pers = true
instance {b : Nat} {o : Obj} : Pers (fz b o) := ⟨rfl⟩
instance {b e : Nat} {cs : List Value} : Pers (fv b e cs) := ⟨rfl⟩
instance {α : Type} {k : Kd α} {p : Option Addr} {xs : List α} : Pers (RowF k p xs) := ⟨rfl⟩
instance {α : Type} {k : Kd α} {c : Array Value} {o : Nat} {xs : List α} : Pers (rowP k c o xs) := ⟨rfl⟩
instance {W : World} : Pers (old W) := ⟨rfl⟩
instance {φ : Prop} : Pers (pure_ φ) := ⟨rfl⟩
theorem Give.perI {L M L2 : List HP} {A : HP} [h : Pers A] (m : A ∈ L) (g : Give L M L2) : Give L (A :: M) L2 := Give.per h.h m g
/-- The list as it is wanted, found by itself. -/
theorem St.fitD {ρ : World} {Lc M L' L : List HP} {w : World} (h : St ρ Lc w) (g : Give Lc M L' := by repeat (first | exact Give.nil | (apply Give.perI; (repeat (first | exact List.Mem.head _ | apply List.Mem.tail))) | (apply Give.own; (repeat (first | exact Pick.here | apply Pick.there))))) (d : Drop L' L := by repeat (first | exact Drop.refl | apply Drop.skip)) : St ρ (M ++ L) w := h.fit g d
theorem St.subD {ρ : World} {L M L' : List HP} {w : World} (h : St ρ L w) (p : Give L M L' := by repeat (first | exact Give.nil | (apply Give.perI; (repeat (first | exact List.Mem.head _ | apply List.Mem.tail))) | (apply Give.own; (repeat (first | exact Pick.here | apply Pick.there))))) : St ρ M w := h.sub p
/-- A block of one element, frozen, is a frozen row. -/
theorem pv_rowF1 {α : Type} {k : Kd α} {ρ : World} {L : List HP} {w : World} {b e : Nat} {cs : List Value} (x : α) (hr : ∀ g, k.rd g x cs) (h : St ρ (pv b e cs :: L) w) : St ρ (RowF k (some ⟨b, 0, none⟩) [x] :: L) w := by
  have h2 : St ρ (fv b e cs :: L) w := h.fzv
  unfold fv at h2
  have h1 : St ρ (rowP k cs.toArray 0 [x] :: fz b (.cells cs.toArray e (0, 0)) :: L) w := by
    obtain ⟨g, q, a, b', c, d⟩ := h2.body
    refine ⟨h2.os, h2.tape, h2.output, g, q, a, b', c, sepAll_cons_per (A := rowP k cs.toArray 0 [x]) rfl (h1 := fun _ => none) (fun i y hy => ?_) d⟩
    cases i with
    | zero =>
      simp at hy
      subst hy
      exact ⟨cs, hr g, fun j v hv => by simpa using hv⟩
    | succ i => simp at hy
  have h3 : St ρ (RowF k (some ⟨b, 0, none⟩) [x] :: rowP k cs.toArray 0 [x] :: fz b (.cells cs.toArray e (0, 0)) :: L) w := rowF_shut (List.Mem.tail _ (List.Mem.head _)) (List.Mem.head _) h1
  exact (h3.pick (.there .here)).tail |>.pick (.there .here) |>.tail
theorem rowF_cut {α : Type} {k : Kd α} {ρ : World} {L : List HP} {w : World} {p : Option Addr} {xs : List α} {cap : Nat} (n : Nat) (hc : xs.length ≤ cap) (m : RowF k p xs ∈ L) (h : St ρ L w) : St ρ (RowF k (cutAddr p cap n k.sz) (xs.drop n) :: L) w := by
  rcases rowF_open m h with rfl | ⟨b, o, c, e, fr, rfl, h2⟩
  · rw [List.drop_nil]; exact rowF_nil _ h
  · by_cases hn : cap = n
    · have : xs.drop n = [] := List.drop_eq_nil_of_le (by omega)
      rw [this]; exact rowF_nil _ h
    · have e1 : cutAddr (some (⟨b, o, none⟩ : Addr)) cap n k.sz = some ⟨b, o + n * k.sz, none⟩ := by
        unfold cutAddr
        rw [if_neg hn]
        simp [add_addr]
      rw [e1]
      have h3 : St ρ (rowP k c (o + n * k.sz) (xs.drop n) :: fz b (.cells c e fr) :: rowP k c o xs :: L) w := St.derive (A := rowP k c o xs) (List.Mem.tail _ (List.Mem.head _)) rfl (fun g _ hr => fun i x hx => by
        rw [List.getElem?_drop] at hx
        obtain ⟨cs, h1, h2⟩ := (hr : rowAt k g c o xs) _ x hx
        refine ⟨cs, h1, fun j v hv => ?_⟩
        rw [← h2 j v hv]
        congr 1
        rw [Nat.add_mul]
        omega) h2
      have h4 := rowF_shut (List.Mem.tail _ (List.Mem.head _)) (List.Mem.head _) h3
      exact ((((h4.pick (.there .here)).tail).pick (.there .here)).tail.pick (.there .here)).tail
theorem rowF_take {α : Type} {k : Kd α} {ρ : World} {L : List HP} {w : World} {p : Option Addr} {xs : List α} (n : Nat) (m : RowF k p xs ∈ L) (h : St ρ L w) : St ρ (RowF k p (xs.take n) :: L) w :=
  St.derive m rfl (fun g _ ha => (ha : _ ∨ _).imp (fun e => by rw [e]; simp) (fun ⟨b, o, c, e, fr, hp, hb, hr⟩ => ⟨b, o, c, e, fr, hp, hb, fun i x hx => by
    rw [List.getElem?_take] at hx
    split at hx
    · exact hr i x hx
    · cases hx⟩)) h

theorem cutAddr_zero (p : Option Addr) (cap sz : Nat) : cutAddr p cap 0 sz = p := by
  unfold cutAddr
  split
  · rfl
  · cases p with
    | none => rfl
    | some a => simp [Addr.add]
section
variable {X : Fx} {E : Env} {L : List HP} {d : Option Tmp} {ty : TypeId} {pos : String} {af : Array Edge} {gd : Option (Nat × Bool)} {t : TypeId} {x y z : Operand}
theorem q_cutH {p : Option Addr} {n cap e sz bytes : Nat} {h : Int} (ht : slElem X.P t = some (e, sz, bytes)) (hx : Env.ev E x = some (.slice p n cap)) (hh : Env.ev E y = some (.int .i64 h)) (h1 : 0 ≤ h) (h2 : h ≤ cap) :
    OpQ X ⟨d, .slice t x none (some y) none, ty, pos, af, gd⟩ E L (.slice p h.toNat cap) := by
  obtain ⟨m, rfl⟩ := Int.eq_ofNat_of_zero_le h1
  have := q_cut (X := X) (L := L) (d := d) (ty := ty) (pos := pos) (af := af) (gd := gd) (lo := none) (hi := some y) (l := 0) (h := m) ht hx rfl hh (Nat.zero_le _) (by omega)
  rwa [cutAddr_zero] at this
theorem q_cutL {p : Option Addr} {n cap e sz bytes : Nat} {l : Int} (ht : slElem X.P t = some (e, sz, bytes)) (hx : Env.ev E x = some (.slice p n cap)) (hl : Env.ev E y = some (.int .i64 l)) (h1 : 0 ≤ l) (h2 : l ≤ n) (h3 : n ≤ cap) :
    OpQ X ⟨d, .slice t x (some y) none none, ty, pos, af, gd⟩ E L (.slice (cutAddr p cap l.toNat sz) (n - l.toNat) (cap - l.toNat)) := by
  obtain ⟨m, rfl⟩ := Int.eq_ofNat_of_zero_le h1
  exact q_cut (lo := some y) (hi := none) (l := m) (h := n) ht hx hl rfl (by omega) h3
theorem q_cutB {p : Option Addr} {n cap e sz bytes : Nat} {l h : Int} (ht : slElem X.P t = some (e, sz, bytes)) (hx : Env.ev E x = some (.slice p n cap)) (hl : Env.ev E y = some (.int .i64 l)) (hh : Env.ev E z = some (.int .i64 h)) (h1 : 0 ≤ l) (h2 : l ≤ h) (h3 : h ≤ cap) :
    OpQ X ⟨d, .slice t x (some y) (some z) none, ty, pos, af, gd⟩ E L (.slice (cutAddr p cap l.toNat sz) (h.toNat - l.toNat) (cap - l.toNat)) := by
  obtain ⟨m, rfl⟩ := Int.eq_ofNat_of_zero_le h1
  obtain ⟨k, rfl⟩ := Int.eq_ofNat_of_zero_le (a := h) (by omega)
  exact q_cut (lo := some y) (hi := some z) (l := m) (h := k) ht hx hl hh (by omega) (by omega)
theorem q_scutH {s : ByteArray} {h : Int} (ht : X.P.underlying t = some .string) (hx : Env.ev E x = some (.string s)) (hh : Env.ev E y = some (.int .i64 h)) (h1 : 0 ≤ h) (h2 : h ≤ s.size) :
    OpQ X ⟨d, .slice t x none (some y) none, ty, pos, af, gd⟩ E L (.string (s.extract 0 h.toNat)) := by
  obtain ⟨m, rfl⟩ := Int.eq_ofNat_of_zero_le h1
  exact q_scut (lo := none) (hi := some y) (l := 0) (h := m) ht hx rfl hh (Nat.zero_le _) (by omega)
theorem q_scutL {s : ByteArray} {l : Int} (ht : X.P.underlying t = some .string) (hx : Env.ev E x = some (.string s)) (hl : Env.ev E y = some (.int .i64 l)) (h1 : 0 ≤ l) (h2 : l ≤ s.size) :
    OpQ X ⟨d, .slice t x (some y) none none, ty, pos, af, gd⟩ E L (.string (s.extract l.toNat s.size)) := by
  obtain ⟨m, rfl⟩ := Int.eq_ofNat_of_zero_le h1
  exact q_scut (lo := some y) (hi := none) (l := m) (h := s.size) ht hx hl rfl (by omega) (Nat.le_refl _)
theorem q_scutB {s : ByteArray} {l h : Int} (ht : X.P.underlying t = some .string) (hx : Env.ev E x = some (.string s)) (hl : Env.ev E y = some (.int .i64 l)) (hh : Env.ev E z = some (.int .i64 h)) (h1 : 0 ≤ l) (h2 : l ≤ h) (h3 : h ≤ s.size) :
    OpQ X ⟨d, .slice t x (some y) (some z) none, ty, pos, af, gd⟩ E L (.string (s.extract l.toNat h.toNat)) := by
  obtain ⟨m, rfl⟩ := Int.eq_ofNat_of_zero_le h1
  obtain ⟨k, rfl⟩ := Int.eq_ofNat_of_zero_le (a := h) (by omega)
  exact q_scut (lo := some y) (hi := some z) (l := m) (h := k) ht hx hl hh (by omega) (by omega)
end

theorem rowF_cell0 {α : Type} {n : Nat} {enc : α → List Value} {hl : ∀ x, (enc x).length = n} {h1 : ∀ x, ∀ v ∈ enc x, v.oneCell' = true} {ρ : World} {L : List HP} {b o : Nat} {xs : List α} {i : Nat} {x : α} {v : Value}
    (m : RowF (Kd.flat n enc hl h1) (some ⟨b, o, none⟩) xs ∈ L) (hx : xs[i]? = some x) (hv : (enc x)[0]? = some v) : ∀ w, St ρ L w → w.cell? ⟨b, o + i * n, none⟩ = some v := rowF_cell (j := 0) m hx hv
theorem rowO_cell0 {α : Type} {n : Nat} {enc : α → List Value} {hl : ∀ x, (enc x).length = n} {h1 : ∀ x, ∀ v ∈ enc x, v.oneCell' = true} {ρ : World} {L : List HP} {e : TypeId} {b o cap : Nat} {xs : List α} {i : Nat} {x : α} {v : Value}
    (m : RowO (Kd.flat n enc hl h1) e (some ⟨b, o, none⟩) cap xs ∈ L) (hx : xs[i]? = some x) (hv : (enc x)[0]? = some v) : ∀ w, St ρ L w → w.cell? ⟨b, o + i * n, none⟩ = some v := rowO_cell (j := 0) m hx hv
theorem rowF_cellU {ρ : World} {L : List HP} {b o : Nat} {xs : List UInt8} {i : Nat} {x : UInt8} (m : RowF Kd.u8 (some ⟨b, o, none⟩) xs ∈ L) (hx : xs[i]? = some x) : ∀ w, St ρ L w → w.cell? ⟨b, o + i * 1, none⟩ = some (.int .u8 x.toNat) := rowF_cell (j := 0) m hx rfl
theorem row_cellU {ρ : World} {L : List HP} {A : HP} {b o : Nat} {xs : List UInt8} {i : Nat} {x : UInt8} (hA : IsRow A Kd.u8 (some ⟨b, o, none⟩) xs) (m : A ∈ L) (hx : xs[i]? = some x) : ∀ w, St ρ L w → w.cell? ⟨b, o + i * 1, none⟩ = some (.int .u8 x.toNat) := row_cell (j := 0) hA m hx rfl
section
variable {X : Fx} {k : List Item} {E : Env} {L : List HP}
/-- A loop in whose rounds the list stays: a family of frames, each with a measure. -/
theorem K.rloop {c : Code} {ι : Type} (I : ι → Env) (μ : ι → Nat) (i : ι) (hE : Env.sub E (I i)) (round : ∀ i, (∀ j, μ j < μ i → K X (.inLoop c :: k) (I j) L) → K X (.code c :: .inLoop c :: k) (I i) L) : K X (.code (.loop c) :: k) E L :=
  K.rounds (fun i => (I i, L)) μ i hE (fun _ h => h) round
end
theorem rowF_none {α : Type} {k : Kd α} {ρ : World} {L : List HP} {xs : List α} (m : RowF k none xs ∈ L) : ∀ w, St ρ L w → xs = [] := fun _ hs =>
  hs.fact m (fun _ _ h => by
    rcases (h : _ ∨ _) with h | ⟨b, o, _, _, _, hp, _⟩
    · exact h
    · cases hp)
end Go.Proofs.YthnmoiilaaoooaaGreat.L
/-! From a contract to a law's call: whatever the world W, the law answers true and leaves all that W held as it was. -/
namespace Go.Proofs.YthnmoiilaaoooaaGreat.L
open Go Go.RowKit

theorem St.start (W : World) : St W [old W] W :=
  ⟨rfl, rfl, ⟨rfl, Nat.le_refl _⟩, heapOf W, fun _ => none, fun _ => .inr rfl, Hp.le_refl _, Hp.none_le _, fun _ => none, fun _ => none, fun _ => .inl rfl, Hp.none_le _, Hp.none_le _, Hp.le_refl _, trivial⟩
/-- The law answers true; pre: what is told of its arguments. -/
theorem Fn.law {P : Program} {f : FuncId} {args : Array Value} {pre : List HP} (h : Fn P f args pre (fun v post => v = .bool true ∧ post = [])) (W : World) (hpre : St W (pre ++ [old W]) W) :
    Calls P f args W (fun e w' => e = .returned (.bool true) ∧ Below W.heap.size W w') :=
  (h.2 W [old W] W hpre).mono fun _ _ ⟨_, _, he, ⟨hv, hp⟩, hs⟩ => by
    subst hv hp
    exact ⟨he, hs.old_below (List.Mem.head _) rfl rfl rfl⟩
/-- A row that stands in W, told of W's heap, is a frozen row. -/
theorem St.rowOf {α : Type} {k : Kd α} {W : World} {L : List HP} {w : World} {p : Option Addr} {xs : List α} (m : old W ∈ L)
    (h : xs = [] ∨ ∃ b o c e fr, p = some ⟨b, o, none⟩ ∧ W.heap[b]? = some (.cells c e fr) ∧ rowAt k (heapOf W) c o xs) (hs : St W L w) : St W (RowF k p xs :: L) w :=
  St.derive m rfl (fun _ _ hg => h.imp id fun ⟨b, o, c, e, fr, hp, hb, hr⟩ => ⟨b, o, c, e, fr, hp, (hg : Hp.le (heapOf W) _) _ _ hb, hr.mono hg⟩) hs
/-- A text's bound, as the walks take it. -/
theorem sz_le {s : ByteArray} (h : s.size ≤ maxLen) : (s.size : Int) ≤ 9223372036854775807 := by unfold maxLen at h; omega
end Go.Proofs.YthnmoiilaaoooaaGreat.L
/-! What an argument's reading tells: the cells of a value of each type, as lists and records of Lean. -/
namespace Go.Proofs.YthnmoiilaaoooaaGreat.L
open Go Go.RowKit Go.ChangeShapes

section
variable {H : Type} (enc : TypeId × Value → H) (P : Program) (W : World)
/-- Whatever is read as of type t, its cells hold an x of kind k, and B tells of x. -/
def Opens {α : Type} (k : Kd α) (t : TypeId) (B : α → Prop) : Prop :=
  ∀ fuel cs y, DataW.trod enc P W 0 (fun _ => true) true fuel t cs = some y → ∃ x, k.rd (heapOf W) x cs ∧ B x
end
section
variable {H : Type} {enc : TypeId × Value → H} {P : Program} {W : World}
theorem opens_int {t : TypeId} (ht : P.underlying t = some (.int .i64)) : Opens enc P W (Kd.int .i64) t (fun n => -9223372036854775808 ≤ n ∧ n ≤ 9223372036854775807) := fun fuel cs y h => by
  obtain ⟨n, rfl, _, hw⟩ := DataW.trod_int ht h
  exact ⟨n, rfl, bounds_i64 hw⟩
theorem opens_u8 {t : TypeId} (ht : P.underlying t = some (.int .u8)) : Opens enc P W Kd.u8 t (fun _ => True) := fun fuel cs y h => by
  obtain ⟨n, rfl, _, hw⟩ := DataW.trod_int ht h
  have hb : 0 ≤ n ∧ n ≤ 255 := by
    simp [Lit.wf, IntKind.min, IntKind.max, IntKind.signed, IntKind.bits] at hw
    omega
  refine ⟨UInt8.ofNat n.toNat, ?_, trivial⟩
  show [Value.int .u8 n] = [Value.int .u8 _]
  have : ((UInt8.ofNat n.toNat).toNat : Int) = n := by rw [UInt8.toNat_ofNat']; omega
  rw [this]
theorem opens_bool {t : TypeId} (ht : P.underlying t = some .bool) : Opens enc P W Kd.boolK t (fun _ => True) := fun fuel cs y h => by
  obtain ⟨b, rfl, _⟩ := DataW.trod_bool ht h
  exact ⟨b, rfl, trivial⟩
theorem opens_str {t : TypeId} (ht : P.underlying t = some .string) : Opens enc P W Kd.str t (fun s => (s.size : Int) ≤ 9223372036854775807) := fun fuel cs y h => by
  obtain ⟨s, rfl, _, hs⟩ := DataW.trod_string ht h
  exact ⟨s, rfl, sz_le hs⟩
/-- A slice's header, and the row behind it. -/
theorem opens_slice {α : Type} {k : Kd α} {B : α → Prop} {t e : TypeId} (ht : P.underlying t = some (.slice e)) (hc : P.cellsOf e = k.sz) (h0 : 0 < k.sz) (he : Opens enc P W k e B) {fuel : Nat} {cs : List Value} {y : DataW H × List MemPlace}
    (h : DataW.trod enc P W 0 (fun _ => true) true fuel t cs = some y) :
    ∃ (p : Option Addr) (xs : List α) (cap : Nat), cs = [.slice p xs.length cap] ∧ xs.length ≤ cap ∧ (cap : Int) ≤ 9223372036854775807 ∧ (∀ x ∈ xs, B x) ∧
      (xs = [] ∨ ∃ b o c e fr, p = some ⟨b, o, none⟩ ∧ W.heap[b]? = some (.cells c e fr) ∧ rowAt k (heapOf W) c o xs) := by
  rcases DataW.trod_slice ht h with ⟨rfl, _⟩ | ⟨a, len, cap, elems, rest, n, _, rfl, _, hb, hl, hm, hlen, hel, _⟩
  · exact ⟨none, [], 0, rfl, Nat.le_refl _, by decide, fun x hx => by simp at hx, .inl rfl⟩
  have hmax : (cap : Int) ≤ 9223372036854775807 := by unfold maxLen at hm; omega
  by_cases hl0 : len = 0
  · subst hl0
    exact ⟨some a, [], cap, rfl, Nat.zero_le _, hmax, fun x hx => by simp at hx, .inl rfl⟩
  have each : ∀ i : Fin len, ∃ x cs', W.cells? 0 (a.add (i.1 * k.sz)) k.sz = some cs' ∧ k.rd (heapOf W) x cs' ∧ B x := by
    intro i
    have h1 := hel i.1 i.2
    rw [List.getElem?_eq_getElem (by omega), hc, Option.bind_eq_some_iff] at h1
    obtain ⟨cs', h2, h3⟩ := h1
    obtain ⟨x, h4, h5⟩ := he _ _ _ h3
    exact ⟨x, cs', h2, h4, h5⟩
  let f : Fin len → α := fun i => Classical.choose (each i)
  have hf : ∀ i : Fin len, ∃ cs', W.cells? 0 (a.add (i.1 * k.sz)) k.sz = some cs' ∧ k.rd (heapOf W) (f i) cs' ∧ B (f i) := fun i => Classical.choose_spec (each i)
  have hlen2 : (List.ofFn f).length = len := List.length_ofFn
  -- the block
  obtain ⟨b, o, hab, c, ee, fr, hblk⟩ : ∃ b o, a = ⟨b, o, none⟩ ∧ ∃ c ee fr, W.heap[b]? = some (.cells c ee fr) := by
    obtain ⟨cs', h1, h2, _⟩ := hf ⟨0, by omega⟩
    obtain ⟨_, hl', hcell⟩ := World.cells?_some h1
    have h3 := hcell 0 h0
    have h4 : W.cell? a = some (cs'[0]'(by omega)) := by
      rw [← List.getElem?_eq_getElem (by omega)]
      simpa [Addr.add] using h3
    unfold World.cell? at h4
    obtain ⟨b, o, sp⟩ := a
    split at h4
    · rename_i c ee fr hb
      cases sp with
      | none => exact ⟨b, o, rfl, c, ee, fr, hb⟩
      | some s => simp at h4
    · cases h4
  subst hab
  refine ⟨some ⟨b, o, none⟩, List.ofFn f, cap, by rw [hlen2], by rw [hlen2]; exact hl, hmax, ?_, .inr ⟨b, o, c, ee, fr, rfl, hblk, ?_⟩⟩
  · intro x hx
    obtain ⟨i, rfl⟩ := List.mem_ofFn.1 hx
    obtain ⟨_, _, _, h⟩ := hf i
    exact h
  · intro i x hx
    obtain ⟨hi, hx2⟩ := List.getElem?_eq_some_iff.1 hx
    rw [List.getElem_ofFn] at hx2
    have hi' : i < len := by rwa [hlen2] at hi
    obtain ⟨cs', h1, h2, _⟩ := hf ⟨i, hi'⟩
    obtain ⟨_, hl', hcell⟩ := World.cells?_some h1
    refine ⟨cs', hx2 ▸ h2, fun j v hv => ?_⟩
    have hj : j < k.sz := by rw [← hl']; exact (List.getElem?_eq_some_iff.1 hv).1
    have h3 := hcell j hj
    rw [add_addr, add_addr, hv] at h3
    unfold World.cell? at h3
    have h4 : W.heap[(⟨b, o + i * k.sz + j, none⟩ : Addr).block]? = some (.cells c ee fr) := hblk
    rw [h4] at h3
    exact h3
/-- A record: the cells of each field are read. -/
theorem opens_fields {t : TypeId} {fs : Array Field} (ht : P.underlying t = some (.struct fs)) {fuel : Nat} {cs : List Value} {y : DataW H × List MemPlace} (h : DataW.trod enc P W 0 (fun _ => true) true fuel t cs = some y) :
    cs.length = P.cellsOf t ∧ ∃ n, ∀ (i : Nat) (f : Field), fs[i]? = some f → ∃ y, DataW.trod enc P W 0 (fun _ => true) true n f.type ((cs.drop f.offset).take (P.cellsOf f.type)) = some y := by
  obtain ⟨xs, n, _, _, hl, hlen, hf⟩ := DataW.trod_struct ht h
  refine ⟨hl, n, fun i f hi => ?_⟩
  have hi' : i < xs.length := by rw [hlen]; exact (Array.getElem?_eq_some_iff.1 hi).1
  exact ⟨xs[i], by rw [hf i f hi, List.getElem?_eq_getElem hi']⟩
end
end Go.Proofs.YthnmoiilaaoooaaGreat.L
