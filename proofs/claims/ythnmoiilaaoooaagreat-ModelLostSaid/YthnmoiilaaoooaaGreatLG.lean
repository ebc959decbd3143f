/- The library's test whether two rows overlap: an owned row, and a block of one's own. No program in sight. -/
import Derived.Test.YthnmoiilaaoooaaGreatLF
import Derived.Lib.Overlaps
import Derived.Laws.Externs
namespace Go.Proofs.YthnmoiilaaoooaaGreat.L
open Go Go.RowKit

theorem rowO_take {α : Type} {k : Kd α} {e : TypeId} {p : Option Addr} {cap : Nat} {xs : List α} {ρ : World} {L : List HP} {w : World} (n : Nat) (h : St ρ (RowO k e p cap xs :: L) w) : St ρ (RowO k e p cap (xs.take n) :: L) w :=
  h.turn fun g q ha => by
    rcases (ha : _ ∨ _) with ⟨h1, h2, h3⟩ | ⟨b, o, c, hp, hl, hb, hs, hr⟩
    · exact .inl ⟨h1, h2, by rw [h3]; simp⟩
    · exact .inr ⟨b, o, c, hp, by rw [List.length_take]; omega, hb, hs, hr.take n⟩
theorem pt_apart {α : Type} {k : Kd α} {ρ : World} {L1 : List HP} {w : World} {bv : Nat} {ob : Obj} {e : TypeId} {b o cap : Nat} {xs : List α} (m : RowO k e (some ⟨b, o, none⟩) cap xs ∈ L1) (h : St ρ (pt bv ob :: L1) w) : bv ≠ b := by
  obtain ⟨g, q, a, lg, lq, h1, h2, ap, l1, l2, ha, d⟩ := h.body
  obtain ⟨h3, l3, hr⟩ := sepAll_mem m d
  rcases (hr : _ ∨ _) with ⟨hp, _⟩ | ⟨b', o', c, hp, _, hb, _⟩
  · cases hp
  · cases hp
    rintro rfl
    have ha : h1 bv = some ob := ha
    rcases ap bv with e1 | e1
    · rw [ha] at e1; cases e1
    · rw [l3 _ _ hb] at e1; cases e1
theorem row_heap {α : Type} {k : Kd α} {ρ : World} {L1 : List HP} {w : World} {e : TypeId} {b o cap : Nat} {xs : List α} (m : RowO k e (some ⟨b, o, none⟩) cap xs ∈ L1) (h : St ρ L1 w) : ∃ c, w.heap[b]? = some (.cells c e (0, 0)) ∧ o + cap * k.sz ≤ c.size := by
  obtain ⟨g, q, a, lg, lq, d⟩ := h.body
  obtain ⟨h3, l3, hr⟩ := sepAll_mem m d
  rcases (hr : _ ∨ _) with ⟨hp, _⟩ | ⟨b', o', c, hp, _, hb, hs, _⟩
  · cases hp
  · cases hp
    exact ⟨c, lq _ _ (l3 _ _ hb), hs⟩
section
variable {X : Fx} {E : Env} {L L1 : List HP} {d : Option Tmp} {ty : TypeId} {pos : String} {af : Array Edge} {gd : Option (Nat × Bool)} {x y : Operand} {ats : Array TypeId}
theorem q_apart {α : Type} {k : Kd α} {f : FuncId} {fn : Func} {tS tR e1 e ev bytes bv ov la ca b o o' lb cb cap : Nat} {cs : List Value} {xs : List α} (hf : X.P.funcs[f]? = some fn) (hname : (fn.name == "runtime.NumGoroutine") = false) (hb : fn.body.isNone = true) (hn : Extern.findNext fn = none)
    (he : Extern.find fn = some (Extern.SlicesOverlaps.overlaps #[tS, tS] #[tR])) (ht : slElem X.P tS = some (e1, k.sz, bytes)) (hx : Env.ev E x = some (.slice (some ⟨bv, ov, none⟩) la ca)) (hy : Env.ev E y = some (.slice (some ⟨b, o', none⟩) lb cb))
    (hp : Pick L (pv bv ev cs) L1) (m : RowO k e (some ⟨b, o, none⟩) cap xs ∈ L1) (h0 : 0 < cap) (hk0 : 0 < k.sz) :
    OpQ X ⟨d, .call ⟨.value (.func f), [x, y].toArray, ats⟩, ty, pos, af, gd⟩ E L (.bool false) := fun a w hk hs => by
  have h1 := hs.pick hp
  have hne := pt_apart m h1
  obtain ⟨c, hc, hcs⟩ := row_heap m h1.tail
  have hv : w.heap[bv]? = some (.cells cs.toArray ev (0, 0)) := h1.pt_heap (List.Mem.head _)
  unfold slElem at ht
  cases hu : X.P.underlying tS with
  | none => rw [hu] at ht; simp at ht
  | some dd =>
    cases dd <;> rw [hu] at ht <;> simp only [reduceCtorEq] at ht
    rename_i e2
    cases hinf : X.P.info? e2 with
    | none => rw [hinf] at ht; simp at ht
    | some inf =>
      rw [hinf] at ht
      simp only [Option.some.injEq, Prod.mk.injEq] at ht
      obtain ⟨rfl, hisz, _⟩ := ht
      have hpos : 0 < cap * k.sz := Nat.mul_pos h0 hk0
      have hrun := Go.Lib.run_overlaps_apart (P := X.P) w tS tR e2 hu k.sz (fun w => by simp [sizeOf, typeInfo, hinf, hisz]) ⟨bv, ov, none⟩ ⟨b, o', none⟩ la ca lb cb hne ev e cs.toArray.size c.size
        (by simp [World.shape?, hv]) (by simp [World.shape?, hc]) (by omega) (by simp [World.frozen?, hv]) (by simp [World.frozen?, hv])
      have hcall := run_callFunc_extern (P := X.P) hf hname hb hn he #[.slice (some ⟨bv, ov, none⟩) la ca, .slice (some ⟨b, o', none⟩) lb cb] w
      rw [hrun] at hcall
      have n1 : ¬ fn.name = "runtime.NumGoroutine" := by simpa using hname
      have e0 : a.eval (.func f) = .func (.func f) #[] #[] := hk.ev (x := .func f) rfl
      simp [execOp, resolve, Deferred.ofValue, invoke, e0, hk.ev hx, hk.ev hy, hcall, Result.andThen_ok]
/-- s[l:h:m] -/
theorem q_cut3 {p : Option Addr} {n cap e sz bytes : Nat} {t : TypeId} {lo hi mx : Operand} {l h m : Int} (ht : slElem X.P t = some (e, sz, bytes)) (hx : Env.ev E x = some (.slice p n cap))
    (hl : Env.ev E lo = some (.int .i64 l)) (hh : Env.ev E hi = some (.int .i64 h)) (hm : Env.ev E mx = some (.int .i64 m)) (h0 : 0 ≤ l) (h1 : l ≤ h) (h2 : h ≤ m) (h3 : m ≤ cap) :
    OpQ X ⟨d, .slice t x (some lo) (some hi) (some mx), ty, pos, af, gd⟩ E L (.slice (cutAddr p m.toNat l.toNat sz) (h.toNat - l.toNat) (m.toNat - l.toNat)) := fun _ w hk _ => by
  unfold slElem at ht
  cases hu : X.P.underlying t with
  | none => rw [hu] at ht; simp at ht
  | some ds =>
    cases ds <;> rw [hu] at ht <;> simp only [reduceCtorEq] at ht
    rename_i e'
    cases hi' : X.P.info? e' with
    | none => rw [hi'] at ht; simp at ht
    | some inf =>
      rw [hi'] at ht
      simp only [Option.some.injEq, Prod.mk.injEq] at ht
      obtain ⟨rfl, rfl, rfl⟩ := ht
      obtain ⟨l, rfl⟩ := Int.eq_ofNat_of_zero_le h0
      obtain ⟨h, rfl⟩ := Int.eq_ofNat_of_zero_le (a := h) (by omega)
      obtain ⟨m, rfl⟩ := Int.eq_ofNat_of_zero_le (a := m) (by omega)
      have k1 : l ≤ h := by omega
      have k2 : h ≤ m := by omega
      have k3 : m ≤ cap := by omega
      simp [execOp, hk.ev hx, hk.ev hl, hk.ev hh, hk.ev hm, Instr.sliceAt, underlying, hu, Instr.slice, Instr.sliceBounds, Instr.sliceBound, asIntOf, k1, k2, k3, sizeOf, typeInfo, hi', cutAddr]
/-- A whole element. -/
theorem l_storeEN {α : Type} {sz : Nat} {enc : α → List Value} {hl : ∀ x, (enc x).length = sz} {h1 : ∀ x, ∀ v ∈ enc x, v.oneCell' = true} {p : Option Addr} {e cap n : Nat} {t : TypeId} {xs : List α} (el' : α) (ht : cellK X.P t = some (true, sz)) (hx : Env.ev E x = some (.pointer (some (elA p n sz 0)))) (hy : Env.ev E y = some (.agg (enc el').toArray))
    (hp : Pick L (RowO (Kd.flat sz enc hl h1) e p cap xs) L1) (hn : n < xs.length) :
    OpL X ⟨d, .store t x y, ty, pos, af, gd⟩ E L (fun v' L' => v' = undef ∧ L' = RowO (Kd.flat sz enc hl h1) e p cap (xs.set n el') :: L1) := fun a w hk hs => by
  have hs' := hs.pick hp
  rcases rowO_open hs' with ⟨_, _, hx0, _⟩ | ⟨b, o, c, rfl, hlc, hcs, h2⟩
  · rw [hx0] at hn; simp at hn
  have hb : w.heap[b]? = some (.cells c e (0, 0)) := h2.pt_heap (List.Mem.head _)
  have hcs' : o + cap * sz ≤ c.size := hcs
  have hmul : (n + 1) * sz ≤ cap * sz := Nat.mul_le_mul_right _ (by omega)
  rw [Nat.succ_mul] at hmul
  have hlen := hl el'
  have hrun := run_storeCells (P := X.P) (b := b) (o := o + n * sz) (enc el') 0 w c hb (h1 el') (by omega)
  rw [Nat.add_zero] at hrun
  rw [elA_some] at hx
  unfold Oper.wp
  have : (execOp a.eval ⟨d, .store t x y, ty, pos, af, gd⟩).run X.P w = .ok .skip (putBlk w b (.cells (spl c (o + n * sz) (enc el')) e (0, 0))) := by
    simp only [execOp, hk.ev hx, hk.ev hy, Instr.storeAt, Instr.sureAddr, storeVar, Sem.run_bind, Sem.run_pure, Result.andThen_ok, run_sizeK ht, Value.cells]
    simp only [List.size_toArray, hlen, ne_eq, not_true_eq_false, if_false]
    rw [Nat.add_zero, hrun]
    rfl
  rw [this]
  refine ⟨undef, _, ⟨rfl, rfl⟩, rfl, ?_⟩
  have hL2 := h2.put (.cells (spl c (o + n * sz) (enc el')) e (0, 0))
  have hget := fun q => spl_get (enc el') c (o + n * sz) q (by omega)
  have hL3 := St.derive (B := rowP (Kd.flat sz enc hl h1) (spl c (o + n * sz) (enc el')) o (xs.set n el')) (List.Mem.tail _ (List.Mem.head _)) rfl
    (fun g _ hr => rowAt.setE (hr : rowAt (Kd.flat sz enc hl h1) g c o xs) (fun i q hi hq => by
        rw [hget, if_neg]
        rcases Nat.lt_or_gt_of_ne hi with h | h
        · have := Nat.mul_le_mul_right sz (show i + 1 ≤ n from h); rw [Nat.succ_mul] at this; omega
        · have := Nat.mul_le_mul_right sz (show n + 1 ≤ i from h); rw [Nat.succ_mul] at this; omega)
      (fun q u hu => by
        have hq : q < (enc el').length := (List.getElem?_eq_some_iff.1 hu).1
        rw [hget, if_pos (by omega), ← hu]
        congr 1
        omega)) hL2
  exact rowO_shut (c := spl c (o + n * sz) (enc el')) (by rw [spl_size]; exact hcs) (by rw [List.length_set]; exact hlc) (((hL3.pick (.there .here)).pick (.there (.there .here))).tail)
theorem rowAt_zeros {α : Type} {k : Kd α} {g : Hp} {z : List Value} {zc : Array Value} {z0 : α} (hz0 : k.rd g z0 z) (hzc : zc.toList = z) (hzl : z.length = k.sz) (n : Nat) : rowAt k g (Builtin.zeroCells zc n) 0 (List.replicate n z0) := fun i x hx => by
  obtain ⟨hi, e⟩ := List.getElem?_eq_some_iff.1 hx
  rw [List.length_replicate] at hi
  rw [List.getElem_replicate] at e
  subst e
  have hs : zc.size = k.sz := by rw [← hzl, ← hzc]; simp
  refine ⟨z, hz0, fun j v hv => ?_⟩
  have hj : j < k.sz := by rw [← hzl]; exact (List.getElem?_eq_some_iff.1 hv).1
  have hm : (i + 1) * k.sz ≤ n * k.sz := Nat.mul_le_mul_right _ hi
  rw [Nat.succ_mul] at hm
  have hlt : 0 + i * k.sz + j < n * zc.size := by rw [hs]; omega
  unfold Builtin.zeroCells
  rw [Array.getElem?_map, Array.getElem?_range, if_pos hlt, Option.map_some]
  have hmod : (0 + i * k.sz + j) % zc.size = j := by rw [hs, Nat.zero_add, Nat.mul_comm, Nat.mul_add_mod, Nat.mod_eq_of_lt hj]
  rw [hmod, ← hv, ← hzc, Array.getElem?_toList, getElem!_pos zc j (by rw [hs]; exact hj), Array.getElem?_eq_getElem (by rw [hs]; exact hj)]
/-- append(s[:i], make([]T, n)...), no room. -/
theorem l_growPre {α : Type} (k : Kd α) {t t2 : TypeId} {e e' bytes n i cap : Nat} {p : Option Addr} {xs : List α} {z : List Value} (z0 : α) (ht : slElem X.P t = some (e, k.sz, bytes)) (ht2 : X.P.underlying t2 = some (.int .i64)) (hz : zeroOf X.P e = some z) (hzl : z.length = k.sz) (hz0 : ∀ g, k.rd g z0 z)
    (hx : Env.ev E x = some (.slice p i cap)) (hy : Env.ev E y = some (.int .i64 (n : Int))) (hp : Pick L (RowO k e' p cap xs) L1) (hi : i ≤ xs.length) (hgrow : cap < i + n) (h0 : 0 < n) (hk0 : 0 < k.sz) (hby : bytes ≠ 0) (hbig : (2 * (i + n) + 768) * bytes ≤ 281474976710656) :
    OpL X ⟨d, .call ⟨.builtin .append, [x, y].toArray, [t, t2].toArray⟩, ty, pos, af, gd⟩ E L (fun v L' => ∃ b cap', v = .slice (some ⟨b, 0, none⟩) (i + n) cap' ∧ L' = RowO k e (some ⟨b, 0, none⟩) cap' (xs.take i ++ List.replicate n z0) :: RowO k e' p cap xs :: L1) := fun a w hk hst => by
  have e1 := hk.ev hx
  have e2 := hk.ev hy
  have h1 := hst.pick hp
  obtain ⟨old, hold, holdsz, _, h2⟩ := row_cells (P := X.P) (n := i) (c := cap) (isRow_take (isO (k := k) (e := e') (p := p) (cap := cap) (xs := xs)) i) (List.Mem.head L1) (by rw [List.length_take]; omega) h1
  unfold slElem at ht
  cases hu : X.P.underlying t with
  | none => rw [hu] at ht; simp at ht
  | some dd =>
    cases dd <;> rw [hu] at ht <;> simp only [reduceCtorEq] at ht
    rename_i e1'
    cases hinf : X.P.info? e1' with
    | none => rw [hinf] at ht; simp at ht
    | some inf =>
      rw [hinf] at ht
      simp only [Option.some.injEq, Prod.mk.injEq] at ht
      obtain ⟨rfl, hisz, hiby⟩ := ht
      unfold zeroOf at hz
      rw [hinf] at hz
      simp only [Option.bind_some] at hz
      obtain ⟨zv, hzv, hzc⟩ := Option.map_eq_some_iff.1 hz
      have hzs : zv.cells.size = k.sz := by rw [← hzl, ← hzc]; simp
      have hle1 : i + n ≤ (2 * (i + n) + 768) * bytes := Nat.le_trans (by omega) (Nat.le_mul_of_pos_right _ (Nat.pos_of_ne_zero hby))
      have hn2 : Builtin.nextslicecap (i + n) cap ≤ 2 * (i + n) + 768 := nextcap_le (by omega)
      have hbig' : ¬ (Builtin.nextslicecap (i + n) cap * inf.bytes > 2 ^ 48) := by
        have := Nat.mul_le_mul_right inf.bytes hn2
        rw [hiby] at this ⊢
        omega
      have hw : IntKind.i64.wrap (n : Int) = n := wrap_i64 (by omega) (by omega)
      have hneg : ¬ (n : Int) < 0 := by omega
      have hnb : n * bytes ≤ 281474976710656 := Nat.le_trans (Nat.mul_le_mul_right _ (by omega)) hbig
      have hb3 : ¬ (281474976710656 < (n : Int) * (inf.bytes : Int)) := by
        rw [hiby]
        have : ((n * bytes : Nat) : Int) ≤ 281474976710656 := by omega
        rw [Int.natCast_mul] at this
        omega
      have hm2 : ¬ (9223372036854775807 < (i : Int) + (n : Int)) := by omega
      have hfit : ¬ i + n ≤ cap := by omega
      have hni : ¬ n = 0 := by omega
      have hks : ¬ k.sz = 0 := by omega
      have hb0 : ¬ inf.bytes = 0 := by rw [hiby]; exact hby
      have hb4 : ¬ (281474976710656 < Builtin.nextslicecap (i + n) cap * inf.bytes) := by simpa using hbig'
      have hforced : (Question.appendCap (i + n) cap e1').forced = false := rfl
      let nc := (Question.appendCap (i + n) cap e1').cut (w.tape w.drawn (Question.appendCap (i + n) cap e1'))
      have hnc : i + n ≤ nc := Nat.le_add_right _ _
      let arr : Array Value := old ++ Builtin.zeroCells zv.cells n ++ Builtin.zeroCells zv.cells (nc - (i + n))
      have hold' : (Builtin.firstCells k.sz i (.slice p i cap)).run X.P w.drew = .ok old w.drew := hold _ rfl
      have hrun : (Builtin.append_ #[t, t2] ty #[.slice p i cap, .int .i64 (n : Int)]).run X.P w = .ok (.slice (some ⟨w.heap.size, 0, none⟩) (i + n) nc) { w with drawn := w.drawn + 1, heap := w.heap.push (.cells arr e1') } := by
        simp [Builtin.append_, underlying, hu, sizeOf, typeInfo, hinf, hisz, ht2, asInt, asIntOf, hw, hneg, hb3, hb4, hm2, hfit, hforced, hold', zeroValue, hzv, newRow, nc, arr, hb0]
        rw [if_neg (Nat.ne_of_gt (Nat.mul_pos h0 hk0))]
        rfl
      have hzn : ∀ q, (Builtin.zeroCells zv.cells q).size = q * k.sz := fun q => by simp [Builtin.zeroCells, hzs]
      have harr : arr.size = 0 + nc * k.sz := by
        have : nc * k.sz = (i * k.sz + n * k.sz) + (nc - (i + n)) * k.sz := by rw [← Nat.add_mul, ← Nat.add_mul]; congr 1; omega
        simp only [arr, Array.size_append, holdsz, hzn]
        omega
      unfold Oper.wp
      have : (execOp a.eval ⟨d, .call ⟨.builtin .append, [x, y].toArray, [t, t2].toArray⟩, ty, pos, af, gd⟩).run X.P w = .ok (.value (.slice (some ⟨w.heap.size, 0, none⟩) (i + n) nc)) { w with drawn := w.drawn + 1, heap := w.heap.push (.cells arr e1') } := by
        simp only [execOp, resolve, invoke, builtin, Sem.run_bind, Sem.run_pure, Result.andThen_ok, List.map_toArray, List.map_cons, List.map_nil, e1, e2]
        rw [hrun]
        rfl
      rw [this]
      have hL1 := (h2.drewN (w.drawn + 1) (Nat.le_succ _)).alloc (.cells arr e1')
      have htl : (xs.take i).length = i := by rw [List.length_take]; omega
      have hL3 := St.derive (B := rowP k arr 0 (xs.take i ++ List.replicate n z0)) (List.Mem.tail _ (List.Mem.head _)) rfl
        (fun g _ h1 => rowAt.append (h1 : rowAt k g old 0 (xs.take i)) (rowAt_zeros (hz0 g) hzc hzl n)
          (fun j hj => by
            rw [htl] at hj
            rw [Nat.zero_add]
            simp only [arr]
            rw [Array.getElem?_append_left (by simp [holdsz, hzn]; omega), Array.getElem?_append_left (by omega)])
          (fun j hj => by
            rw [List.length_replicate] at hj
            rw [htl]
            simp only [arr, Nat.zero_add]
            rw [Array.getElem?_append_left (by simp [holdsz, hzn]; omega), Array.getElem?_append_right (by omega)]
            congr 1
            omega)) hL1
      have hL4 := ((hL3.pick (.there .here)).pick (.there (.there .here))).tail
      exact ⟨_, _, ⟨w.heap.size, nc, rfl, rfl⟩, rfl, rowO_shut (Nat.le_of_eq harr.symm) (by rw [List.length_append, htl, List.length_replicate]; omega) hL4⟩
end
end Go.Proofs.YthnmoiilaaoooaaGreat.L
