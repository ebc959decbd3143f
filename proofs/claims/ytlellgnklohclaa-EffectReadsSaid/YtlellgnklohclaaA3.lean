/- Walks: the reader of package bytes, continued. -/
import Derived.Test.YtlellgnklohclaaA2
namespace Go.Proofs.Ytlellgnklohclaa.L
open Go Go.Proofs
attribute [local irreducible] pv fv pt fz RowF RowO rowP old pure_
set_option maxRecDepth 100000
set_option linter.unusedSimpArgs false
set_option linter.unusedVariables false

theorem Rd.take_failed {s : Rd} {n : Nat} (h : s.f = true) : s.take n = (none, s) := by simp [Rd.take, h]
theorem Rd.take_short {s : Rd} {n : Nat} (h : s.f = false) (hl : s.bs.length < n) : s.take n = (none, ⟨[], true⟩) := by simp [Rd.take, h, hl]
theorem Rd.take_ok {s : Rd} {n : Nat} (h : s.f = false) (hl : n ≤ s.bs.length) : s.take n = (some (s.bs.take n), ⟨s.bs.drop n, false⟩) := by
  have : ¬ s.bs.length < n := by omega
  simp [Rd.take, h, this]
theorem rd_number (p : Nat) (q : Option Addr) (cap : Nat) (s : Rd) (n : Int) (h0 : 0 ≤ n) (h8 : n ≤ 8) (hc : s.bs.length ≤ cap) : Fn Try.prog 67 [.pointer (some ⟨p, 0, none⟩), .int .i64 n].toArray (RdL p q cap s)
    (fun r post => ∃ q' cap', r = .int .u64 (s.num n.toNat).1 ∧ post = RdL p q' cap' (s.num n.toNat).2 ∧ (s.num n.toNat).2.bs.length ≤ cap') := by
  by_cases hf : s.f = true
  · refine Fn.enter (N := 34) Try.func67 rfl Try.ntmps67 (by kernel_rfl) rfl (fun ρ L => ?_)
    repeat (first | refine K.seq ?_ | refine K.skip ?_ | refine K.block ?_ | refine K.inBlock ?_ | refine K.label ?_)
    refine K.region ?_
    refine KO.q rfl (q_assign rfl) ?_
    refine KO.done ?_
    repeat (first | refine K.seq ?_ | refine K.skip ?_ | refine K.block ?_ | refine K.inBlock ?_ | refine K.label ?_)
    repeat (first | refine K.seq ?_ | refine K.skip ?_ | refine K.block ?_ | refine K.inBlock ?_ | refine K.label ?_)
    refine K.region ?_
    refine KO.q rfl (q_move rfl) ?_
    refine KO.q rfl (q_move rfl) ?_
    refine KO.loud rfl (OpL.call rfl (rd_take_failed p q cap s n hf) (by repeat (first | exact Give.nil | (apply Give.perI; (repeat (first | exact List.Mem.head _ | apply List.Mem.tail))) | (apply Give.own; (repeat (first | exact Pick.here | apply Pick.there)))))) ?_
    rintro _ _ ⟨_, ⟨rfl, rfl⟩, rfl⟩
    refine KO.q rfl (q_move rfl) ?_
    refine KO.q rfl (q_extract rfl rfl) ?_
    refine KO.q rfl (q_extract rfl rfl) ?_
    refine KO.q rfl (q_assign rfl) ?_
    refine KO.q rfl (q_assign rfl) ?_
    refine KO.done ?_
    repeat (first | refine K.seq ?_ | refine K.skip ?_ | refine K.block ?_ | refine K.inBlock ?_ | refine K.label ?_)
    repeat (first | refine K.seq ?_ | refine K.skip ?_ | refine K.block ?_ | refine K.inBlock ?_ | refine K.label ?_)
    refine K.region ?_
    refine KO.q rfl (q_move rfl) ?_
    refine KO.q rfl (q_not rfl) ?_
    refine KO.done ?_
    repeat (first | refine K.seq ?_ | refine K.skip ?_ | refine K.block ?_ | refine K.inBlock ?_ | refine K.label ?_)
    refine K.yes rfl ?_
    repeat (first | refine K.seq ?_ | refine K.skip ?_ | refine K.block ?_ | refine K.inBlock ?_ | refine K.label ?_)
    refine K.region ?_
    refine KO.q rfl (q_assign rfl) ?_
    refine KO.done ?_
    repeat (first | refine K.seq ?_ | refine K.skip ?_ | refine K.block ?_ | refine K.inBlock ?_ | refine K.label ?_)
    refine K.ret (fn := Try.f67) Try.func67 (fun a w hk hs => res1 Try.results67 hk rfl) (fun w hs => ?_)
    have e : s.num n.toNat = (0, s) := by simp [Rd.num, Rd.take_failed hf]
    exact ⟨_, RdL p q cap s, rfl, ⟨q, cap, by rw [e], by rw [e], by rw [e]; exact hc⟩, hs.fit (by repeat (first | exact Give.nil | (apply Give.perI; (repeat (first | exact List.Mem.head _ | apply List.Mem.tail))) | (apply Give.own; (repeat (first | exact Pick.here | apply Pick.there))))) (by repeat (first | exact Drop.refl | apply Drop.skip))⟩
  · replace hf : s.f = false := by simpa using hf
    by_cases hl : (s.bs.length : Int) < n
    · refine Fn.enter (N := 34) Try.func67 rfl Try.ntmps67 (by kernel_rfl) rfl (fun ρ L => ?_)
      repeat (first | refine K.seq ?_ | refine K.skip ?_ | refine K.block ?_ | refine K.inBlock ?_ | refine K.label ?_)
      refine K.region ?_
      refine KO.q rfl (q_assign rfl) ?_
      refine KO.done ?_
      repeat (first | refine K.seq ?_ | refine K.skip ?_ | refine K.block ?_ | refine K.inBlock ?_ | refine K.label ?_)
      repeat (first | refine K.seq ?_ | refine K.skip ?_ | refine K.block ?_ | refine K.inBlock ?_ | refine K.label ?_)
      refine K.region ?_
      refine KO.q rfl (q_move rfl) ?_
      refine KO.q rfl (q_move rfl) ?_
      refine KO.loud rfl (OpL.call rfl (rd_take_short p q cap s n hf hl) (by repeat (first | exact Give.nil | (apply Give.perI; (repeat (first | exact List.Mem.head _ | apply List.Mem.tail))) | (apply Give.own; (repeat (first | exact Pick.here | apply Pick.there)))))) ?_
      rintro _ _ ⟨_, ⟨rfl, rfl⟩, rfl⟩
      refine KO.q rfl (q_move rfl) ?_
      refine KO.q rfl (q_extract rfl rfl) ?_
      refine KO.q rfl (q_extract rfl rfl) ?_
      refine KO.q rfl (q_assign rfl) ?_
      refine KO.q rfl (q_assign rfl) ?_
      refine KO.done ?_
      repeat (first | refine K.seq ?_ | refine K.skip ?_ | refine K.block ?_ | refine K.inBlock ?_ | refine K.label ?_)
      repeat (first | refine K.seq ?_ | refine K.skip ?_ | refine K.block ?_ | refine K.inBlock ?_ | refine K.label ?_)
      refine K.region ?_
      refine KO.q rfl (q_move rfl) ?_
      refine KO.q rfl (q_not rfl) ?_
      refine KO.done ?_
      repeat (first | refine K.seq ?_ | refine K.skip ?_ | refine K.block ?_ | refine K.inBlock ?_ | refine K.label ?_)
      refine K.yes rfl ?_
      repeat (first | refine K.seq ?_ | refine K.skip ?_ | refine K.block ?_ | refine K.inBlock ?_ | refine K.label ?_)
      refine K.region ?_
      refine KO.q rfl (q_assign rfl) ?_
      refine KO.done ?_
      repeat (first | refine K.seq ?_ | refine K.skip ?_ | refine K.block ?_ | refine K.inBlock ?_ | refine K.label ?_)
      refine K.ret (fn := Try.f67) Try.func67 (fun a w hk hs => res1 Try.results67 hk rfl) (fun w hs => ?_)
      have e : s.num n.toNat = (0, ⟨[], true⟩) := by simp [Rd.num, Rd.take_short hf (show s.bs.length < n.toNat by omega)]
      exact ⟨_, RdL p none 0 ⟨[], true⟩, rfl, ⟨none, 0, by rw [e], by rw [e], by rw [e]; exact Nat.le_refl _⟩, hs.fit (by repeat (first | exact Give.nil | (apply Give.perI; (repeat (first | exact List.Mem.head _ | apply List.Mem.tail))) | (apply Give.own; (repeat (first | exact Pick.here | apply Pick.there))))) (by repeat (first | exact Drop.refl | apply Drop.skip))⟩
    · refine Fn.enter (N := 34) Try.func67 rfl Try.ntmps67 (by kernel_rfl) rfl (fun ρ L => ?_)
      repeat (first | refine K.seq ?_ | refine K.skip ?_ | refine K.block ?_ | refine K.inBlock ?_ | refine K.label ?_)
      refine K.region ?_
      refine KO.q rfl (q_assign rfl) ?_
      refine KO.done ?_
      repeat (first | refine K.seq ?_ | refine K.skip ?_ | refine K.block ?_ | refine K.inBlock ?_ | refine K.label ?_)
      repeat (first | refine K.seq ?_ | refine K.skip ?_ | refine K.block ?_ | refine K.inBlock ?_ | refine K.label ?_)
      refine K.region ?_
      refine KO.q rfl (q_move rfl) ?_
      refine KO.q rfl (q_move rfl) ?_
      refine KO.loud rfl (OpL.call rfl (rd_take_ok p q cap s n hf h0 (by omega) hc) (by repeat (first | exact Give.nil | (apply Give.perI; (repeat (first | exact List.Mem.head _ | apply List.Mem.tail))) | (apply Give.own; (repeat (first | exact Pick.here | apply Pick.there)))))) ?_
      rintro _ _ ⟨_, ⟨rfl, rfl⟩, rfl⟩
      refine KO.q rfl (q_move rfl) ?_
      refine KO.q rfl (q_extract rfl rfl) ?_
      refine KO.q rfl (q_extract rfl rfl) ?_
      refine KO.q rfl (q_assign rfl) ?_
      refine KO.q rfl (q_assign rfl) ?_
      refine KO.done ?_
      repeat (first | refine K.seq ?_ | refine K.skip ?_ | refine K.block ?_ | refine K.inBlock ?_ | refine K.label ?_)
      repeat (first | refine K.seq ?_ | refine K.skip ?_ | refine K.block ?_ | refine K.inBlock ?_ | refine K.label ?_)
      refine K.region ?_
      refine KO.q rfl (q_move rfl) ?_
      refine KO.q rfl (q_not rfl) ?_
      refine KO.done ?_
      repeat (first | refine K.seq ?_ | refine K.skip ?_ | refine K.block ?_ | refine K.inBlock ?_ | refine K.label ?_)
      refine K.no rfl ?_
      repeat (first | refine K.seq ?_ | refine K.skip ?_ | refine K.block ?_ | refine K.inBlock ?_ | refine K.label ?_)
      refine K.region ?_
      refine KO.q rfl (q_assign rfl) ?_
      refine KO.done ?_
      repeat (first | refine K.seq ?_ | refine K.skip ?_ | refine K.block ?_ | refine K.inBlock ?_ | refine K.label ?_)
      repeat (first | refine K.seq ?_ | refine K.skip ?_ | refine K.block ?_ | refine K.inBlock ?_ | refine K.label ?_)
      refine K.region ?_
      refine KO.q rfl (q_move rfl) ?_
      refine KO.q rfl (q_len Try.underlying25 rfl) ?_
      refine KO.q rfl (q_move rfl) ?_
      refine KO.done ?_
      repeat (first | refine K.seq ?_ | refine K.skip ?_ | refine K.block ?_ | refine K.inBlock ?_ | refine K.label ?_)
      have hlen : (s.bs.take n.toNat).length = n.toNat := by rw [List.length_take]; omega
      generalize hT : s.bs.take n.toNat = T at hlen ⊢
      refine K.rloop (ι := { i : Nat // i ≤ n.toNat }) (fun i => [(20, .int .i64 (i.1 : Int)), (7, .int .u64 (ofLe (T.take i.1))), (18, .slice q n.toNat cap), (19, .int .i64 (n.toNat : Int))]) (fun i => n.toNat - i.1) ⟨0, Nat.zero_le _⟩ (by repeat (first | exact Env.sub_nil _ | refine Env.sub_cons rfl ?_)) (fun i ih => ?_)
      obtain ⟨i, hi⟩ := i
      repeat (first | refine K.seq ?_ | refine K.skip ?_ | refine K.block ?_ | refine K.inBlock ?_ | refine K.label ?_)
      refine K.region ?_
      refine KO.q rfl (q_lt rfl rfl) ?_
      refine KO.done ?_
      repeat (first | refine K.seq ?_ | refine K.skip ?_ | refine K.block ?_ | refine K.inBlock ?_ | refine K.label ?_)
      refine K.dite rfl (fun h => ?_) (fun h => ?_)
      · repeat (first | refine K.seq ?_ | refine K.skip ?_ | refine K.block ?_ | refine K.inBlock ?_ | refine K.label ?_)
        replace h : (i : Int) < (n.toNat : Int) := h
        have hi' : i < n.toNat := by omega
        obtain ⟨c, hx⟩ : ∃ c, T[i]? = some c := ⟨T[i]'(by omega), List.getElem?_eq_getElem _⟩
        have hb := c.toNat_lt
        refine K.fact (rowF_addr (List.Mem.head _) (by intro e; rw [e] at hx; simp at hx)) (fun hq => ?_)
        obtain ⟨bq, oq, rfl⟩ := hq
        repeat (first | refine K.seq ?_ | refine K.skip ?_ | refine K.block ?_ | refine K.inBlock ?_ | refine K.label ?_)
        refine K.region ?_
        refine KO.q rfl (q_move rfl) ?_
        refine KO.q rfl (q_index se_25 rfl rfl (by first | omega | (simp; omega)) (by first | omega | (simp; omega))) ?_
        refine KO.q rfl (q_load1 ck_5 rfl (by first | (apply cell_pv; (repeat (first | exact List.Mem.head _ | apply List.Mem.tail)); rfl) | (apply cell_fv; (repeat (first | exact List.Mem.head _ | apply List.Mem.tail)); rfl) | (apply rowF_cellU; (repeat (first | exact List.Mem.head _ | apply List.Mem.tail)); assumption) | (apply itm_cell; (repeat (first | exact List.Mem.head _ | apply List.Mem.tail)); assumption; rfl))) ?_
        refine KO.q rfl (q_assign rfl) ?_
        refine KO.q rfl (q_assign rfl) ?_
        refine KO.done ?_
        repeat (first | refine K.seq ?_ | refine K.skip ?_ | refine K.block ?_ | refine K.inBlock ?_ | refine K.label ?_)
        repeat (first | refine K.seq ?_ | refine K.skip ?_ | refine K.block ?_ | refine K.inBlock ?_ | refine K.label ?_)
        refine K.region ?_
        refine KO.q rfl (q_move rfl) ?_
        refine KO.q rfl (q_move rfl) ?_
        refine KO.q rfl (q_conv Try.underlying87 (by rw [Try.underlying5]; rfl) rfl (by first | rfl | exact wrap_i64 (by omega) (by omega) | exact wrap_u64 (by omega) (by omega) | exact wrap_u8 (by omega) (by omega))) ?_
        refine KO.q rfl (q_move rfl) ?_
        refine KO.q rfl (q_mul rfl rfl (by first | omega | (simp; omega)) (by first | omega | (simp; omega))) ?_
        refine KO.q rfl (q_shl rfl rfl (by first | omega | (simp; omega))) ?_
        refine KO.q rfl (q_or rfl rfl) ?_
        refine KO.q rfl (q_assign rfl) ?_
        refine KO.done ?_
        repeat (first | refine K.seq ?_ | refine K.skip ?_ | refine K.block ?_ | refine K.inBlock ?_ | refine K.label ?_)
        repeat (first | refine K.seq ?_ | refine K.skip ?_ | refine K.block ?_ | refine K.inBlock ?_ | refine K.label ?_)
        refine K.region ?_
        refine KO.q rfl (q_add rfl rfl (by first | omega | (simp; omega)) (by first | omega | (simp; omega))) ?_
        refine KO.q rfl (q_move rfl) ?_
        refine KO.done ?_
        repeat (first | refine K.seq ?_ | refine K.skip ?_ | refine K.block ?_ | refine K.inBlock ?_ | refine K.label ?_)
        have hlt : ofLe (T.take i) < 256 ^ i := by
          have := ofLe_lt (T.take i)
          rwa [List.length_take, Nat.min_eq_left (by omega)] at this
        rw [or_shl (ofLe (T.take i)) c i (by omega) (ofLe_nonneg _) hlt]
        have hs' : ofLe (T.take i) + (c.toNat : Int) * 256 ^ i = ofLe (T.take (i + 1)) := by
          rw [List.take_add_one, hx, Option.toList_some, ofLe_snoc, List.length_take, Nat.min_eq_left (by omega)]
        rw [hs']
        exact K.subE (by repeat (first | exact Env.sub_nil _ | refine Env.sub_cons rfl ?_)) (ih ⟨i + 1, by omega⟩ (by show n.toNat - (i + 1) < n.toNat - i; omega))
      · replace h : ¬ (i : Int) < (n.toNat : Int) := h
        have hi' : i = n.toNat := by omega
        subst hi'
        refine K.exit rfl ?_
        repeat (first | refine K.seq ?_ | refine K.skip ?_ | refine K.block ?_ | refine K.inBlock ?_ | refine K.label ?_)
        refine K.region ?_
        refine KO.q rfl (q_move rfl) ?_
        refine KO.q rfl (q_assign rfl) ?_
        refine KO.done ?_
        repeat (first | refine K.seq ?_ | refine K.skip ?_ | refine K.block ?_ | refine K.inBlock ?_ | refine K.label ?_)
        refine K.ret (fn := Try.f67) Try.func67 (fun a w hk hs => res1 Try.results67 hk rfl) (fun w hs => ?_)
        have e : s.num n.toNat = (ofLe T, ⟨s.bs.drop n.toNat, false⟩) := by
          simp [Rd.num, Rd.take_ok hf (show n.toNat ≤ s.bs.length by omega), hT]
        have e2 : T.take n.toNat = T := List.take_of_length_le (by omega)
        exact ⟨_, RdL p (cutAddr q cap n.toNat 1) (cap - n.toNat) ⟨s.bs.drop n.toNat, false⟩, rfl, ⟨_, _, by rw [e, e2], by rw [e], by rw [e]; simp; omega⟩, hs.fit (by repeat (first | exact Give.nil | (apply Give.perI; (repeat (first | exact List.Mem.head _ | apply List.Mem.tail))) | (apply Give.own; (repeat (first | exact Pick.here | apply Pick.there))))) (by repeat (first | exact Drop.refl | apply Drop.skip))⟩
end Go.Proofs.Ytlellgnklohclaa.L
