/- Walks: the library's DeleteFunc on a lock's lists. -/
import Derived.Test.YtfpkeanimkgpaaaG5
namespace Go.Proofs.Ytfpkeanimkgpaaa.L
open Go Go.Proofs
attribute [local irreducible] pv fv pt fz RowF RowO rowP old pure_ elA
set_option maxRecDepth 100000
set_option linter.unusedSimpArgs false
set_option linter.unusedVariables false

theorem filt_succ {α : Type} {p : α → Bool} {l : List α} {j : Nat} {x : α} (h : l[j]? = some x) : (l.take (j + 1)).filter (fun x => !p x) = (l.take j).filter (fun x => !p x) ++ (if p x = true then [] else [x]) := by
  rw [List.take_add_one, h, List.filter_append]
  cases hp : p x <;> simp [hp]
set_option maxHeartbeats 800000 in
theorem delf_one (R : HP) (q : Option Addr) (cap : Nat) (l : List One) (f : FuncId) (cs : List Value) (p : One → Bool) (hc : l.length ≤ cap) (hb : l.length ≤ 1000000000000) (hf : ∀ x ∈ l, Fn Try.prog f (Value.agg x.cells.toArray :: cs).toArray [R] (fun v post => v = .bool (p x) ∧ post = [R])) :
    Fn Try.prog 65 [.slice q l.length cap, .func (.func f) #[] cs.toArray].toArray [RowO Kd.one1 94 q cap l, R] (fun r post => r = .slice q (l.filter (fun x => !p x)).length cap ∧ post = [RowO Kd.one1 94 q cap (l.filter (fun x => !p x)), R]) := by
  refine Fn.enter (N := 42) Try.func65 rfl Try.ntmps65 (by kernel_rfl) rfl (fun ρ L => ?_)
  refine K.seq ?_
  refine K.region ?_
  refine KO.q rfl (q_assign rfl) ?_
  refine KO.done ?_
  refine K.seq ?_
  refine K.region ?_
  refine KO.q rfl (q_move rfl) ?_
  refine KO.q rfl (q_move rfl) ?_
  refine KO.loud rfl (OpL.callD rfl (h := ixf_one (RowO Kd.one1 94 q cap l) R q cap l isO f cs p (by omega) hf)) ?_
  rintro _ _ ⟨_, ⟨rfl, rfl⟩, rfl⟩
  refine KO.q rfl (q_assign rfl) ?_
  refine KO.done ?_
  refine K.seq <| K.seq ?_
  refine K.region ?_
  refine KO.q rfl (q_move rfl) ?_
  refine KO.q rfl (q_eq rfl rfl) ?_
  refine KO.done ?_
  refine K.dcond (s := 12) rfl (fun g12 => ?_) (fun g12 => ?_)
  · have hnone : l.filter (fun x => !p x) = l := by
      rw [List.filter_eq_self]
      intro x hx
      have hany : l.any p = false := by rw [← idxP_any, g12]; rfl
      rw [List.any_eq_false] at hany
      simpa using hany x hx
    rw [hnone]
    refine K.seq ?_
    refine K.region ?_
    refine KO.q rfl (q_move rfl) ?_
    refine KO.q rfl (q_assign rfl) ?_
    refine KO.done ?_
    refine K.ret (fn := Try.f65) Try.func65 (fun a w hk hs => res1 Try.results65 hk rfl) (fun w hs => ?_)
    first
      | exact ⟨_, [RowO Kd.one1 94 q cap l, R], rfl, ⟨rfl, rfl⟩, hs.fitD⟩
      | exact ⟨_, [RowO Kd.one1 94 q cap (l.filter (fun x => !p x)), R], rfl, ⟨by rw [hlen]; rfl, rfl⟩, hs.fitD⟩
  · obtain ⟨i0, x0, hx0, hi0, hany⟩ : ∃ (i : Nat) (x : One), l[i]? = some x ∧ idxP p l = (i : Int) ∧ p x = true ∧ (l.take i).filter (fun x => !p x) = l.take i := by
      unfold idxP at g12 ⊢
      rcases hfi : l.findIdx? p with _ | i
      · rw [hfi] at g12; exact absurd rfl g12
      · rw [List.findIdx?_eq_some_iff_getElem] at hfi
        obtain ⟨hi, h1, h2⟩ := hfi
        refine ⟨i, l[i], List.getElem?_eq_getElem hi, rfl, h1, ?_⟩
        rw [List.filter_eq_self]
        intro x hx
        obtain ⟨j, hj, rfl⟩ := List.mem_take_iff_getElem.1 hx
        simpa using h2 j (by omega)
    have hil := (List.getElem?_eq_some_iff.1 hx0).1
    rw [hi0]
    refine K.skip <| K.seq <| K.seq ?_
    refine K.region ?_
    refine KO.q rfl (q_move rfl) ?_
    refine KO.q rfl (q_add rfl rfl (by first | omega | (simp; omega)) (by first | omega | (simp; omega))) ?_
    refine KO.q rfl (q_assign rfl) ?_
    refine KO.done ?_
    refine K.block ?_
    refine K.rounds2 (ι := { x : Nat × Nat × List One // x.1 < x.2.1 ∧ x.2.1 ≤ l.length ∧ x.2.2.length = l.length ∧ x.2.2.take x.1 = (l.take x.2.1).filter (fun x => !p x) ∧ x.2.2.drop x.2.1 = l.drop x.2.1 }) (fun x => [(6, .int .i64 x.1.2.1), (5, .int .i64 x.1.1), (0, .slice q l.length cap), (1, .func (.func f) #[] cs.toArray)]) (fun x => [RowO Kd.one1 94 q cap x.1.2.2, R] ++ L) (fun x => l.length - x.1.2.1) ⟨(i0, i0 + 1, l), Nat.lt_succ_self _, by show i0 + 1 ≤ l.length; omega, rfl, by show l.take i0 = (l.take (i0 + 1)).filter _; rw [filt_succ hx0, if_pos hany.1, List.append_nil, hany.2], rfl⟩ (by repeat (first | exact Env.sub_nil _ | refine Env.sub_cons rfl ?_)) (fun w h => h.fitD) (fun x ih => ?_)
    obtain ⟨⟨i, j, M⟩, hij, hj, hM, ht, hd⟩ := x
    dsimp only at hij hj hM ht hd ⊢
    refine K.seq <| K.seq ?_
    refine K.region ?_
    refine KO.q rfl (q_move rfl) ?_
    refine KO.q rfl (q_move rfl) ?_
    refine KO.q rfl (q_len Try.underlying46 rfl) ?_
    refine KO.q rfl (q_lt rfl rfl) ?_
    refine KO.done ?_
    refine K.dcond (s := 19) rfl (fun g19 => ?_) (fun g19 => ?_)
    · obtain ⟨e, he⟩ : ∃ e, l[j]? = some e := ⟨_, List.getElem?_eq_getElem (by omega)⟩
      have heM : M[j]? = some e := by
        have := congrArg (fun z => z[0]?) hd
        simpa [List.getElem?_drop, he] using this
      have hfs := filt_succ (p := p) he
      refine K.skip <| K.seq <| K.block <| K.seq ?_
      refine K.region ?_
      refine KO.q rfl (q_move rfl) ?_
      refine KO.q rfl (q_move rfl) ?_
      refine KO.q rfl (q_ix (xs := M) j se_46 rfl rfl rfl isO (by repeat (first | exact List.Mem.head _ | apply List.Mem.tail)) hM.symm (by omega)) ?_
      refine KO.q rfl (q_ldEN (xs := M) ck_94 rfl isO (by repeat (first | exact List.Mem.head _ | apply List.Mem.tail)) heM) ?_
      refine KO.loud rfl (l_alloc zo_94) ?_
      rintro _ _ ⟨b7, rfl, rfl⟩
      refine KO.loudN rfl (l_storeAll ck_94 rfl rfl ⟨rfl, rfl⟩ (one_one _) (by repeat (first | exact Pick.here | apply Pick.there))) ?_
      rintro _ _ ⟨rfl, rfl⟩
      refine KO.done ?_
      refine K.seq ?_
      refine K.region ?_
      refine KO.q rfl (q_move rfl) ?_
      refine KO.q rfl (q_loadN ck_94 rfl rfl (by first | (apply cells_pv; (repeat (first | exact List.Mem.head _ | apply List.Mem.tail))) | (apply cells_fv; (repeat (first | exact List.Mem.head _ | apply List.Mem.tail))))) ?_
      refine KO.loud rfl (OpL.callCG (first := []) (captured := cs) rfl rfl (by repeat (first | exact Give.nil | (apply Give.perI; (repeat (first | exact List.Mem.head _ | apply List.Mem.tail))) | (apply Give.own; (repeat (first | exact Pick.here | apply Pick.there))))) (hf e (List.mem_of_getElem? he))) ?_
      rintro _ _ ⟨_, ⟨rfl, rfl⟩, rfl⟩
      refine KO.q rfl (q_not rfl) ?_
      refine KO.done ?_
      refine K.bcond (s := 29) rfl (fun g29 => ?_) (fun g29 => ?_)
      · refine K.seq ?_
        refine K.region ?_
        refine KO.q rfl (q_move rfl) ?_
        refine KO.q rfl (q_move rfl) ?_
        refine KO.q rfl (q_loadN ck_94 rfl rfl (by first | (apply cells_pv; (repeat (first | exact List.Mem.head _ | apply List.Mem.tail))) | (apply cells_fv; (repeat (first | exact List.Mem.head _ | apply List.Mem.tail))))) ?_
        refine KO.q rfl (q_ix (xs := M) i se_46 rfl rfl rfl isO (by repeat (first | exact List.Mem.head _ | apply List.Mem.tail)) hM.symm (by omega)) ?_
        refine KO.loudN rfl (l_storeEN e ck_94 rfl rfl (by repeat (first | exact Pick.here | apply Pick.there)) (by omega)) ?_
        rintro _ _ ⟨rfl, rfl⟩
        refine KO.done ?_
        refine K.region ?_
        refine KO.q rfl (q_move rfl) ?_
        refine KO.q rfl (q_add rfl rfl (by first | omega | (simp; omega)) (by first | omega | (simp; omega))) ?_
        refine KO.q rfl (q_assign rfl) ?_
        refine KO.done ?_
        refine K.inBlock ?_
        refine K.region ?_
        refine KO.q rfl (q_move rfl) ?_
        refine KO.q rfl (q_add rfl rfl (by first | omega | (simp; omega)) (by first | omega | (simp; omega))) ?_
        refine KO.q rfl (q_assign rfl) ?_
        refine KO.done ?_
        first
          | exact K.weak (by repeat (first | exact Env.sub_nil _ | refine Env.sub_cons rfl ?_)) (fun w h => h.fitD) (ih ⟨(i + 1, j + 1, M.set i e), by show i + 1 < j + 1; omega, by show j + 1 ≤ l.length; omega, by rw [List.length_set]; exact hM, by
              show (M.set i e).take (i + 1) = (l.take (j + 1)).filter _
              rw [hfs, if_neg (by simpa using g29), ← ht, List.take_add_one, List.take_set_of_le (Nat.le_refl i), List.getElem?_set_self (by omega)]
              rfl, by show (M.set i e).drop (j + 1) = l.drop (j + 1); rw [List.drop_set_of_lt (by omega), ← List.drop_drop, hd, List.drop_drop]⟩ (by show l.length - (j + 1) < l.length - j; omega))
          | exact K.weak (by repeat (first | exact Env.sub_nil _ | refine Env.sub_cons rfl ?_)) (fun w h => h.fitD) (ih ⟨(i, j + 1, M), by show i < j + 1; omega, by show j + 1 ≤ l.length; omega, hM, by show M.take i = (l.take (j + 1)).filter _; rw [hfs, if_pos (by simpa using g29), List.append_nil]; exact ht, by show M.drop (j + 1) = l.drop (j + 1); rw [← List.drop_drop, hd, List.drop_drop]⟩ (by show l.length - (j + 1) < l.length - j; omega))
      · refine K.skip <| K.inBlock ?_
        refine K.region ?_
        refine KO.q rfl (q_move rfl) ?_
        refine KO.q rfl (q_add rfl rfl (by first | omega | (simp; omega)) (by first | omega | (simp; omega))) ?_
        refine KO.q rfl (q_assign rfl) ?_
        refine KO.done ?_
        first
          | exact K.weak (by repeat (first | exact Env.sub_nil _ | refine Env.sub_cons rfl ?_)) (fun w h => h.fitD) (ih ⟨(i + 1, j + 1, M.set i e), by show i + 1 < j + 1; omega, by show j + 1 ≤ l.length; omega, by rw [List.length_set]; exact hM, by
              show (M.set i e).take (i + 1) = (l.take (j + 1)).filter _
              rw [hfs, if_neg (by simpa using g29), ← ht, List.take_add_one, List.take_set_of_le (Nat.le_refl i), List.getElem?_set_self (by omega)]
              rfl, by show (M.set i e).drop (j + 1) = l.drop (j + 1); rw [List.drop_set_of_lt (by omega), ← List.drop_drop, hd, List.drop_drop]⟩ (by show l.length - (j + 1) < l.length - j; omega))
          | exact K.weak (by repeat (first | exact Env.sub_nil _ | refine Env.sub_cons rfl ?_)) (fun w h => h.fitD) (ih ⟨(i, j + 1, M), by show i < j + 1; omega, by show j + 1 ≤ l.length; omega, hM, by show M.take i = (l.take (j + 1)).filter _; rw [hfs, if_pos (by simpa using g29), List.append_nil]; exact ht, by show M.drop (j + 1) = l.drop (j + 1); rw [← List.drop_drop, hd, List.drop_drop]⟩ (by show l.length - (j + 1) < l.length - j; omega))
    · obtain rfl : j = l.length := by omega
      rw [List.take_length] at ht
      have hlen : (l.filter (fun x => !p x)).length = i := by rw [← ht, List.length_take]; omega
      refine K.st (fun w h => rowO_take i (h.pick (by repeat (first | exact Pick.here | apply Pick.there)))) ?_
      rw [ht]
      refine K.exit rfl ?_
      refine K.seq ?_
      refine K.region ?_
      refine KO.q rfl (q_move rfl) ?_
      refine KO.q rfl (q_move rfl) ?_
      refine KO.q rfl (q_cutL se_46 rfl rfl (by first | omega | (simp; omega)) (by first | omega | (simp; omega)) (by first | omega | (simp; omega))) ?_
      refine KO.loudN rfl (l_clearS (i := i) Kd.one1 se_46 ze_94 rfl (by simp [Value.oneCell']) (by decide) rfl (by repeat (first | exact Pick.here | apply Pick.there)) (by omega) (by omega) (by simp only [Int.toNat_natCast]; omega)) ?_
      rintro _ _ ⟨rfl, rfl⟩
      refine KO.done ?_
      refine K.seq ?_
      refine K.region ?_
      refine KO.q rfl (q_move rfl) ?_
      refine KO.q rfl (q_move rfl) ?_
      refine KO.q rfl (q_cutH se_46 rfl rfl (by first | omega | (simp; omega)) (by first | omega | (simp; omega))) ?_
      refine KO.q rfl (q_assign rfl) ?_
      refine KO.done ?_
      refine K.ret (fn := Try.f65) Try.func65 (fun a w hk hs => res1 Try.results65 hk rfl) (fun w hs => ?_)
      first
        | exact ⟨_, [RowO Kd.one1 94 q cap l, R], rfl, ⟨rfl, rfl⟩, hs.fitD⟩
        | exact ⟨_, [RowO Kd.one1 94 q cap (l.filter (fun x => !p x)), R], rfl, ⟨by rw [hlen]; rfl, rfl⟩, hs.fitD⟩
end Go.Proofs.Ytfpkeanimkgpaaa.L
