/- Walks: the library's Compact, SortFunc at pairs of numbers; the comparison of edges. -/
import Derived.Test.YtcpkcjabmookmaaGreatJ1
import Derived.Test.YtcpkcjabmookmaaGreatLK
namespace Go.Proofs.YtcpkcjabmookmaaGreat.L
open Go Go.Proofs
attribute [local irreducible] pv fv pt fz RowF RowO rowP old pure_ elA
set_option maxRecDepth 100000
set_option linter.unusedSimpArgs false
set_option linter.unusedVariables false

theorem ar_p2 : arElem Tryz.prog 84 = some (2, 3, 1) := by kernel_rfl
theorem eg_p2 : Tryz.prog.eqGuardType Tryz.prog.depth 84 = false := by kernel_rfl
set_option maxHeartbeats 1600000 in
theorem cpt_p2 (q : Option Addr) (cap : Nat) (l : List P2) (hc : l.length ≤ cap) (hl : l.length ≤ 1000000000000) : Fn Tryz.prog 46 [.slice q l.length cap].toArray [RowO Kd.p2 84 q cap l] (fun r post => r = .slice q (compactL l).length cap ∧ post = [RowO Kd.p2 84 q cap (compactL l)]) := by
  refine Fn.enter (N := 61) Tryz.func46 rfl Tryz.ntmps46 (by kernel_rfl) rfl (fun ρ L => ?_)
  refine K.seq ?_
  refine K.region ?_
  refine KO.q rfl (q_assign rfl) ?_
  refine KO.done ?_
  refine K.seq <| K.seq ?_
  refine K.region ?_
  refine KO.q rfl (q_move rfl) ?_
  refine KO.q rfl (q_len Tryz.underlying46 rfl) ?_
  refine KO.q rfl (q_lt rfl rfl) ?_
  refine KO.done ?_
  refine K.dcond (s := 8) rfl (fun g8 => ?_) (fun g8 => ?_)
  · have hr : compactL l = l := by
      have := compactL_one l
      rwa [List.take_of_length_le (by omega)] at this
    refine K.seq ?_
    refine K.region ?_
    refine KO.q rfl (q_move rfl) ?_
    refine KO.q rfl (q_assign rfl) ?_
    refine KO.done ?_
    refine K.ret (fn := Tryz.f46) Tryz.func46 (fun a w hk hs => res1 Tryz.results46 hk rfl) (fun w hs => ?_)
    rw [hr]
    exact ⟨_, [RowO Kd.p2 84 q cap l], rfl, ⟨rfl, rfl⟩, hs.fitD⟩
  · refine K.skip <| K.seq <| K.seq ?_
    refine K.region ?_
    refine KO.q rfl (q_assign rfl) ?_
    refine KO.done ?_
    refine K.block ?_
    refine K.rloop (ι := { i : Nat // 1 ≤ i ∧ i ≤ l.length ∧ compactL (l.take i) = l.take i }) (fun x => [(3, .int .i64 x.1), (0, .slice q l.length cap)]) (fun x => l.length - x.1) ⟨1, Nat.le_refl _, by omega, compactL_one l⟩ (by repeat (first | exact Env.sub_nil _ | refine Env.sub_cons rfl ?_)) (fun x ih => ?_)
    obtain ⟨i, hi1, hi, hz⟩ := x
    dsimp only at hi1 hi hz ⊢
    refine K.seq <| K.seq ?_
    refine K.region ?_
    refine KO.q rfl (q_move rfl) ?_
    refine KO.q rfl (q_move rfl) ?_
    refine KO.q rfl (q_len Tryz.underlying46 rfl) ?_
    refine KO.q rfl (q_lt rfl rfl) ?_
    refine KO.done ?_
    refine K.dcond (s := 13) rfl (fun g13 => ?_) (fun g13 => ?_)
    · obtain ⟨i, rfl⟩ : ∃ j, i = j + 1 := ⟨i - 1, by omega⟩
      obtain ⟨x, hx⟩ : ∃ x, l[i]? = some x := ⟨_, List.getElem?_eq_getElem (by omega)⟩
      obtain ⟨y, hy⟩ : ∃ y, l[i + 1]? = some y := ⟨_, List.getElem?_eq_getElem (by omega)⟩
      have hstep := compactL_step hx hy
      refine K.skip <| K.seq <| K.block <| K.seq ?_
      refine K.drawS [RowO Kd.p2 84 q cap l] (fun _ h => h.subD) mixed ?_
      refine D.q 0 rfl (by kernel_rfl) (by kernel_rfl) (q_move rfl) (fun _ h => h.subD) ?_
      refine D.q 1 rfl (by kernel_rfl) (by kernel_rfl) (q_move rfl) (fun _ h => h.subD) ?_
      refine D.q 2 rfl (by kernel_rfl) (by kernel_rfl) (q_ix (i + 1) se_46 rfl rfl rfl isO (by repeat (first | exact List.Mem.head _ | apply List.Mem.tail)) rfl (by omega)) (fun _ h => h.subD) ?_
      refine D.q 3 rfl (by kernel_rfl) (by kernel_rfl) (q_ldEN ck_84 rfl isO (by repeat (first | exact List.Mem.head _ | apply List.Mem.tail)) hy) (fun _ h => h.subD) ?_
      refine D.q 4 rfl (by kernel_rfl) (by kernel_rfl) (q_move rfl) (fun _ h => h.subD) ?_
      refine D.q 5 rfl (by kernel_rfl) (by kernel_rfl) (q_move rfl) (fun _ h => h.subD) ?_
      refine D.q 6 rfl (by kernel_rfl) (by kernel_rfl) (q_sub rfl rfl (by first | omega | (simp; omega)) (by first | omega | (simp; omega))) (fun _ h => h.subD) ?_
      refine D.q 7 rfl (by kernel_rfl) (by kernel_rfl) (q_ix i se_46 rfl rfl (by omega) isO (by repeat (first | exact List.Mem.head _ | apply List.Mem.tail)) rfl (by omega)) (fun _ h => h.subD) ?_
      refine D.q 8 rfl (by kernel_rfl) (by kernel_rfl) (q_ldEN ck_84 rfl isO (by repeat (first | exact List.Mem.head _ | apply List.Mem.tail)) hx) (fun _ h => h.subD) ?_
      refine D.q 9 rfl (by kernel_rfl) (by kernel_rfl) (q_p2E Tryz.underlying84 Tryz.underlying3 ck_3 eg_p2 rfl rfl) (fun _ h => h.subD) ?_
      refine D.done (by kernel_rfl) ?_
      refine K.dcond (s := 25) rfl (fun g25 => ?_) (fun g25 => ?_)
      · refine K.seq ?_
        refine K.region ?_
        refine KO.q rfl (q_move rfl) ?_
        refine KO.q rfl (q_move rfl) ?_
        refine KO.q rfl (q_cutL se_46 rfl rfl (by first | omega | (simp; omega)) (by first | omega | (simp; omega)) (by first | omega | (simp; omega))) ?_
        refine KO.q rfl (q_assign rfl) ?_
        refine KO.done ?_
        refine K.seq <| K.seq ?_
        refine K.region ?_
        refine KO.q rfl (q_assign rfl) ?_
        refine KO.done ?_
        refine K.block ?_
        refine K.rounds2 (ι := { s : Nat × Nat × List P2 // 1 ≤ s.2.1 ∧ i + 1 + s.2.1 ≤ l.length ∧ s.2.2.length = l.length ∧ s.2.2.take s.1 = compactL (l.take (i + 1 + s.2.1)) ∧ s.2.2.drop (i + s.2.1) = l.drop (i + s.2.1) ∧ s.1 ≤ i + s.2.1 }) (fun s => [(3, .int .i64 s.1.1), (5, .int .i64 s.1.2.1), (0, .slice q l.length cap), (4, .slice (cutAddr q cap (i + 1) 2) (l.length - (i + 1)) (cap - (i + 1)))]) (fun s => [RowO Kd.p2 84 q cap s.1.2.2] ++ L) (fun s => l.length - s.1.2.1) ⟨(i + 1, 1, l), Nat.le_refl _, by show i + 1 + 1 ≤ _; omega, rfl, by show l.take (i + 1) = compactL (l.take (i + 1 + 1)); rw [hstep, if_pos g25.symm, hz], rfl, Nat.le_refl _⟩ (by repeat (first | exact Env.sub_nil _ | refine Env.sub_cons rfl ?_)) (fun w h => h.fitD) (fun s ih2 => ?_)
        obtain ⟨⟨k, j, M⟩, hj1, hj, hM, ht, hd, hk⟩ := s
        dsimp only at hj1 hj hM ht hd hk ⊢
        clear ih
        refine K.seq <| K.seq ?_
        refine K.region ?_
        refine KO.q rfl (q_move rfl) ?_
        refine KO.q rfl (q_move rfl) ?_
        refine KO.q rfl (q_len Tryz.underlying46 rfl) ?_
        refine KO.q rfl (q_lt rfl rfl) ?_
        refine KO.done ?_
        refine K.dcond (s := 32) rfl (fun g32 => ?_) (fun g32 => ?_)
        · obtain ⟨u, hu⟩ : ∃ u, l[i + j]? = some u := ⟨_, List.getElem?_eq_getElem (by omega)⟩
          obtain ⟨v, hv⟩ : ∃ v, l[i + j + 1]? = some v := ⟨_, List.getElem?_eq_getElem (by omega)⟩
          have hst2 := compactL_step hu hv
          have huM : M[i + j]? = some u := by
            have := congrArg (fun z => z[0]?) hd
            simpa [List.getElem?_drop, hu] using this
          have hvM : M[i + j + 1]? = some v := by
            have := congrArg (fun z => z[1]?) hd
            simpa [List.getElem?_drop, hv] using this
          have hvD : (M.drop (i + 1))[j]? = some v := by rw [List.getElem?_drop, show i + 1 + j = i + j + 1 by omega]; exact hvM
          have huD : (M.drop (i + 1))[j - 1]? = some u := by rw [List.getElem?_drop, show i + 1 + (j - 1) = i + j by omega]; exact huM
          have hDl : (M.drop (i + 1)).length = l.length - (i + 1) := by rw [List.length_drop, hM]
          refine K.skip <| K.seq <| K.block <| K.seq ?_
          refine K.drawS [RowO Kd.p2 84 q cap M] (fun _ h => h.subD) mixed ?_
          refine D.q 0 rfl (by kernel_rfl) (by kernel_rfl) (q_move rfl) (fun _ h => h.subD) ?_
          refine D.q 1 rfl (by kernel_rfl) (by kernel_rfl) (q_move rfl) (fun _ h => h.subD) ?_
          refine D.q 2 rfl (by kernel_rfl) (by kernel_rfl) (q_ix (xs := M.drop (i + 1)) j se_46 rfl rfl rfl (isO_cut (i + 1)) (by repeat (first | exact List.Mem.head _ | apply List.Mem.tail)) hDl.symm (by omega)) (fun _ h => h.subD) ?_
          refine D.q 3 rfl (by kernel_rfl) (by kernel_rfl) (q_ldEN (xs := M.drop (i + 1)) ck_84 rfl (isO_cut (i + 1)) (by repeat (first | exact List.Mem.head _ | apply List.Mem.tail)) hvD) (fun _ h => h.subD) ?_
          refine D.q 4 rfl (by kernel_rfl) (by kernel_rfl) (q_move rfl) (fun _ h => h.subD) ?_
          refine D.q 5 rfl (by kernel_rfl) (by kernel_rfl) (q_move rfl) (fun _ h => h.subD) ?_
          refine D.q 6 rfl (by kernel_rfl) (by kernel_rfl) (q_sub rfl rfl (by first | omega | (simp; omega)) (by first | omega | (simp; omega))) (fun _ h => h.subD) ?_
          refine D.q 7 rfl (by kernel_rfl) (by kernel_rfl) (q_ix (xs := M.drop (i + 1)) (j - 1) se_46 rfl rfl (by omega) (isO_cut (i + 1)) (by repeat (first | exact List.Mem.head _ | apply List.Mem.tail)) hDl.symm (by omega)) (fun _ h => h.subD) ?_
          refine D.q 8 rfl (by kernel_rfl) (by kernel_rfl) (q_ldEN (xs := M.drop (i + 1)) ck_84 rfl (isO_cut (i + 1)) (by repeat (first | exact List.Mem.head _ | apply List.Mem.tail)) huD) (fun _ h => h.subD) ?_
          refine D.q 9 rfl (by kernel_rfl) (by kernel_rfl) (q_p2N Tryz.underlying84 Tryz.underlying3 ck_3 eg_p2 rfl rfl) (fun _ h => h.subD) ?_
          refine D.done (by kernel_rfl) ?_
          refine K.dcond (s := 44) rfl (fun g44 => ?_) (fun g44 => ?_)
          · obtain ⟨el, hel⟩ : ∃ el, M[k]? = some el := ⟨_, List.getElem?_eq_getElem (by omega)⟩
            refine K.seq ?_
            refine K.region ?_
            refine KO.q rfl (q_move rfl) ?_
            refine KO.q rfl (q_move rfl) ?_
            refine KO.q rfl (q_move rfl) ?_
            refine KO.q rfl (q_move rfl) ?_
            refine KO.q rfl (q_ix (xs := M.drop (i + 1)) j se_46 rfl rfl rfl (isO_cut (i + 1)) (by repeat (first | exact List.Mem.head _ | apply List.Mem.tail)) hDl.symm (by omega)) ?_
            refine KO.q rfl (q_ldEN (xs := M.drop (i + 1)) ck_84 rfl (isO_cut (i + 1)) (by repeat (first | exact List.Mem.head _ | apply List.Mem.tail)) hvD) ?_
            refine KO.q rfl (q_ix (xs := M) k se_46 rfl rfl rfl isO (by repeat (first | exact List.Mem.head _ | apply List.Mem.tail)) hM.symm (by omega)) ?_
            refine KO.loudN rfl (l_storeEN v ck_84 rfl rfl (by repeat (first | exact Pick.here | apply Pick.there)) (by omega)) ?_
            rintro _ _ ⟨rfl, rfl⟩
            refine KO.done ?_
            refine K.region ?_
            refine KO.q rfl (q_move rfl) ?_
            refine KO.q rfl (q_add rfl rfl (by first | omega | (simp; omega)) (by first | omega | (simp; omega))) ?_
            refine KO.q rfl (q_assign rfl) ?_
            refine KO.done ?_
            refine K.inBlock ?_
            refine K.region ?_
            refine KO.q rfl (q_move rfl) ?_
            refine KO.q rfl (q_add rfl rfl (by first | omega | (simp; omega)) (by first | omega | (simp; omega))) ?_
            refine KO.q rfl (q_assign rfl) ?_
            refine KO.done ?_
            exact K.weak (by repeat (first | exact Env.sub_nil _ | refine Env.sub_cons rfl ?_)) (fun w h => h.fitD) (ih2 ⟨(k + 1, j + 1, M.set k v), Nat.succ_pos _, by show i + 1 + (j + 1) ≤ _; omega, by rw [List.length_set]; exact hM, by
              show (M.set k v).take (k + 1) = compactL (l.take (i + 1 + (j + 1)))
              rw [show i + 1 + (j + 1) = i + j + 2 by omega, hst2, if_neg (fun h => g44 h.symm), show i + j + 1 = i + 1 + j by omega, ← ht, List.take_add_one, List.take_set_of_le (Nat.le_refl k), List.getElem?_set_self (by omega)]
              rfl, by show (M.set k v).drop (i + (j + 1)) = l.drop (i + (j + 1)); rw [List.drop_set_of_lt (by omega), show i + (j + 1) = i + j + 1 by omega, ← List.drop_drop, hd, List.drop_drop], by show k + 1 ≤ i + (j + 1); omega⟩ (by show l.length - (j + 1) < l.length - j; omega))
          · refine K.skip <| K.inBlock ?_
            refine K.region ?_
            refine KO.q rfl (q_move rfl) ?_
            refine KO.q rfl (q_add rfl rfl (by first | omega | (simp; omega)) (by first | omega | (simp; omega))) ?_
            refine KO.q rfl (q_assign rfl) ?_
            refine KO.done ?_
            exact K.weak (by repeat (first | exact Env.sub_nil _ | refine Env.sub_cons rfl ?_)) (fun w h => h.fitD) (ih2 ⟨(k, j + 1, M), Nat.succ_pos _, by show i + 1 + (j + 1) ≤ _; omega, hM, by
              show M.take k = compactL (l.take (i + 1 + (j + 1)))
              rw [show i + 1 + (j + 1) = i + j + 2 by omega, hst2, if_pos (Decidable.not_not.1 g44).symm, show i + j + 1 = i + 1 + j by omega, ← ht], by show M.drop (i + (j + 1)) = l.drop (i + (j + 1)); rw [show i + (j + 1) = i + j + 1 by omega, ← List.drop_drop, hd, List.drop_drop], by show k ≤ i + (j + 1); omega⟩ (by show l.length - (j + 1) < l.length - j; omega))
        · have hje : i + 1 + j = l.length := by omega
          rw [hje, List.take_length] at ht
          have hlen : (compactL l).length = k := by rw [← ht, List.length_take]; omega
          refine K.st (fun w h => rowO_take k (h.pick (by repeat (first | exact Pick.here | apply Pick.there)))) ?_
          rw [ht]
          refine K.exit rfl ?_
          refine K.seq ?_
          refine K.region ?_
          refine KO.q rfl (q_move rfl) ?_
          refine KO.q rfl (q_move rfl) ?_
          refine KO.q rfl (q_cutL se_46 rfl rfl (by first | omega | (simp; omega)) (by first | omega | (simp; omega)) (by first | omega | (simp; omega))) ?_
          refine KO.loudN rfl (l_clearS (i := k) Kd.p2 se_46 ze_84 rfl (by simp [Value.oneCell']) (by decide) rfl (by repeat (first | exact Pick.here | apply Pick.there)) (by omega) (by omega) (by simp only [Int.toNat_natCast]; omega)) ?_
          rintro _ _ ⟨rfl, rfl⟩
          refine KO.done ?_
          refine K.seq ?_
          refine K.region ?_
          refine KO.q rfl (q_move rfl) ?_
          refine KO.q rfl (q_move rfl) ?_
          refine KO.q rfl (q_cutH se_46 rfl rfl (by first | omega | (simp; omega)) (by first | omega | (simp; omega))) ?_
          refine KO.q rfl (q_assign rfl) ?_
          refine KO.done ?_
          refine K.ret (fn := Tryz.f46) Tryz.func46 (fun a w hk hs => res1 Tryz.results46 hk rfl) (fun w hs => ?_)
          exact ⟨_, [RowO Kd.p2 84 q cap (compactL l)], rfl, ⟨by rw [hlen]; rfl, rfl⟩, hs.fitD⟩
      · refine K.skip <| K.inBlock ?_
        refine K.region ?_
        refine KO.q rfl (q_move rfl) ?_
        refine KO.q rfl (q_add rfl rfl (by first | omega | (simp; omega)) (by first | omega | (simp; omega))) ?_
        refine KO.q rfl (q_assign rfl) ?_
        refine KO.done ?_
        exact K.subE (by repeat (first | exact Env.sub_nil _ | refine Env.sub_cons rfl ?_)) (ih ⟨i + 1 + 1, by omega, by omega, by rw [hstep, if_neg (fun h => g25 h.symm), hz, ← List.take_append_getElem (i := i + 1) (by omega), (List.getElem?_eq_some_iff.1 hy).2]⟩ (by show l.length - (i + 1 + 1) < l.length - (i + 1); omega))
    · have hr : compactL l = l := by rwa [List.take_of_length_le (by omega)] at hz
      refine K.exit rfl ?_
      refine K.seq ?_
      refine K.region ?_
      refine KO.q rfl (q_move rfl) ?_
      refine KO.q rfl (q_assign rfl) ?_
      refine KO.done ?_
      refine K.ret (fn := Tryz.f46) Tryz.func46 (fun a w hk hs => res1 Tryz.results46 hk rfl) (fun w hs => ?_)
      rw [hr]
      exact ⟨_, [RowO Kd.p2 84 q cap l], rfl, ⟨rfl, rfl⟩, hs.fitD⟩
end Go.Proofs.YtcpkcjabmookmaaGreat.L
