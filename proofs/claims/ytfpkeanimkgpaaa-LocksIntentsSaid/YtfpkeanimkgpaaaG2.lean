/- Walks: modes joined; the document's modes. -/
import Derived.Test.YtfpkeanimkgpaaaG1
namespace Go.Proofs.Ytfpkeanimkgpaaa.L
open Go Go.Proofs
attribute [local irreducible] pv fv pt fz RowF RowO rowP old pure_ elA
set_option maxRecDepth 100000
set_option linter.unusedSimpArgs false
set_option linter.unusedVariables false

def joinF (a b : Int) : Nat → Nat → Int
  | _, 0 => 5
  | i, n + 1 => if (coversM (i : Int) a && coversM (i : Int) b) = true then (i : Int) else joinF a b (i + 1) n
def joinM (a b : Int) : Int := joinF a b 0 6
theorem joinF_succ (a b : Int) (i n : Nat) : joinF a b i (n + 1) = if (coversM (i : Int) a && coversM (i : Int) b) = true then (i : Int) else joinF a b (i + 1) n := rfl
def rowsF : List ByteArray := [⟨#[49, 49, 49, 49, 49, 49]⟩, ⟨#[49, 49, 49, 49, 49, 48]⟩, ⟨#[49, 49, 49, 48, 48, 48]⟩, ⟨#[49, 49, 48, 49, 48, 48]⟩, ⟨#[49, 49, 48, 48, 48, 48]⟩, ⟨#[49, 48, 48, 48, 48, 48]⟩]
def rowsC : List ByteArray := [⟨#[49, 48, 48, 48, 48, 48]⟩, ⟨#[49, 49, 48, 48, 48, 48]⟩, ⟨#[49, 49, 49, 48, 48, 48]⟩, ⟨#[49, 49, 48, 49, 48, 48]⟩, ⟨#[49, 49, 49, 49, 49, 48]⟩, ⟨#[49, 49, 49, 49, 49, 49]⟩]
theorem rowsF_tab : ∀ x : Fin 6, ∀ y : Fin 6, ((rowsF[x.1]?).bind fun s => (bytesOf s)[y.1]?).map (fun c => decide ((c.toNat : Int) = 49)) = some (hasV (setV (fitsL x.1)) y.1) := by decide +kernel
theorem rowsF_at (a b : Int) : ∃ (na nb : Nat) (s : ByteArray) (c : UInt8), modeOf a = na ∧ modeOf b = nb ∧ na < 6 ∧ rowsF[na]? = some s ∧ (bytesOf s)[nb]? = some c ∧ decide ((c.toNat : Int) = 49) = fitsM a b := by
  have ha := modeOf_rng a
  have hb := modeOf_rng b
  have h := rowsF_tab ⟨(modeOf a).toNat, by omega⟩ ⟨(modeOf b).toNat, by omega⟩
  simp only [Option.map_eq_some_iff, Option.bind_eq_some_iff] at h
  obtain ⟨c, ⟨s, h1, h2⟩, h3⟩ := h
  refine ⟨(modeOf a).toNat, (modeOf b).toNat, s, c, by omega, by omega, by omega, h1, h2, ?_⟩
  rw [h3]
  unfold fitsM
  rw [Int.toNat_of_nonneg ha.1, Int.toNat_of_nonneg hb.1]
theorem rowsC_tab : ∀ x : Fin 6, ∀ y : Fin 6, ((rowsC[x.1]?).bind fun s => (bytesOf s)[y.1]?).map (fun c => decide ((c.toNat : Int) = 49)) = some (hasV (setV (coversL x.1)) y.1) := by decide +kernel
theorem rowsC_at (a b : Int) : ∃ (na nb : Nat) (s : ByteArray) (c : UInt8), modeOf a = na ∧ modeOf b = nb ∧ na < 6 ∧ rowsC[na]? = some s ∧ (bytesOf s)[nb]? = some c ∧ decide ((c.toNat : Int) = 49) = coversM a b := by
  have ha := modeOf_rng a
  have hb := modeOf_rng b
  have h := rowsC_tab ⟨(modeOf a).toNat, by omega⟩ ⟨(modeOf b).toNat, by omega⟩
  simp only [Option.map_eq_some_iff, Option.bind_eq_some_iff] at h
  obtain ⟨c, ⟨s, h1, h2⟩, h3⟩ := h
  refine ⟨(modeOf a).toNat, (modeOf b).toNat, s, c, by omega, by omega, by omega, h1, h2, ?_⟩
  rw [h3]
  unfold coversM
  rw [Int.toNat_of_nonneg ha.1, Int.toNat_of_nonneg hb.1]
--%call poste/posteref10.Fits := rm_Fits _ _
set_option maxHeartbeats 800000 in
theorem rm_Fits (a b : Int) : Fn Try.prog 37 [.int .i64 a, .int .i64 b].toArray [] (fun r post => r = .bool (fitsM a b) ∧ post = []) := by
  obtain ⟨na, nb, s, c, ha, hb, hna, hs1, hc1, hd⟩ := rowsF_at a b
  refine Fn.enter (N := 16) Try.func37 rfl Try.ntmps37 (by kernel_rfl) rfl (fun ρ L => ?_)
  refine K.seq ?_
  refine K.region ?_
  refine KO.q rfl (q_assign rfl) ?_
  refine KO.done ?_
  refine K.seq ?_
  refine K.region ?_
  refine KO.loud rfl (l_slice sz_106_6 rfl (by repeat (first | exact Fill.nil | (apply Fill.cons; rfl; rfl; rfl) | exact SetN.nil | apply SetN.cons | exact SetAt.here | apply SetAt.there))) ?_
  rintro _ _ ⟨b6, rfl, rfl⟩
  refine KO.st (fun w h => pv_flat (enc := fun s => [Value.string s]) (hl := fun _ => rfl) (h1 := fun _ v h => by simp at h; subst h; rfl) rowsF rfl h) ?_
  refine KO.q rfl (q_assign rfl) ?_
  refine KO.done ?_
  refine K.seq ?_
  refine K.drawU (by repeat (first | apply SubL.pers | apply SubL.drop | exact SubL.none)) mixed ?_
  refine D.q 0 rfl (by kernel_rfl) (by kernel_rfl) (q_move rfl) (fun _ h => h.subD) ?_
  refine D.q 1 rfl (by kernel_rfl) (by kernel_rfl) (q_move rfl) (fun _ h => h.subD) ?_
  refine D.q 5 rfl (by kernel_rfl) (by kernel_rfl) (q_move rfl) (fun _ h => h.subD) ?_
  refine D.all (rs := [2]) (by kernel_rfl) rfl (DAll.cons rfl (by kernel_rfl) (OpL.callD rfl (h := rm_mode _)) (.inr (by rintro _ _ ⟨_, ⟨rfl, rfl⟩, rfl⟩ w h; exact h.subD)) rfl ?_ DAll.nil)
  rintro _ _ ⟨_, ⟨rfl, rfl⟩, rfl⟩
  refine D.q 3 rfl (by kernel_rfl) (by kernel_rfl) (q_ix (xs := rowsF) na se_106 rfl rfl ha isF (by repeat (first | exact List.Mem.head _ | apply List.Mem.tail)) rfl hna) (fun _ h => h.subD) ?_
  refine D.q 4 rfl (by kernel_rfl) (by kernel_rfl) (q_ldE (xs := rowsF) ck_9 rfl isF (by repeat (first | exact List.Mem.head _ | apply List.Mem.tail)) hs1 rfl) (fun _ h => h.subD) ?_
  refine D.all (rs := [6]) (by kernel_rfl) rfl (DAll.cons rfl (by kernel_rfl) (OpL.callD rfl (h := rm_mode _)) (.inr (by rintro _ _ ⟨_, ⟨rfl, rfl⟩, rfl⟩ w h; exact h.subD)) rfl ?_ DAll.nil)
  rintro _ _ ⟨_, ⟨rfl, rfl⟩, rfl⟩
  refine D.q 7 rfl (by kernel_rfl) (by kernel_rfl) (q_six Try.underlying9 rfl rfl hb hc1) (fun _ h => h.subD) ?_
  refine D.q 8 rfl (by kernel_rfl) (by kernel_rfl) (q_eq rfl rfl) (fun _ h => h.subD) ?_
  refine D.q 9 rfl (by kernel_rfl) (by kernel_rfl) (q_assign rfl) (fun _ h => h.subD) ?_
  refine D.done (by kernel_rfl) ?_
  refine K.ret (fn := Try.f37) Try.func37 (fun a w hk hs => res1 Try.results37 hk rfl) (fun w hs => ?_)
  exact ⟨_, [], rfl, ⟨by rw [← hd], rfl⟩, hs.fitD⟩
--%call poste/posteref10.Covers := rm_Covers _ _
set_option maxHeartbeats 800000 in
theorem rm_Covers (a b : Int) : Fn Try.prog 38 [.int .i64 a, .int .i64 b].toArray [] (fun r post => r = .bool (coversM a b) ∧ post = []) := by
  obtain ⟨na, nb, s, c, ha, hb, hna, hs1, hc1, hd⟩ := rowsC_at a b
  refine Fn.enter (N := 16) Try.func38 rfl Try.ntmps38 (by kernel_rfl) rfl (fun ρ L => ?_)
  refine K.seq ?_
  refine K.region ?_
  refine KO.q rfl (q_assign rfl) ?_
  refine KO.done ?_
  refine K.seq ?_
  refine K.region ?_
  refine KO.loud rfl (l_slice sz_106_6 rfl (by repeat (first | exact Fill.nil | (apply Fill.cons; rfl; rfl; rfl) | exact SetN.nil | apply SetN.cons | exact SetAt.here | apply SetAt.there))) ?_
  rintro _ _ ⟨b6, rfl, rfl⟩
  refine KO.st (fun w h => pv_flat (enc := fun s => [Value.string s]) (hl := fun _ => rfl) (h1 := fun _ v h => by simp at h; subst h; rfl) rowsC rfl h) ?_
  refine KO.q rfl (q_assign rfl) ?_
  refine KO.done ?_
  refine K.seq ?_
  refine K.drawU (by repeat (first | apply SubL.pers | apply SubL.drop | exact SubL.none)) mixed ?_
  refine D.q 0 rfl (by kernel_rfl) (by kernel_rfl) (q_move rfl) (fun _ h => h.subD) ?_
  refine D.q 1 rfl (by kernel_rfl) (by kernel_rfl) (q_move rfl) (fun _ h => h.subD) ?_
  refine D.q 5 rfl (by kernel_rfl) (by kernel_rfl) (q_move rfl) (fun _ h => h.subD) ?_
  refine D.all (rs := [2]) (by kernel_rfl) rfl (DAll.cons rfl (by kernel_rfl) (OpL.callD rfl (h := rm_mode _)) (.inr (by rintro _ _ ⟨_, ⟨rfl, rfl⟩, rfl⟩ w h; exact h.subD)) rfl ?_ DAll.nil)
  rintro _ _ ⟨_, ⟨rfl, rfl⟩, rfl⟩
  refine D.q 3 rfl (by kernel_rfl) (by kernel_rfl) (q_ix (xs := rowsC) na se_106 rfl rfl ha isF (by repeat (first | exact List.Mem.head _ | apply List.Mem.tail)) rfl hna) (fun _ h => h.subD) ?_
  refine D.q 4 rfl (by kernel_rfl) (by kernel_rfl) (q_ldE (xs := rowsC) ck_9 rfl isF (by repeat (first | exact List.Mem.head _ | apply List.Mem.tail)) hs1 rfl) (fun _ h => h.subD) ?_
  refine D.all (rs := [6]) (by kernel_rfl) rfl (DAll.cons rfl (by kernel_rfl) (OpL.callD rfl (h := rm_mode _)) (.inr (by rintro _ _ ⟨_, ⟨rfl, rfl⟩, rfl⟩ w h; exact h.subD)) rfl ?_ DAll.nil)
  rintro _ _ ⟨_, ⟨rfl, rfl⟩, rfl⟩
  refine D.q 7 rfl (by kernel_rfl) (by kernel_rfl) (q_six Try.underlying9 rfl rfl hb hc1) (fun _ h => h.subD) ?_
  refine D.q 8 rfl (by kernel_rfl) (by kernel_rfl) (q_eq rfl rfl) (fun _ h => h.subD) ?_
  refine D.q 9 rfl (by kernel_rfl) (by kernel_rfl) (q_assign rfl) (fun _ h => h.subD) ?_
  refine D.done (by kernel_rfl) ?_
  refine K.ret (fn := Try.f38) Try.func38 (fun a w hk hs => res1 Try.results38 hk rfl) (fun w hs => ?_)
  exact ⟨_, [], rfl, ⟨by rw [← hd], rfl⟩, hs.fitD⟩
--%call poste/modes.Join := md_Join _ _
set_option maxHeartbeats 800000 in
theorem md_Join (a b : Int) : Fn Try.prog 56 [.int .i64 a, .int .i64 b].toArray [] (fun r post => r = .int .i64 (joinM a b) ∧ post = []) := by
  refine Fn.enter (N := 19) Try.func56 rfl Try.ntmps56 (by kernel_rfl) rfl (fun ρ L => ?_)
  refine K.seq ?_
  refine K.region ?_
  refine KO.q rfl (q_assign rfl) ?_
  refine KO.done ?_
  refine K.seq <| K.seq ?_
  refine K.region ?_
  refine KO.q rfl (q_move rfl) ?_
  refine KO.done ?_
  refine K.block ?_
  refine K.rloop (ι := { i : Nat // i ≤ 6 ∧ joinM a b = joinF a b i (6 - i) }) (fun x => [(6, .int .i64 x.1), (0, .int .i64 a), (1, .int .i64 b)]) (fun x => 6 - x.1) ⟨0, Nat.zero_le _, rfl⟩ (by repeat (first | exact Env.sub_nil _ | refine Env.sub_cons rfl ?_)) (fun x ih => ?_)
  obtain ⟨i, hi, hj⟩ := x
  dsimp only at hi hj ⊢
  refine K.seq ?_
  refine K.region ?_
  refine KO.q rfl (q_lt rfl rfl) ?_
  refine KO.done ?_
  refine K.seq ?_
  refine K.dcond (s := 7) rfl (fun g7 => ?_) (fun g7 => ?_)
  · rw [show 6 - i = (5 - i) + 1 by omega, joinF_succ] at hj
    refine K.skip <| K.seq <| K.block <| K.seq ?_
    refine K.region ?_
    refine KO.q rfl (q_move rfl) ?_
    refine KO.q rfl (q_assign rfl) ?_
    refine KO.done ?_
    refine K.seq ?_
    refine K.region ?_
    refine KO.q rfl (q_move rfl) ?_
    refine KO.q rfl (q_move rfl) ?_
    refine KO.loud rfl (OpL.callD rfl (h := md_Covers _ _)) ?_
    rintro _ _ ⟨_, ⟨rfl, rfl⟩, rfl⟩
    refine KO.q rfl (q_move rfl) ?_
    refine KO.split 12 rfl (fun g12 => ?_) (fun g12 => ?_)
    · refine KO.q rfl (q_move rfl) ?_
      refine KO.q rfl (q_move rfl) ?_
      refine KO.loud rfl (OpL.callD rfl (h := md_Covers _ _)) ?_
      rintro _ _ ⟨_, ⟨rfl, rfl⟩, rfl⟩
      refine KO.q rfl (q_pickT rfl rfl) ?_
      refine KO.done ?_
      refine K.bcond (s := 16) rfl (fun g16 => ?_) (fun g16 => ?_)
      · refine K.seq ?_
        have hr : joinM a b = i := by rw [hj, if_pos (by simp [*])]
        rw [hr]
        refine K.region ?_
        refine KO.q rfl (q_move rfl) ?_
        refine KO.q rfl (q_assign rfl) ?_
        refine KO.done ?_
        refine K.ret (fn := Try.f56) Try.func56 (fun a w hk hs => res1 Try.results56 hk rfl) (fun w hs => ?_)
        exact ⟨_, [], rfl, ⟨rfl, rfl⟩, hs.fitD⟩
      · refine K.skip <| K.inBlock ?_
        refine K.region ?_
        refine KO.q rfl (q_add rfl rfl (by first | omega | (simp; omega)) (by first | omega | (simp; omega))) ?_
        refine KO.q rfl (q_move rfl) ?_
        refine KO.done ?_
        exact K.subE (by repeat (first | exact Env.sub_nil _ | refine Env.sub_cons rfl ?_)) (ih ⟨i + 1, by omega, by rw [hj, if_neg (by simp [*]), show 6 - (i + 1) = 5 - i by omega]⟩ (by show 6 - (i + 1) < 6 - i; omega))
    · refine KO.skip rfl ?_
      refine KO.skip rfl ?_
      refine KO.skip rfl ?_
      refine KO.q rfl (q_pickF rfl rfl) ?_
      refine KO.done ?_
      refine K.no rfl ?_
      refine K.skip <| K.inBlock ?_
      refine K.region ?_
      refine KO.q rfl (q_add rfl rfl (by first | omega | (simp; omega)) (by first | omega | (simp; omega))) ?_
      refine KO.q rfl (q_move rfl) ?_
      refine KO.done ?_
      exact K.subE (by repeat (first | exact Env.sub_nil _ | refine Env.sub_cons rfl ?_)) (ih ⟨i + 1, by omega, by rw [hj, if_neg (by simp [*]), show 6 - (i + 1) = 5 - i by omega]⟩ (by show 6 - (i + 1) < 6 - i; omega))
  · obtain rfl : i = 6 := by omega
    have hr : joinM a b = 5 := by rw [hj]; rfl
    rw [hr]
    refine K.exit rfl ?_
    refine K.seq ?_
    refine K.region ?_
    refine KO.q rfl (q_assign rfl) ?_
    refine KO.done ?_
    refine K.ret (fn := Try.f56) Try.func56 (fun a w hk hs => res1 Try.results56 hk rfl) (fun w hs => ?_)
    exact ⟨_, [], rfl, ⟨rfl, rfl⟩, hs.fitD⟩
--%call poste/posteref10.Join := rm_Join _ _
set_option maxHeartbeats 800000 in
theorem rm_Join (a b : Int) : Fn Try.prog 62 [.int .i64 a, .int .i64 b].toArray [] (fun r post => r = .int .i64 (joinM a b) ∧ post = []) := by
  refine Fn.enter (N := 19) Try.func62 rfl Try.ntmps62 (by kernel_rfl) rfl (fun ρ L => ?_)
  refine K.seq ?_
  refine K.region ?_
  refine KO.q rfl (q_assign rfl) ?_
  refine KO.done ?_
  refine K.seq <| K.seq ?_
  refine K.region ?_
  refine KO.q rfl (q_assign rfl) ?_
  refine KO.done ?_
  refine K.block ?_
  refine K.rloop (ι := { i : Nat // i ≤ 6 ∧ joinM a b = joinF a b i (6 - i) }) (fun x => [(5, .int .i64 x.1), (0, .int .i64 a), (1, .int .i64 b)]) (fun x => 6 - x.1) ⟨0, Nat.zero_le _, rfl⟩ (by repeat (first | exact Env.sub_nil _ | refine Env.sub_cons rfl ?_)) (fun x ih => ?_)
  obtain ⟨i, hi, hj⟩ := x
  dsimp only at hi hj ⊢
  refine K.seq <| K.seq ?_
  refine K.region ?_
  refine KO.q rfl (q_move rfl) ?_
  refine KO.q rfl (q_le rfl rfl) ?_
  refine KO.done ?_
  refine K.dcond (s := 7) rfl (fun g7 => ?_) (fun g7 => ?_)
  · rw [show 6 - i = (5 - i) + 1 by omega, joinF_succ] at hj
    refine K.skip <| K.seq <| K.block <| K.seq ?_
    refine K.region ?_
    refine KO.q rfl (q_move rfl) ?_
    refine KO.q rfl (q_move rfl) ?_
    refine KO.loud rfl (OpL.callD rfl (h := rm_Covers _ _)) ?_
    rintro _ _ ⟨_, ⟨rfl, rfl⟩, rfl⟩
    refine KO.q rfl (q_move rfl) ?_
    refine KO.split 13 rfl (fun g13 => ?_) (fun g13 => ?_)
    · refine KO.q rfl (q_move rfl) ?_
      refine KO.q rfl (q_move rfl) ?_
      refine KO.loud rfl (OpL.callD rfl (h := rm_Covers _ _)) ?_
      rintro _ _ ⟨_, ⟨rfl, rfl⟩, rfl⟩
      refine KO.q rfl (q_pickT rfl rfl) ?_
      refine KO.done ?_
      refine K.bcond (s := 17) rfl (fun g17 => ?_) (fun g17 => ?_)
      · refine K.seq ?_
        have hr : joinM a b = i := by rw [hj, if_pos (by simp [*])]
        rw [hr]
        refine K.region ?_
        refine KO.q rfl (q_move rfl) ?_
        refine KO.q rfl (q_assign rfl) ?_
        refine KO.done ?_
        refine K.ret (fn := Try.f62) Try.func62 (fun a w hk hs => res1 Try.results62 hk rfl) (fun w hs => ?_)
        exact ⟨_, [], rfl, ⟨rfl, rfl⟩, hs.fitD⟩
      · refine K.skip <| K.inBlock ?_
        refine K.region ?_
        refine KO.q rfl (q_move rfl) ?_
        refine KO.q rfl (q_add rfl rfl (by first | omega | (simp; omega)) (by first | omega | (simp; omega))) ?_
        refine KO.q rfl (q_assign rfl) ?_
        refine KO.done ?_
        exact K.subE (by repeat (first | exact Env.sub_nil _ | refine Env.sub_cons rfl ?_)) (ih ⟨i + 1, by omega, by rw [hj, if_neg (by simp [*]), show 6 - (i + 1) = 5 - i by omega]⟩ (by show 6 - (i + 1) < 6 - i; omega))
    · refine KO.skip rfl ?_
      refine KO.skip rfl ?_
      refine KO.skip rfl ?_
      refine KO.q rfl (q_pickF rfl rfl) ?_
      refine KO.done ?_
      refine K.no rfl ?_
      refine K.skip <| K.inBlock ?_
      refine K.region ?_
      refine KO.q rfl (q_move rfl) ?_
      refine KO.q rfl (q_add rfl rfl (by first | omega | (simp; omega)) (by first | omega | (simp; omega))) ?_
      refine KO.q rfl (q_assign rfl) ?_
      refine KO.done ?_
      exact K.subE (by repeat (first | exact Env.sub_nil _ | refine Env.sub_cons rfl ?_)) (ih ⟨i + 1, by omega, by rw [hj, if_neg (by simp [*]), show 6 - (i + 1) = 5 - i by omega]⟩ (by show 6 - (i + 1) < 6 - i; omega))
  · obtain rfl : i = 6 := by omega
    have hr : joinM a b = 5 := by rw [hj]; rfl
    rw [hr]
    refine K.exit rfl ?_
    refine K.seq ?_
    refine K.region ?_
    refine KO.q rfl (q_assign rfl) ?_
    refine KO.done ?_
    refine K.ret (fn := Try.f62) Try.func62 (fun a w hk hs => res1 Try.results62 hk rfl) (fun w hs => ?_)
    exact ⟨_, [], rfl, ⟨rfl, rfl⟩, hs.fitD⟩
end Go.Proofs.Ytfpkeanimkgpaaa.L
