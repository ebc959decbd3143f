/- The law StateMakes, walked. -/
import Derived.Test.YthnmoiilaaoooaaF3
import Derived.Test.YthnmoiilaaoooaaF4
import Derived.Test.YthnmoiilaaoooaaLJ
namespace Go.Proofs.Ythnmoiilaaoooaa.L
open Go Go.Proofs
attribute [local irreducible] pv fv pt fz RowF RowO rowP old pure_ elA
set_option maxRecDepth 100000
set_option linter.unusedSimpArgs false
set_option linter.unusedVariables false

def hadV (had : Nat → Bool) : List Value := (List.range 26).map (fun j => Value.bool (had j))
theorem hadV_at {had : Nat → Bool} {k : Nat} (h : k < 26) : (hadV had)[k]? = some (.bool (had k)) := by
  unfold hadV
  rw [List.getElem?_map, List.getElem?_range h]
  rfl
theorem setAt_set : ∀ {l : List Value} {k : Nat} {v : Value}, k < l.length → SetAt l k v (l.set k v)
  | [], _, _, h => absurd h (Nat.not_lt_zero _)
  | x :: l, 0, v, _ => .here
  | x :: l, k + 1, v, h => .there (setAt_set (by simpa using h))
theorem hadV_set {had : Nat → Bool} {k : Nat} (h : k < 26) : SetAt (hadV had) k (.bool true) (hadV (fun j => if j = k then true else had j)) := by
  have hl : (hadV had).length = 26 := by unfold hadV; rw [List.length_map, List.length_range]
  have e : hadV (fun j => if j = k then true else had j) = (hadV had).set k (.bool true) := by
    refine List.ext_getElem? fun j => ?_
    rw [List.getElem?_set]
    by_cases hj : j < 26
    · rw [hadV_at hj]
      by_cases hjk : k = j
      · subst hjk
        simp [hl, hj]
      · rw [if_neg hjk, if_neg (fun e => hjk e.symm), hadV_at hj]
    · have h1 : ∀ g : Nat → Bool, (hadV g)[j]? = none := fun g => by unfold hadV; rw [List.getElem?_map, List.getElem?_eq_none (by rw [List.length_range]; omega)]; rfl
      rw [h1, h1]
      split
      · split
        · omega
        · rfl
      · rfl
  rw [e]
  exact setAt_set (by rw [hl]; exact h)
theorem str_sge {a b : ByteArray} (h : cmpB a b < 0) : (!(Op.bytesLess a.toList b.toList)) = false := by
  rw [cmpB_less] at h
  cases hb : Op.bytesLess a.toList b.toList with
  | true => rfl
  | false =>
    rw [hb] at h
    simp only [Bool.false_eq_true, if_false] at h
    split at h <;> omega
/-- Which of the twenty-six a number names. -/
def kOf (a : Int) : Nat := mkN 1023 a % 26
theorem kOf_lt (a : Int) : kOf a < 26 := Nat.mod_lt _ (by decide)
theorem kOf_rem (a : Int) : ((mkN 1023 a : Nat) : Int).tmod 26 = (kOf a : Int) := by
  unfold kOf
  rw [Int.tmod_eq_emod_of_nonneg (Int.natCast_nonneg _)]
  omega
theorem Sz.good.more {s : Sz} {n m : Nat} (h : s.good n) (hm : n ≤ m) : s.good m := ⟨h.sm.more hm, h.room, h.cap⟩
theorem ix_ar {b k : Nat} : (⟨b, 0, none⟩ : Addr).add ((k : Int).toNat * 1) = ⟨b, k, none⟩ := by
  rw [Int.toNat_natCast, Nat.mul_one]
  unfold Addr.add
  split
  · rename_i h0
    first
      | (rw [h0]; done)
      | (rw [h0]; rfl)
      | (subst h0; rfl)
  · show Addr.mk b (0 + k) none = _
    rw [Nat.zero_add]
set_option maxHeartbeats 6400000 in
theorem law_StateMakes (q : Option Addr) (cap : Nat) (l : List Int) (hcp : l.length ≤ cap) : Fn Try.prog 4 [.slice q l.length cap].toArray [RowF (Kd.int .i64) q l] (fun r post => r = .bool true ∧ post = []) := by
  have har : arElem Try.prog 43 = some (26, 4, 1) := by kernel_rfl
  refine Fn.enter (N := 90) Try.func4 rfl Try.ntmps4 (by kernel_rfl) rfl (fun ρ L => ?_)
  refine K.seq ?_
  refine K.region ?_
  refine KO.q rfl (q_assign rfl) ?_
  refine KO.done ?_
  refine K.seq ?_
  refine K.region ?_
  refine KO.loud rfl (OpL.callD rfl (h := l19_alive)) ?_
  rintro _ _ ⟨_, ⟨rfl, rfl⟩, rfl⟩
  refine KO.q rfl (q_assign rfl) ?_
  refine KO.done ?_
  refine K.seq <| K.seq ?_
  refine K.region ?_
  refine KO.q rfl (q_move rfl) ?_
  refine KO.q rfl (q_not rfl) ?_
  refine KO.q rfl (q_move rfl) ?_
  refine KO.q rfl (q_move rfl) ?_
  refine KO.q rfl (q_len Try.underlying37 rfl) ?_
  refine KO.q rfl (q_gt rfl rfl) ?_
  refine KO.q rfl (q_pickF rfl rfl) ?_
  refine KO.done ?_
  refine K.dcond (s := 20) rfl (fun g20 => ?_) (fun g20 => ?_)
  · refine K.seq ?_
    refine K.region ?_
    refine KO.q rfl (q_move rfl) ?_
    refine KO.q rfl (q_assign rfl) ?_
    refine KO.done ?_
    refine K.ret (fn := Try.f4) Try.func4 (fun a w hk hs => res1 Try.results4 hk rfl) (fun w hs => ?_)
    exact ⟨_, [], rfl, ⟨rfl, rfl⟩, hs.fitD⟩
  · refine K.skip <| K.seq ?_
    refine K.region ?_
    refine KO.q rfl (q_as_sz (l_ := []) (q_build st_33 rfl (by repeat (first | exact Fill.nil | (apply Fill.cons; rfl; rfl; rfl) | exact SetN.nil | apply SetN.cons | exact SetAt.here | apply SetAt.there))) rfl) ?_
    refine KO.loud rfl (l_alloc zo_33) ?_
    rintro _ _ ⟨b4, rfl, rfl⟩
    refine KO.loudN rfl (l_storeAll ck_33 rfl rfl ⟨rfl, rfl⟩ (sz_one _) (by repeat (first | exact Pick.here | apply Pick.there))) ?_
    rintro _ _ ⟨rfl, rfl⟩
    refine KO.done ?_
    refine K.seq ?_
    refine K.region ?_
    refine KO.loud rfl (l_alloc zo_43) ?_
    rintro _ _ ⟨b5, rfl, rfl⟩
    refine KO.done ?_
    refine K.st (fun w h => nestF_nil (rowF_nilA (k := Kd.oz) h)) ?_
    refine K.seq ?_
    refine K.region ?_
    refine KO.q rfl (q_assign rfl) ?_
    refine KO.done ?_
    refine K.seq <| K.seq ?_
    refine K.region ?_
    refine KO.q rfl (q_assign rfl) ?_
    refine KO.done ?_
    refine K.block ?_
    refine K.rounds2 (ι := { x : Nat × List Nat × Sz // x.1 ≤ l.length ∧ KS x.2.1 ∧ x.2.2.st = stK x.2.1 ∧ x.2.2.good x.1 }) (fun x => [(7, .int .i64 x.1.1), (6, .int .i64 x.1.2.1.length), (0, .slice q l.length cap), (4, .pointer (some ⟨b4, 0, none⟩)), (5, .pointer (some ⟨b5, 0, none⟩))]) (fun x => [pv b4 33 x.1.2.2.cells, pv b5 43 (hadV (fun j => decide (j ∈ x.1.2.1))), RowF Kd.oz x.1.2.2.q x.1.2.2.l, NestF x.1.2.2.l, RowF (Kd.int .i64) q l] ++ L) (fun x => l.length - x.1.1) ⟨(0, [], ⟨1, none, 0, []⟩), Nat.zero_le _, KS.nil, rfl, ⟨KS.nil.small, Nat.le_refl _, fun o ho => by cases ho⟩⟩ (by repeat (first | exact Env.sub_nil _ | refine Env.sub_cons rfl ?_)) (fun w h => h.fitD) (fun x ih => ?_)
    obtain ⟨⟨i, ks, s⟩, hi, hks, hst, hgd⟩ := x
    dsimp only at hi hks hst hgd ⊢
    refine K.seq <| K.seq ?_
    refine K.region ?_
    refine KO.q rfl (q_move rfl) ?_
    refine KO.q rfl (q_move rfl) ?_
    refine KO.q rfl (q_len Try.underlying37 rfl) ?_
    refine KO.q rfl (q_lt rfl rfl) ?_
    refine KO.done ?_
    refine K.dcond (s := 26) rfl (fun g26 => ?_) (fun g26 => ?_)
    · obtain ⟨a, ha⟩ : ∃ a, l[i]? = some a := ⟨_, List.getElem?_eq_getElem (by omega)⟩
      obtain ⟨k, hk⟩ : ∃ k, k = kOf a := ⟨_, rfl⟩
      have hkl : k < 26 := by rw [hk]; exact kOf_lt a
      have hmk := make_at hks hkl
      rw [← hst] at hmk
      have hl60 : l.length ≤ 60 := by omega
      have hkn := hks.len
      refine K.skip <| K.seq <| K.block <| K.seq ?_
      refine K.region ?_
      refine KO.q rfl (q_move rfl) ?_
      refine KO.q rfl (q_move rfl) ?_
      refine KO.q rfl (q_ix (xs := l) i se_37 rfl rfl rfl isF (by repeat (first | exact List.Mem.head _ | apply List.Mem.tail)) rfl (by omega)) ?_
      first | refine KO.q rfl (q_ldE ck_3 rfl isF (by repeat (first | exact List.Mem.head _ | apply List.Mem.tail)) (by first | assumption | exact List.getElem?_eq_getElem (by first | assumption | omega | (simp; omega))) rfl) ?_ | refine KO.q rfl (q_ldE ck_3 rfl isO (by repeat (first | exact List.Mem.head _ | apply List.Mem.tail)) (by first | assumption | exact List.getElem?_eq_getElem (by first | assumption | omega | (simp; omega))) rfl) ?_
      refine KO.q rfl (q_mask 1023 (by decide) rfl rfl) ?_
      refine KO.q rfl (q_is (q_rem rfl rfl (by decide)) (show _ = Value.int .i64 (k : Int) by rw [hk]; exact congrArg (Value.int .i64) (kOf_rem a))) ?_
      refine KO.q rfl (q_assign rfl) ?_
      refine KO.done ?_
      refine K.seq ?_
      refine K.drawU (by repeat (first | apply SubL.pers | apply SubL.own (b := b4) | apply SubL.drop | exact SubL.none)) mixed ?_
      refine D.q 0 rfl (by kernel_rfl) (by kernel_rfl) (q_loadN ck_33 rfl rfl (by first | (apply cells_pv; (repeat (first | exact List.Mem.head _ | apply List.Mem.tail))) | (apply cells_fv; (repeat (first | exact List.Mem.head _ | apply List.Mem.tail))))) (fun _ h => h.subD) ?_
      refine D.q 1 rfl (by kernel_rfl) (by kernel_rfl) (q_move rfl) (fun _ h => h.subD) ?_
      refine D.q 2 rfl (by kernel_rfl) (by kernel_rfl) (q_move rfl) (fun _ h => h.subD) ?_
      refine D.q 3 rfl (by kernel_rfl) (by kernel_rfl) (q_add rfl rfl (by first | omega | (simp; omega)) (by first | omega | (simp; omega))) (fun _ h => h.subD) ?_
      refine D.q 4 rfl (by kernel_rfl) (by kernel_rfl) (q_scutB (s := alpha) (l := (k : Int)) (h := (k : Int) + 1) Try.underlying9 rfl rfl rfl (by omega) (by omega) (by show (k : Int) + 1 ≤ 26; omega)) (fun _ h => h.subD) ?_
      refine D.q 5 rfl (by kernel_rfl) (by kernel_rfl) (q_as_eff (q_build st_35 rfl (by repeat (first | exact Fill.nil | (apply Fill.cons; rfl; rfl; rfl) | exact SetN.nil | apply SetN.cons | exact SetAt.here | apply SetAt.there))) (show _ = Eff.cells (mkE k) from rfl)) (fun _ h => h.subD) ?_
      refine D.all (rs := [6, 11]) (by kernel_rfl) rfl (DAll.cons rfl (by kernel_rfl) (l_slice1 sz_36_1 rfl rfl ⟨rfl, rfl, rfl⟩) (.inr (by rintro _ _ ⟨b42, rfl, rfl⟩ w h; exact h.subD)) rfl ?_ (DAll.cons rfl (by kernel_rfl) (l_alloc zo_33) (.inr (by rintro _ _ ⟨b9, rfl, rfl⟩ w h; exact h.subD)) rfl ?_ DAll.nil))
      · rintro _ _ ⟨b42, rfl, rfl⟩
        refine D.all (rs := [7, 11]) (by kernel_rfl) rfl (DAll.cons rfl (by kernel_rfl) (OpL.callD rfl (h := st_Apply (pv b42 35 (mkE k).cells) s i (some ⟨b42, 0, none⟩) 1 [mkE k] isP hgd (by show i + 1 ≤ _; omega))) (.inr (by rintro _ _ ⟨_, ⟨s', rfl, hs1, rfl, hs2⟩, rfl⟩ w h; exact h.subD)) rfl ?_ (DAll.cons rfl (by kernel_rfl) (l_alloc zo_33) (.inr (by rintro _ _ ⟨b9, rfl, rfl⟩ w h; exact h.subD)) rfl ?_ DAll.nil))
        · rintro _ _ ⟨_, ⟨s', rfl, hs1, rfl, hs2⟩, rfl⟩
          rw [hmk] at hs1
          rw [hmk]
          refine D.q 8 rfl (by kernel_rfl) (by kernel_rfl) (q_move rfl) (fun _ h => h.subD) ?_
          refine D.q 9 rfl (by kernel_rfl) (by kernel_rfl) (q_extract rfl rfl) (fun _ h => h.subD) ?_
          refine D.q 10 rfl (by kernel_rfl) (by kernel_rfl) (q_extract rfl rfl) (fun _ h => h.subD) ?_
          refine D.all (rs := [11]) (by kernel_rfl) rfl (DAll.cons rfl (by kernel_rfl) (l_alloc zo_33) (.inr (by rintro _ _ ⟨b9, rfl, rfl⟩ w h; exact h.subD)) rfl ?_ DAll.nil)
          rintro _ _ ⟨b9, rfl, rfl⟩
          refine D.all (rs := [12]) (by kernel_rfl) rfl (DAll.consN rfl (by kernel_rfl) (l_storeAll ck_33 rfl rfl ⟨rfl, rfl⟩ (sz_one _) (by repeat (first | exact Pick.here | apply Pick.there))) (.inr (by rintro _ _ ⟨rfl, rfl⟩ w h; exact h.subD)) rfl ?_ DAll.nil)
          rintro _ _ ⟨rfl, rfl⟩
          refine D.q 13 rfl (by kernel_rfl) (by kernel_rfl) (q_assign rfl) (fun _ h => h.subD) ?_
          refine D.done (by kernel_rfl) ?_
          refine K.seq ?_
          refine K.region ?_
          refine KO.q rfl (q_assign rfl) ?_
          refine KO.done ?_
          refine K.seq <| K.block <| K.seq ?_
          refine K.region ?_
          refine KO.q rfl (q_move rfl) ?_
          refine KO.q rfl (q_is (q_ixA har rfl rfl (by omega) (by omega)) (congrArg (fun z => Value.pointer (some z)) ix_ar)) ?_
          refine KO.q rfl (q_load1 ck_4 rfl (cell_pv (by repeat (first | exact List.Mem.head _ | apply List.Mem.tail)) (hadV_at hkl))) ?_
          refine KO.q rfl (q_assign rfl) ?_
          refine KO.done ?_
          first | refine K.dcond (s := 46) rfl (fun g46 => ?_) (fun g46 => ?_) | refine K.bcond (s := 46) rfl (fun g46 => ?_) (fun g46 => ?_)
          · have hm : k ∈ ks := by simpa using g46
            have hw : (if k ∈ ks then ((⟨0, []⟩ : Stt), (4 : Int)) else if 20 ≤ ks.length then (⟨0, []⟩, 6) else (stK (putK ks k), 0)).2 = 4 := by rw [if_pos hm]
            refine K.region ?_
            refine KO.q rfl (q_assign rfl) ?_
            refine KO.done ?_
            refine K.inBlock <| K.seq <| K.seq ?_
            refine K.region ?_
            refine KO.q rfl (q_move rfl) ?_
            refine KO.loud rfl (OpL.callD rfl (h := l19_num _)) ?_
            rintro _ _ ⟨_, ⟨rfl, rfl⟩, rfl⟩
            refine KO.q rfl (q_move rfl) ?_
            refine KO.q rfl (q_neF rfl rfl (hw)) ?_
            refine KO.done ?_
            refine K.no rfl ?_
            refine K.skip <| K.seq <| K.seq ?_
            refine K.region ?_
            refine KO.q rfl (q_move rfl) ?_
            refine KO.q rfl (q_neT rfl rfl (by decide)) ?_
            refine KO.done ?_
            refine K.yes rfl ?_
            refine K.exit rfl ?_
            refine K.region ?_
            refine KO.q rfl (q_move rfl) ?_
            refine KO.q rfl (q_add rfl rfl (by first | omega | (simp; omega)) (by first | omega | (simp; omega))) ?_
            refine KO.q rfl (q_assign rfl) ?_
            refine KO.done ?_
            exact K.weak (by repeat (first | exact Env.sub_nil _ | refine Env.sub_cons rfl ?_)) (fun w h => h.fitD) (ih ⟨(i + 1, ks, s), by show i + 1 ≤ _; omega, hks, hst, hgd.more (Nat.le_succ i)⟩ (by show l.length - (i + 1) < l.length - i; omega))
          · have hm : k ∉ ks := by simpa using g46
            refine K.seq ?_
            refine K.region ?_
            refine KO.q rfl (q_move rfl) ?_
            refine KO.q rfl (q_eq rfl rfl) ?_
            refine KO.q rfl (q_assign rfl) ?_
            refine KO.done ?_
            refine K.dcond (s := 50) rfl (fun g50 => ?_) (fun g50 => ?_)
            · have hw : (if k ∈ ks then ((⟨0, []⟩ : Stt), (4 : Int)) else if 20 ≤ ks.length then (⟨0, []⟩, 6) else (stK (putK ks k), 0)).2 = 6 := by rw [if_neg hm, if_pos (by omega)]
              refine K.region ?_
              refine KO.q rfl (q_assign rfl) ?_
              refine KO.done ?_
              refine K.inBlock <| K.seq <| K.seq ?_
              refine K.region ?_
              refine KO.q rfl (q_move rfl) ?_
              refine KO.loud rfl (OpL.callD rfl (h := l19_num _)) ?_
              rintro _ _ ⟨_, ⟨rfl, rfl⟩, rfl⟩
              refine KO.q rfl (q_move rfl) ?_
              refine KO.q rfl (q_neF rfl rfl (hw)) ?_
              refine KO.done ?_
              refine K.no rfl ?_
              refine K.skip <| K.seq <| K.seq ?_
              refine K.region ?_
              refine KO.q rfl (q_move rfl) ?_
              refine KO.q rfl (q_neT rfl rfl (by decide)) ?_
              refine KO.done ?_
              refine K.yes rfl ?_
              refine K.exit rfl ?_
              refine K.region ?_
              refine KO.q rfl (q_move rfl) ?_
              refine KO.q rfl (q_add rfl rfl (by first | omega | (simp; omega)) (by first | omega | (simp; omega))) ?_
              refine KO.q rfl (q_assign rfl) ?_
              refine KO.done ?_
              exact K.weak (by repeat (first | exact Env.sub_nil _ | refine Env.sub_cons rfl ?_)) (fun w h => h.fitD) (ih ⟨(i + 1, ks, s), by show i + 1 ≤ _; omega, hks, hst, hgd.more (Nat.le_succ i)⟩ (by show l.length - (i + 1) < l.length - i; omega))
            · have hw : (if k ∈ ks then ((⟨0, []⟩ : Stt), (4 : Int)) else if 20 ≤ ks.length then (⟨0, []⟩, 6) else (stK (putK ks k), 0)).2 = 0 := by rw [if_neg hm, if_neg (by omega)]
              have hs1' : s'.st = stK (putK ks k) := by rw [hs1, if_neg hm, if_neg (by omega)]
              have hhad : (fun j => if j = k then true else decide (j ∈ ks)) = (fun j => decide (j ∈ putK ks k)) := by
                funext j
                by_cases hj : j = k
                · rw [if_pos hj, decide_eq_true (putK_mem.2 (.inr hj))]
                · rw [if_neg hj]
                  exact decide_eq_decide.2 ⟨fun h => putK_mem.2 (.inl h), fun h => (putK_mem.1 h).elim id (fun e => absurd e hj)⟩
              refine K.skip <| K.inBlock <| K.seq <| K.seq ?_
              refine K.region ?_
              refine KO.q rfl (q_move rfl) ?_
              refine KO.loud rfl (OpL.callD rfl (h := l19_num _)) ?_
              rintro _ _ ⟨_, ⟨rfl, rfl⟩, rfl⟩
              refine KO.q rfl (q_move rfl) ?_
              refine KO.q rfl (q_neF rfl rfl (hw)) ?_
              refine KO.done ?_
              refine K.no rfl ?_
              refine K.skip <| K.seq <| K.seq ?_
              refine K.region ?_
              refine KO.q rfl (q_move rfl) ?_
              refine KO.q rfl (q_neF rfl rfl (rfl)) ?_
              refine KO.done ?_
              refine K.no rfl ?_
              refine K.skip <| K.seq ?_
              refine K.region ?_
              refine KO.q rfl (q_move rfl) ?_
              refine KO.q rfl (q_is (q_ixA har rfl rfl (by omega) (by omega)) (congrArg (fun z => Value.pointer (some z)) ix_ar)) ?_
              refine KO.loudN rfl (l_store1 ck_4 rfl rfl rfl (by repeat (first | exact Pick.here | apply Pick.there)) (hadV_set hkl)) ?_
              rintro _ _ ⟨rfl, rfl⟩
              rw [hhad]
              refine KO.done ?_
              refine K.seq ?_
              refine K.region ?_
              refine KO.q rfl (q_move rfl) ?_
              refine KO.q rfl (q_add rfl rfl (by first | omega | (simp; omega)) (by first | omega | (simp; omega))) ?_
              refine KO.q rfl (q_assign rfl) ?_
              refine KO.done ?_
              refine K.region ?_
              refine KO.q rfl (q_loadN ck_33 rfl rfl (by first | (apply cells_pv; (repeat (first | exact List.Mem.head _ | apply List.Mem.tail))) | (apply cells_fv; (repeat (first | exact List.Mem.head _ | apply List.Mem.tail))))) ?_
              refine KO.loudN rfl (l_storeAll ck_33 rfl rfl ⟨rfl, rfl⟩ (sz_one _) (by repeat (first | exact Pick.here | apply Pick.there))) ?_
              rintro _ _ ⟨rfl, rfl⟩
              refine KO.done ?_
              refine K.inBlock ?_
              refine K.region ?_
              refine KO.q rfl (q_move rfl) ?_
              refine KO.q rfl (q_add rfl rfl (by first | omega | (simp; omega)) (by first | omega | (simp; omega))) ?_
              refine KO.q rfl (q_assign rfl) ?_
              refine KO.done ?_
              exact K.weak (by dsimp only; rw [putK_len]; exact (by repeat (first | exact Env.sub_nil _ | refine Env.sub_cons rfl ?_))) (fun w h => h.fitD) (ih ⟨(i + 1, putK ks k, s'), by show i + 1 ≤ _; omega, hks.put hkl hm (by omega), hs1', hs2⟩ (by show l.length - (i + 1) < l.length - i; omega))
        · rintro _ _ ⟨b9, rfl, rfl⟩
          refine D.all (rs := [7]) (by kernel_rfl) rfl (DAll.cons rfl (by kernel_rfl) (OpL.callD rfl (h := st_Apply (pv b42 35 (mkE k).cells) s i (some ⟨b42, 0, none⟩) 1 [mkE k] isP hgd (by show i + 1 ≤ _; omega))) (.inr (by rintro _ _ ⟨_, ⟨s', rfl, hs1, rfl, hs2⟩, rfl⟩ w h; exact h.subD)) rfl ?_ DAll.nil)
          rintro _ _ ⟨_, ⟨s', rfl, hs1, rfl, hs2⟩, rfl⟩
          rw [hmk] at hs1
          rw [hmk]
          refine D.q 8 rfl (by kernel_rfl) (by kernel_rfl) (q_move rfl) (fun _ h => h.subD) ?_
          refine D.q 9 rfl (by kernel_rfl) (by kernel_rfl) (q_extract rfl rfl) (fun _ h => h.subD) ?_
          refine D.q 10 rfl (by kernel_rfl) (by kernel_rfl) (q_extract rfl rfl) (fun _ h => h.subD) ?_
          refine D.all (rs := [12]) (by kernel_rfl) rfl (DAll.consN rfl (by kernel_rfl) (l_storeAll ck_33 rfl rfl ⟨rfl, rfl⟩ (sz_one _) (by repeat (first | exact Pick.here | apply Pick.there))) (.inr (by rintro _ _ ⟨rfl, rfl⟩ w h; exact h.subD)) rfl ?_ DAll.nil)
          rintro _ _ ⟨rfl, rfl⟩
          refine D.q 13 rfl (by kernel_rfl) (by kernel_rfl) (q_assign rfl) (fun _ h => h.subD) ?_
          refine D.done (by kernel_rfl) ?_
          refine K.seq ?_
          refine K.region ?_
          refine KO.q rfl (q_assign rfl) ?_
          refine KO.done ?_
          refine K.seq <| K.block <| K.seq ?_
          refine K.region ?_
          refine KO.q rfl (q_move rfl) ?_
          refine KO.q rfl (q_is (q_ixA har rfl rfl (by omega) (by omega)) (congrArg (fun z => Value.pointer (some z)) ix_ar)) ?_
          refine KO.q rfl (q_load1 ck_4 rfl (cell_pv (by repeat (first | exact List.Mem.head _ | apply List.Mem.tail)) (hadV_at hkl))) ?_
          refine KO.q rfl (q_assign rfl) ?_
          refine KO.done ?_
          first | refine K.dcond (s := 46) rfl (fun g46 => ?_) (fun g46 => ?_) | refine K.bcond (s := 46) rfl (fun g46 => ?_) (fun g46 => ?_)
          · have hm : k ∈ ks := by simpa using g46
            have hw : (if k ∈ ks then ((⟨0, []⟩ : Stt), (4 : Int)) else if 20 ≤ ks.length then (⟨0, []⟩, 6) else (stK (putK ks k), 0)).2 = 4 := by rw [if_pos hm]
            refine K.region ?_
            refine KO.q rfl (q_assign rfl) ?_
            refine KO.done ?_
            refine K.inBlock <| K.seq <| K.seq ?_
            refine K.region ?_
            refine KO.q rfl (q_move rfl) ?_
            refine KO.loud rfl (OpL.callD rfl (h := l19_num _)) ?_
            rintro _ _ ⟨_, ⟨rfl, rfl⟩, rfl⟩
            refine KO.q rfl (q_move rfl) ?_
            refine KO.q rfl (q_neF rfl rfl (hw)) ?_
            refine KO.done ?_
            refine K.no rfl ?_
            refine K.skip <| K.seq <| K.seq ?_
            refine K.region ?_
            refine KO.q rfl (q_move rfl) ?_
            refine KO.q rfl (q_neT rfl rfl (by decide)) ?_
            refine KO.done ?_
            refine K.yes rfl ?_
            refine K.exit rfl ?_
            refine K.region ?_
            refine KO.q rfl (q_move rfl) ?_
            refine KO.q rfl (q_add rfl rfl (by first | omega | (simp; omega)) (by first | omega | (simp; omega))) ?_
            refine KO.q rfl (q_assign rfl) ?_
            refine KO.done ?_
            exact K.weak (by repeat (first | exact Env.sub_nil _ | refine Env.sub_cons rfl ?_)) (fun w h => h.fitD) (ih ⟨(i + 1, ks, s), by show i + 1 ≤ _; omega, hks, hst, hgd.more (Nat.le_succ i)⟩ (by show l.length - (i + 1) < l.length - i; omega))
          · have hm : k ∉ ks := by simpa using g46
            refine K.seq ?_
            refine K.region ?_
            refine KO.q rfl (q_move rfl) ?_
            refine KO.q rfl (q_eq rfl rfl) ?_
            refine KO.q rfl (q_assign rfl) ?_
            refine KO.done ?_
            refine K.dcond (s := 50) rfl (fun g50 => ?_) (fun g50 => ?_)
            · have hw : (if k ∈ ks then ((⟨0, []⟩ : Stt), (4 : Int)) else if 20 ≤ ks.length then (⟨0, []⟩, 6) else (stK (putK ks k), 0)).2 = 6 := by rw [if_neg hm, if_pos (by omega)]
              refine K.region ?_
              refine KO.q rfl (q_assign rfl) ?_
              refine KO.done ?_
              refine K.inBlock <| K.seq <| K.seq ?_
              refine K.region ?_
              refine KO.q rfl (q_move rfl) ?_
              refine KO.loud rfl (OpL.callD rfl (h := l19_num _)) ?_
              rintro _ _ ⟨_, ⟨rfl, rfl⟩, rfl⟩
              refine KO.q rfl (q_move rfl) ?_
              refine KO.q rfl (q_neF rfl rfl (hw)) ?_
              refine KO.done ?_
              refine K.no rfl ?_
              refine K.skip <| K.seq <| K.seq ?_
              refine K.region ?_
              refine KO.q rfl (q_move rfl) ?_
              refine KO.q rfl (q_neT rfl rfl (by decide)) ?_
              refine KO.done ?_
              refine K.yes rfl ?_
              refine K.exit rfl ?_
              refine K.region ?_
              refine KO.q rfl (q_move rfl) ?_
              refine KO.q rfl (q_add rfl rfl (by first | omega | (simp; omega)) (by first | omega | (simp; omega))) ?_
              refine KO.q rfl (q_assign rfl) ?_
              refine KO.done ?_
              exact K.weak (by repeat (first | exact Env.sub_nil _ | refine Env.sub_cons rfl ?_)) (fun w h => h.fitD) (ih ⟨(i + 1, ks, s), by show i + 1 ≤ _; omega, hks, hst, hgd.more (Nat.le_succ i)⟩ (by show l.length - (i + 1) < l.length - i; omega))
            · have hw : (if k ∈ ks then ((⟨0, []⟩ : Stt), (4 : Int)) else if 20 ≤ ks.length then (⟨0, []⟩, 6) else (stK (putK ks k), 0)).2 = 0 := by rw [if_neg hm, if_neg (by omega)]
              have hs1' : s'.st = stK (putK ks k) := by rw [hs1, if_neg hm, if_neg (by omega)]
              have hhad : (fun j => if j = k then true else decide (j ∈ ks)) = (fun j => decide (j ∈ putK ks k)) := by
                funext j
                by_cases hj : j = k
                · rw [if_pos hj, decide_eq_true (putK_mem.2 (.inr hj))]
                · rw [if_neg hj]
                  exact decide_eq_decide.2 ⟨fun h => putK_mem.2 (.inl h), fun h => (putK_mem.1 h).elim id (fun e => absurd e hj)⟩
              refine K.skip <| K.inBlock <| K.seq <| K.seq ?_
              refine K.region ?_
              refine KO.q rfl (q_move rfl) ?_
              refine KO.loud rfl (OpL.callD rfl (h := l19_num _)) ?_
              rintro _ _ ⟨_, ⟨rfl, rfl⟩, rfl⟩
              refine KO.q rfl (q_move rfl) ?_
              refine KO.q rfl (q_neF rfl rfl (hw)) ?_
              refine KO.done ?_
              refine K.no rfl ?_
              refine K.skip <| K.seq <| K.seq ?_
              refine K.region ?_
              refine KO.q rfl (q_move rfl) ?_
              refine KO.q rfl (q_neF rfl rfl (rfl)) ?_
              refine KO.done ?_
              refine K.no rfl ?_
              refine K.skip <| K.seq ?_
              refine K.region ?_
              refine KO.q rfl (q_move rfl) ?_
              refine KO.q rfl (q_is (q_ixA har rfl rfl (by omega) (by omega)) (congrArg (fun z => Value.pointer (some z)) ix_ar)) ?_
              refine KO.loudN rfl (l_store1 ck_4 rfl rfl rfl (by repeat (first | exact Pick.here | apply Pick.there)) (hadV_set hkl)) ?_
              rintro _ _ ⟨rfl, rfl⟩
              rw [hhad]
              refine KO.done ?_
              refine K.seq ?_
              refine K.region ?_
              refine KO.q rfl (q_move rfl) ?_
              refine KO.q rfl (q_add rfl rfl (by first | omega | (simp; omega)) (by first | omega | (simp; omega))) ?_
              refine KO.q rfl (q_assign rfl) ?_
              refine KO.done ?_
              refine K.region ?_
              refine KO.q rfl (q_loadN ck_33 rfl rfl (by first | (apply cells_pv; (repeat (first | exact List.Mem.head _ | apply List.Mem.tail))) | (apply cells_fv; (repeat (first | exact List.Mem.head _ | apply List.Mem.tail))))) ?_
              refine KO.loudN rfl (l_storeAll ck_33 rfl rfl ⟨rfl, rfl⟩ (sz_one _) (by repeat (first | exact Pick.here | apply Pick.there))) ?_
              rintro _ _ ⟨rfl, rfl⟩
              refine KO.done ?_
              refine K.inBlock ?_
              refine K.region ?_
              refine KO.q rfl (q_move rfl) ?_
              refine KO.q rfl (q_add rfl rfl (by first | omega | (simp; omega)) (by first | omega | (simp; omega))) ?_
              refine KO.q rfl (q_assign rfl) ?_
              refine KO.done ?_
              exact K.weak (by dsimp only; rw [putK_len]; exact (by repeat (first | exact Env.sub_nil _ | refine Env.sub_cons rfl ?_))) (fun w h => h.fitD) (ih ⟨(i + 1, putK ks k, s'), by show i + 1 ≤ _; omega, hks.put hkl hm (by omega), hs1', hs2⟩ (by show l.length - (i + 1) < l.length - i; omega))
      · rintro _ _ ⟨b9, rfl, rfl⟩
        refine D.all (rs := [6]) (by kernel_rfl) rfl (DAll.cons rfl (by kernel_rfl) (l_slice1 sz_36_1 rfl rfl ⟨rfl, rfl, rfl⟩) (.inr (by rintro _ _ ⟨b42, rfl, rfl⟩ w h; exact h.subD)) rfl ?_ DAll.nil)
        rintro _ _ ⟨b42, rfl, rfl⟩
        refine D.all (rs := [7]) (by kernel_rfl) rfl (DAll.cons rfl (by kernel_rfl) (OpL.callD rfl (h := st_Apply (pv b42 35 (mkE k).cells) s i (some ⟨b42, 0, none⟩) 1 [mkE k] isP hgd (by show i + 1 ≤ _; omega))) (.inr (by rintro _ _ ⟨_, ⟨s', rfl, hs1, rfl, hs2⟩, rfl⟩ w h; exact h.subD)) rfl ?_ DAll.nil)
        rintro _ _ ⟨_, ⟨s', rfl, hs1, rfl, hs2⟩, rfl⟩
        rw [hmk] at hs1
        rw [hmk]
        refine D.q 8 rfl (by kernel_rfl) (by kernel_rfl) (q_move rfl) (fun _ h => h.subD) ?_
        refine D.q 9 rfl (by kernel_rfl) (by kernel_rfl) (q_extract rfl rfl) (fun _ h => h.subD) ?_
        refine D.q 10 rfl (by kernel_rfl) (by kernel_rfl) (q_extract rfl rfl) (fun _ h => h.subD) ?_
        refine D.all (rs := [12]) (by kernel_rfl) rfl (DAll.consN rfl (by kernel_rfl) (l_storeAll ck_33 rfl rfl ⟨rfl, rfl⟩ (sz_one _) (by repeat (first | exact Pick.here | apply Pick.there))) (.inr (by rintro _ _ ⟨rfl, rfl⟩ w h; exact h.subD)) rfl ?_ DAll.nil)
        rintro _ _ ⟨rfl, rfl⟩
        refine D.q 13 rfl (by kernel_rfl) (by kernel_rfl) (q_assign rfl) (fun _ h => h.subD) ?_
        refine D.done (by kernel_rfl) ?_
        refine K.seq ?_
        refine K.region ?_
        refine KO.q rfl (q_assign rfl) ?_
        refine KO.done ?_
        refine K.seq <| K.block <| K.seq ?_
        refine K.region ?_
        refine KO.q rfl (q_move rfl) ?_
        refine KO.q rfl (q_is (q_ixA har rfl rfl (by omega) (by omega)) (congrArg (fun z => Value.pointer (some z)) ix_ar)) ?_
        refine KO.q rfl (q_load1 ck_4 rfl (cell_pv (by repeat (first | exact List.Mem.head _ | apply List.Mem.tail)) (hadV_at hkl))) ?_
        refine KO.q rfl (q_assign rfl) ?_
        refine KO.done ?_
        first | refine K.dcond (s := 46) rfl (fun g46 => ?_) (fun g46 => ?_) | refine K.bcond (s := 46) rfl (fun g46 => ?_) (fun g46 => ?_)
        · have hm : k ∈ ks := by simpa using g46
          have hw : (if k ∈ ks then ((⟨0, []⟩ : Stt), (4 : Int)) else if 20 ≤ ks.length then (⟨0, []⟩, 6) else (stK (putK ks k), 0)).2 = 4 := by rw [if_pos hm]
          refine K.region ?_
          refine KO.q rfl (q_assign rfl) ?_
          refine KO.done ?_
          refine K.inBlock <| K.seq <| K.seq ?_
          refine K.region ?_
          refine KO.q rfl (q_move rfl) ?_
          refine KO.loud rfl (OpL.callD rfl (h := l19_num _)) ?_
          rintro _ _ ⟨_, ⟨rfl, rfl⟩, rfl⟩
          refine KO.q rfl (q_move rfl) ?_
          refine KO.q rfl (q_neF rfl rfl (hw)) ?_
          refine KO.done ?_
          refine K.no rfl ?_
          refine K.skip <| K.seq <| K.seq ?_
          refine K.region ?_
          refine KO.q rfl (q_move rfl) ?_
          refine KO.q rfl (q_neT rfl rfl (by decide)) ?_
          refine KO.done ?_
          refine K.yes rfl ?_
          refine K.exit rfl ?_
          refine K.region ?_
          refine KO.q rfl (q_move rfl) ?_
          refine KO.q rfl (q_add rfl rfl (by first | omega | (simp; omega)) (by first | omega | (simp; omega))) ?_
          refine KO.q rfl (q_assign rfl) ?_
          refine KO.done ?_
          exact K.weak (by repeat (first | exact Env.sub_nil _ | refine Env.sub_cons rfl ?_)) (fun w h => h.fitD) (ih ⟨(i + 1, ks, s), by show i + 1 ≤ _; omega, hks, hst, hgd.more (Nat.le_succ i)⟩ (by show l.length - (i + 1) < l.length - i; omega))
        · have hm : k ∉ ks := by simpa using g46
          refine K.seq ?_
          refine K.region ?_
          refine KO.q rfl (q_move rfl) ?_
          refine KO.q rfl (q_eq rfl rfl) ?_
          refine KO.q rfl (q_assign rfl) ?_
          refine KO.done ?_
          refine K.dcond (s := 50) rfl (fun g50 => ?_) (fun g50 => ?_)
          · have hw : (if k ∈ ks then ((⟨0, []⟩ : Stt), (4 : Int)) else if 20 ≤ ks.length then (⟨0, []⟩, 6) else (stK (putK ks k), 0)).2 = 6 := by rw [if_neg hm, if_pos (by omega)]
            refine K.region ?_
            refine KO.q rfl (q_assign rfl) ?_
            refine KO.done ?_
            refine K.inBlock <| K.seq <| K.seq ?_
            refine K.region ?_
            refine KO.q rfl (q_move rfl) ?_
            refine KO.loud rfl (OpL.callD rfl (h := l19_num _)) ?_
            rintro _ _ ⟨_, ⟨rfl, rfl⟩, rfl⟩
            refine KO.q rfl (q_move rfl) ?_
            refine KO.q rfl (q_neF rfl rfl (hw)) ?_
            refine KO.done ?_
            refine K.no rfl ?_
            refine K.skip <| K.seq <| K.seq ?_
            refine K.region ?_
            refine KO.q rfl (q_move rfl) ?_
            refine KO.q rfl (q_neT rfl rfl (by decide)) ?_
            refine KO.done ?_
            refine K.yes rfl ?_
            refine K.exit rfl ?_
            refine K.region ?_
            refine KO.q rfl (q_move rfl) ?_
            refine KO.q rfl (q_add rfl rfl (by first | omega | (simp; omega)) (by first | omega | (simp; omega))) ?_
            refine KO.q rfl (q_assign rfl) ?_
            refine KO.done ?_
            exact K.weak (by repeat (first | exact Env.sub_nil _ | refine Env.sub_cons rfl ?_)) (fun w h => h.fitD) (ih ⟨(i + 1, ks, s), by show i + 1 ≤ _; omega, hks, hst, hgd.more (Nat.le_succ i)⟩ (by show l.length - (i + 1) < l.length - i; omega))
          · have hw : (if k ∈ ks then ((⟨0, []⟩ : Stt), (4 : Int)) else if 20 ≤ ks.length then (⟨0, []⟩, 6) else (stK (putK ks k), 0)).2 = 0 := by rw [if_neg hm, if_neg (by omega)]
            have hs1' : s'.st = stK (putK ks k) := by rw [hs1, if_neg hm, if_neg (by omega)]
            have hhad : (fun j => if j = k then true else decide (j ∈ ks)) = (fun j => decide (j ∈ putK ks k)) := by
              funext j
              by_cases hj : j = k
              · rw [if_pos hj, decide_eq_true (putK_mem.2 (.inr hj))]
              · rw [if_neg hj]
                exact decide_eq_decide.2 ⟨fun h => putK_mem.2 (.inl h), fun h => (putK_mem.1 h).elim id (fun e => absurd e hj)⟩
            refine K.skip <| K.inBlock <| K.seq <| K.seq ?_
            refine K.region ?_
            refine KO.q rfl (q_move rfl) ?_
            refine KO.loud rfl (OpL.callD rfl (h := l19_num _)) ?_
            rintro _ _ ⟨_, ⟨rfl, rfl⟩, rfl⟩
            refine KO.q rfl (q_move rfl) ?_
            refine KO.q rfl (q_neF rfl rfl (hw)) ?_
            refine KO.done ?_
            refine K.no rfl ?_
            refine K.skip <| K.seq <| K.seq ?_
            refine K.region ?_
            refine KO.q rfl (q_move rfl) ?_
            refine KO.q rfl (q_neF rfl rfl (rfl)) ?_
            refine KO.done ?_
            refine K.no rfl ?_
            refine K.skip <| K.seq ?_
            refine K.region ?_
            refine KO.q rfl (q_move rfl) ?_
            refine KO.q rfl (q_is (q_ixA har rfl rfl (by omega) (by omega)) (congrArg (fun z => Value.pointer (some z)) ix_ar)) ?_
            refine KO.loudN rfl (l_store1 ck_4 rfl rfl rfl (by repeat (first | exact Pick.here | apply Pick.there)) (hadV_set hkl)) ?_
            rintro _ _ ⟨rfl, rfl⟩
            rw [hhad]
            refine KO.done ?_
            refine K.seq ?_
            refine K.region ?_
            refine KO.q rfl (q_move rfl) ?_
            refine KO.q rfl (q_add rfl rfl (by first | omega | (simp; omega)) (by first | omega | (simp; omega))) ?_
            refine KO.q rfl (q_assign rfl) ?_
            refine KO.done ?_
            refine K.region ?_
            refine KO.q rfl (q_loadN ck_33 rfl rfl (by first | (apply cells_pv; (repeat (first | exact List.Mem.head _ | apply List.Mem.tail))) | (apply cells_fv; (repeat (first | exact List.Mem.head _ | apply List.Mem.tail))))) ?_
            refine KO.loudN rfl (l_storeAll ck_33 rfl rfl ⟨rfl, rfl⟩ (sz_one _) (by repeat (first | exact Pick.here | apply Pick.there))) ?_
            rintro _ _ ⟨rfl, rfl⟩
            refine KO.done ?_
            refine K.inBlock ?_
            refine K.region ?_
            refine KO.q rfl (q_move rfl) ?_
            refine KO.q rfl (q_add rfl rfl (by first | omega | (simp; omega)) (by first | omega | (simp; omega))) ?_
            refine KO.q rfl (q_assign rfl) ?_
            refine KO.done ?_
            exact K.weak (by dsimp only; rw [putK_len]; exact (by repeat (first | exact Env.sub_nil _ | refine Env.sub_cons rfl ?_))) (fun w h => h.fitD) (ih ⟨(i + 1, putK ks k, s'), by show i + 1 ≤ _; omega, hks.put hkl hm (by omega), hs1', hs2⟩ (by show l.length - (i + 1) < l.length - i; omega))
    · clear ih
      have hob : s.l.map (·.x) = ks.map tabO := congrArg Stt.objs hst
      have hlen : s.l.length = ks.length := by
        have := congrArg List.length hob
        simpa only [List.length_map] using this
      have hkn := hks.len
      have hpw : s.l.Pairwise (fun a b => cmpB a.x.name b.x.name < 0) := by
        have := hks.pair
        rw [← hob, List.pairwise_map] at this
        exact this
      refine K.exit rfl ?_
      refine K.seq <| K.seq ?_
      refine K.region ?_
      refine KO.q rfl (q_assign rfl) ?_
      refine KO.done ?_
      refine K.block ?_
      refine K.rounds2 (ι := { j : Nat // 1 ≤ j ∧ (j ≤ s.l.length ∨ j = 1) }) (fun x => [(12, .int .i64 x.1), (6, .int .i64 ks.length), (4, .pointer (some ⟨b4, 0, none⟩))]) (fun x => [pv b4 33 s.cells, RowF Kd.oz s.q s.l] ++ L) (fun x => s.l.length - x.1) ⟨1, Nat.le_refl _, .inr rfl⟩ (by repeat (first | exact Env.sub_nil _ | refine Env.sub_cons rfl ?_)) (fun w h => h.fitD) (fun x ih => ?_)
      obtain ⟨j, hj1, hj⟩ := x
      dsimp only at hj1 hj ⊢
      refine K.seq <| K.seq ?_
      refine K.region ?_
      refine KO.q rfl (q_move rfl) ?_
      refine KO.q rfl (q_field fo_33_1 rfl) ?_
      refine KO.q rfl (q_load1D ck_31 rfl) ?_
      refine KO.q rfl (q_len Try.underlying31 rfl) ?_
      refine KO.q rfl (q_lt rfl rfl) ?_
      refine KO.done ?_
      refine K.dcond (s := 68) rfl (fun g68 => ?_) (fun g68 => ?_)
      · obtain ⟨o1, ho1⟩ : ∃ o1, s.l[j - 1]? = some o1 := ⟨_, List.getElem?_eq_getElem (by omega)⟩
        obtain ⟨o2, ho2⟩ : ∃ o2, s.l[j]? = some o2 := ⟨_, List.getElem?_eq_getElem (by omega)⟩
        have hsub : (j : Int) - 1 = ((j - 1 : Nat) : Int) := by omega
        have hlt : cmpB o1.x.name o2.x.name < 0 := by
          obtain ⟨h1, e1⟩ := List.getElem?_eq_some_iff.1 ho1
          obtain ⟨h2, e2⟩ := List.getElem?_eq_some_iff.1 ho2
          have := List.pairwise_iff_getElem.1 hpw (j - 1) j h1 h2 (by omega)
          rwa [e1, e2] at this
        refine K.skip <| K.seq <| K.block <| K.seq ?_
        refine K.drawS [pv b4 33 s.cells, RowF Kd.oz s.q s.l] (fun _ h => h.subD) mixed ?_
        refine D.q 0 rfl (by kernel_rfl) (by kernel_rfl) (q_field fo_33_1 rfl) (fun _ h => h.subD) ?_
        refine D.q 1 rfl (by kernel_rfl) (by kernel_rfl) (q_load1D ck_31 rfl) (fun _ h => h.subD) ?_
        refine D.q 2 rfl (by kernel_rfl) (by kernel_rfl) (q_move rfl) (fun _ h => h.subD) ?_
        refine D.q 3 rfl (by kernel_rfl) (by kernel_rfl) (q_sub rfl rfl (by first | omega | (simp; omega)) (by first | omega | (simp; omega))) (fun _ h => h.subD) ?_
        refine D.q 4 rfl (by kernel_rfl) (by kernel_rfl) (q_ix (xs := s.l) (j - 1) se_31 rfl rfl hsub isF (by repeat (first | exact List.Mem.head _ | apply List.Mem.tail)) rfl (by omega)) (fun _ h => h.subD) ?_
        refine D.q 5 rfl (by kernel_rfl) (by kernel_rfl) (q_fieldE fo_28_0 rfl) (fun _ h => h.subD) ?_
        refine D.q 6 rfl (by kernel_rfl) (by kernel_rfl) (q_ldE (xs := s.l) ck_9 rfl isF (by repeat (first | exact List.Mem.head _ | apply List.Mem.tail)) ho1 rfl) (fun _ h => h.subD) ?_
        refine D.q 7 rfl (by kernel_rfl) (by kernel_rfl) (q_field fo_33_1 rfl) (fun _ h => h.subD) ?_
        refine D.q 8 rfl (by kernel_rfl) (by kernel_rfl) (q_load1D ck_31 rfl) (fun _ h => h.subD) ?_
        refine D.q 9 rfl (by kernel_rfl) (by kernel_rfl) (q_move rfl) (fun _ h => h.subD) ?_
        refine D.q 10 rfl (by kernel_rfl) (by kernel_rfl) (q_ix (xs := s.l) j se_31 rfl rfl rfl isF (by repeat (first | exact List.Mem.head _ | apply List.Mem.tail)) rfl (by omega)) (fun _ h => h.subD) ?_
        refine D.q 11 rfl (by kernel_rfl) (by kernel_rfl) (q_fieldE fo_28_0 rfl) (fun _ h => h.subD) ?_
        refine D.q 12 rfl (by kernel_rfl) (by kernel_rfl) (q_ldE (xs := s.l) ck_9 rfl isF (by repeat (first | exact List.Mem.head _ | apply List.Mem.tail)) ho2 rfl) (fun _ h => h.subD) ?_
        refine D.q 13 rfl (by kernel_rfl) (by kernel_rfl) (q_is (q_sge rfl rfl) (congrArg Value.bool (str_sge hlt))) (fun _ h => h.subD) ?_
        refine D.done (by kernel_rfl) ?_
        refine K.no rfl ?_
        refine K.skip <| K.inBlock ?_
        refine K.region ?_
        refine KO.q rfl (q_move rfl) ?_
        refine KO.q rfl (q_add rfl rfl (by first | omega | (simp; omega)) (by first | omega | (simp; omega))) ?_
        refine KO.q rfl (q_assign rfl) ?_
        refine KO.done ?_
        exact K.weak (by repeat (first | exact Env.sub_nil _ | refine Env.sub_cons rfl ?_)) (fun w h => h.fitD) (ih ⟨j + 1, by omega, .inl (by omega)⟩ (by show s.l.length - (j + 1) < s.l.length - j; omega))
      · clear ih
        refine K.exit rfl ?_
        refine K.seq ?_
        refine K.region ?_
        refine KO.q rfl (q_field fo_33_1 rfl) ?_
        refine KO.q rfl (q_load1D ck_31 rfl) ?_
        refine KO.q rfl (q_len Try.underlying31 rfl) ?_
        refine KO.q rfl (q_move rfl) ?_
        refine KO.q rfl (q_eqT rfl rfl (by rw [hlen])) ?_
        refine KO.q rfl (q_assign rfl) ?_
        refine KO.done ?_
        refine K.ret (fn := Try.f4) Try.func4 (fun a w hk hs => res1 Try.results4 hk rfl) (fun w hs => ?_)
        exact ⟨_, [], rfl, ⟨rfl, rfl⟩, hs.fitD⟩
end Go.Proofs.Ythnmoiilaaoooaa.L
