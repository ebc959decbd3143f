/- Walks: the library's Clone, Insert, Delete and IndexFunc at rows, messages and objects. -/
import Derived.Test.YthnmoiilaaoooaaGreatPS
import Derived.Test.YthnmoiilaaoooaaGreatLP
namespace Go.Proofs.YthnmoiilaaoooaaGreat.L
open Go Go.Proofs
attribute [local irreducible] pv fv pt fz RowF RowO rowP old pure_ elA
set_option maxRecDepth 100000
set_option linter.unusedSimpArgs false
set_option linter.unusedVariables false

theorem ze_rw : zeroOf Tryz.prog 29 = some (Rw.cells ⟨⟨#[]⟩, ⟨#[]⟩⟩) := by kernel_rfl
theorem ze_msg : zeroOf Tryz.prog 39 = some (Msg.cells ⟨0, 0, 0, false, ⟨#[]⟩, ⟨#[]⟩⟩) := by kernel_rfl
theorem ze_oz : zeroOf Tryz.prog 33 = some (Oz.cells ⟨Ob.zero, ⟨none, 0, none, 0, none, 0⟩⟩) := by kernel_rfl
theorem clone_rw (A : HP) (q : Option Addr) (cap : Nat) (xs : List Rw) (hA : IsRow A Kd.rw q xs) (hb : xs.length ≤ 1000000000) : Fn Tryz.prog 27 [.slice q xs.length cap].toArray [A]
    (fun r post => ∃ q' cap', r = .slice q' xs.length cap' ∧ post = [RowO Kd.rw 29 q' cap' xs, A] ∧ xs.length ≤ cap') := by
  refine Fn.enter (N := 8) Tryz.func27 rfl Tryz.ntmps27 (by kernel_rfl) rfl (fun ρ L => ?_)
  refine K.seq ?_
  refine K.region ?_
  refine KO.q rfl (q_assign rfl) ?_
  refine KO.done ?_
  refine K.seq <| K.seq ?_
  refine K.region ?_
  refine KO.q rfl (q_move rfl) ?_
  refine KO.q rfl (q_slnil Tryz.underlying30 rfl rfl) ?_
  refine KO.done ?_
  refine K.ite rfl (fun h => ?_) (fun h => ?_)
  · rcases q with _ | a
    rotate_left
    · cases h
    refine K.fact (row_none hA (List.Mem.head _)) (fun e => ?_)
    subst e
    refine K.seq ?_
    refine K.region ?_
    refine KO.q rfl (q_assign rfl) ?_
    refine KO.done ?_
    refine K.ret (fn := Tryz.f27) Tryz.func27 (fun a w hk hs => res1 Tryz.results27 hk rfl) (fun w hs => ?_)
    exact ⟨_, [RowO Kd.rw 29 none 0 [], A], rfl, ⟨none, 0, rfl, rfl, Nat.le_refl _⟩, (rowO_nil (k := Kd.rw) 29 hs).fitD⟩
  · refine K.skip <| K.seq ?_
    refine K.region ?_
    refine KO.loud rfl (l_slice0 Kd.rw se_30) ?_
    rintro _ _ ⟨q0, rfl, rfl⟩
    refine KO.q rfl (q_move rfl) ?_
    refine KO.loud rfl (l_append Kd.rw (xs := []) (ys := xs) se_30 Tryz.underlying30 ⟨_, ze_rw, rfl⟩ (by decide) rfl rfl (by repeat (first | exact Pick.here | apply Pick.there)) hA (by repeat (first | exact List.Mem.head _ | apply List.Mem.tail)) rfl rfl (by show (2 * (0 + xs.length) + 768) * _ ≤ _; omega)) ?_
    rintro _ _ ⟨q', cap', rfl, rfl⟩
    refine KO.q rfl (q_assign rfl) ?_
    refine KO.done ?_
    refine K.ret (fn := Tryz.f27) Tryz.func27 (fun a w hk hs => res1 Tryz.results27 hk rfl) (fun w hs => ?_)
    exact ⟨_, [RowO Kd.rw 29 q' cap' xs, A], rfl, ⟨q', cap', rfl, rfl, rowO_cap (List.Mem.head _) w hs⟩, hs.fitD⟩
set_option maxHeartbeats 1600000 in
theorem ins_rw (q : Option Addr) (cap : Nat) (l : List Rw) (i : Nat) (bv ev : Nat) (x : Rw) (hi : i ≤ l.length) (hc : l.length ≤ cap) (hb : l.length ≤ 1000000000) : Fn Tryz.prog 100 [.slice q l.length cap, .int .i64 i, .slice (some ⟨bv, 0, none⟩) 1 1].toArray [RowO Kd.rw 29 q cap l, pv bv ev x.cells]
    (fun r post => ∃ q' cap', r = .slice q' (insAt l i x).length cap' ∧ post = [RowO Kd.rw 29 q' cap' (insAt l i x)] ∧ (insAt l i x).length ≤ cap') := by
  have hil' : (insAt l i x).length = l.length + 1 := by
    unfold insAt
    rw [List.length_append, List.length_append, List.length_take, List.length_drop, List.length_singleton]; omega
  refine Fn.enter (N := 95) Tryz.func100 rfl Tryz.ntmps100 (by kernel_rfl) rfl (fun ρ L => ?_)
  refine K.seq ?_
  refine K.region ?_
  refine KO.q rfl (q_assign rfl) ?_
  refine KO.done ?_
  refine K.seq ?_
  refine K.region ?_
  refine KO.q rfl (q_move rfl) ?_
  refine KO.q rfl (q_move rfl) ?_
  refine KO.q rfl (q_cutL se_30 rfl rfl (by first | omega | (simp; omega)) (by first | omega | (simp; omega)) (by first | omega | (simp; omega))) ?_
  refine KO.done ?_
  refine K.seq ?_
  refine K.region ?_
  refine KO.q rfl (q_move rfl) ?_
  refine KO.q rfl (q_len Tryz.underlying30 rfl) ?_
  refine KO.q rfl (q_assign rfl) ?_
  refine KO.done ?_
  refine K.seq <| K.seq ?_
  refine K.region ?_
  refine KO.q rfl (q_move rfl) ?_
  refine KO.q rfl (q_eqF rfl rfl (by decide)) ?_
  refine KO.done ?_
  refine K.no rfl ?_
  refine K.skip <| K.seq ?_
  refine K.region ?_
  refine KO.q rfl (q_move rfl) ?_
  refine KO.q rfl (q_len Tryz.underlying30 rfl) ?_
  refine KO.q rfl (q_assign rfl) ?_
  refine KO.done ?_
  refine K.seq <| K.seq ?_
  refine K.region ?_
  refine KO.q rfl (q_move rfl) ?_
  refine KO.q rfl (q_move rfl) ?_
  refine KO.q rfl (q_eq rfl rfl) ?_
  refine KO.done ?_
  refine K.dcond (s := 22) rfl (fun g22 => ?_) (fun g22 => ?_)
  · have hil : i = l.length := by omega
    have hins : insAt l i x = l ++ [x] := by unfold insAt; subst hil; simp
    refine K.seq ?_
    refine K.region ?_
    refine KO.q rfl (q_move rfl) ?_
    refine KO.q rfl (q_move rfl) ?_
    refine KO.loud rfl (l_append Kd.rw se_30 Tryz.underlying30 ⟨_, ze_rw, rfl⟩ (by decide) rfl rfl (by repeat (first | exact Pick.here | apply Pick.there)) isP (by repeat (first | exact List.Mem.head _ | apply List.Mem.tail)) rfl rfl (by show (2 * (l.length + 1) + 768) * _ ≤ _; omega)) ?_
    rintro _ _ ⟨px, capx, rfl, rfl⟩
    refine KO.q rfl (q_assign rfl) ?_
    refine KO.done ?_
    refine K.ret (fn := Tryz.f100) Tryz.func100 (fun a w hk hs => res1 Tryz.results100 hk rfl) (fun w hs => ?_)
    first
      | exact ⟨_, [RowO Kd.rw 29 px capx (l ++ [x])], rfl, ⟨px, capx, by rw [hil']; simp, by rw [hins], by rw [hins]; exact rowO_cap (e := 29) (k := Kd.rw) (p := px) (cap := capx) (xs := l ++ [x]) (by repeat (first | exact List.Mem.head _ | apply List.Mem.tail)) w hs⟩, hs.fitD⟩
      | exact ⟨_, [RowO Kd.rw 29 (some ⟨bn, 0, none⟩) capn (l.take i ++ [x] ++ l.drop i)], rfl, ⟨_, _, by rw [hil']; exact congrArg (fun n => Value.slice _ n _) (by omega), rfl, rowO_cap (e := 29) (k := Kd.rw) (xs := l.take i ++ [x] ++ l.drop i) (by repeat (first | exact List.Mem.head _ | apply List.Mem.tail)) w hs⟩, hs.fitD⟩
      | exact ⟨_, [RowO Kd.rw 29 q cap (l.take i ++ [x] ++ l.drop i)], rfl, ⟨q, cap, by rw [hil']; exact congrArg (fun n => Value.slice _ n _) (by omega), rfl, rowO_cap (e := 29) (k := Kd.rw) (xs := l.take i ++ [x] ++ l.drop i) (by repeat (first | exact List.Mem.head _ | apply List.Mem.tail)) w hs⟩, hs.fitD⟩
  · refine K.skip <| K.seq <| K.seq ?_
    refine K.region ?_
    refine KO.q rfl (q_move rfl) ?_
    refine KO.q rfl (q_move rfl) ?_
    refine KO.q rfl (q_add rfl rfl (by first | omega | (simp; omega)) (by first | omega | (simp; omega))) ?_
    refine KO.q rfl (q_move rfl) ?_
    refine KO.q rfl (q_cap Tryz.underlying30 rfl) ?_
    refine KO.q rfl (q_gt rfl rfl) ?_
    refine KO.done ?_
    refine K.dcond (s := 31) rfl (fun g31 => ?_) (fun g31 => ?_)
    · have hil : i < l.length := by omega
      refine K.seq ?_
      refine K.region ?_
      refine KO.q rfl (q_move rfl) ?_
      refine KO.q rfl (q_move rfl) ?_
      refine KO.q rfl (q_cutH se_30 rfl rfl (by first | omega | (simp; omega)) (by first | omega | (simp; omega))) ?_
      refine KO.q rfl (q_move rfl) ?_
      refine KO.q rfl (q_move rfl) ?_
      refine KO.q rfl (q_add rfl rfl (by first | omega | (simp; omega)) (by first | omega | (simp; omega))) ?_
      refine KO.q rfl (q_move rfl) ?_
      refine KO.q rfl (q_sub rfl rfl (by first | omega | (simp; omega)) (by first | omega | (simp; omega))) ?_
      refine KO.loud rfl (l_growPre (i := i) (n := l.length + 1 - i) Kd.rw ⟨⟨#[]⟩,⟨#[]⟩⟩ se_30 Tryz.underlying3 ze_rw rfl (fun _ => rfl) rfl (congrArg (fun z => some (Value.int .i64 z)) (show (l.length : Int) + ((1 : Nat) : Int) - i = ((l.length + 1 - i : Nat) : Int) by omega)) (by repeat (first | exact Pick.here | apply Pick.there)) hi (by omega) (by omega) (by decide) (by decide) (by omega)) ?_
      rintro _ _ ⟨bn, capn, rfl, rfl⟩
      refine KO.fact (fun w h => rowO_cap List.mem_cons_self w h) (fun hcn => ?_)
      rw [List.length_append, List.length_take, List.length_replicate] at hcn
      refine KO.q rfl (q_assign rfl) ?_
      refine KO.done ?_
      refine K.seq ?_
      refine K.region ?_
      refine KO.q rfl (q_move rfl) ?_
      refine KO.q rfl (q_move rfl) ?_
      refine KO.q rfl (q_cutL se_30 rfl rfl (by first | omega | (simp; omega)) (by first | omega | (simp; omega)) (by first | omega | (simp; omega))) ?_
      refine KO.q rfl (q_move rfl) ?_
      refine KO.loud rfl (l_copyA (i := i) (m := 1) Kd.rw se_30 rfl rfl (by repeat (first | exact Pick.here | apply Pick.there)) isP (by repeat (first | exact List.Mem.head _ | apply List.Mem.tail)) rfl (Nat.min_eq_left (by omega)) (by rw [List.length_append, List.length_take, List.length_replicate]; omega) (by omega) (by omega)) ?_
      rintro _ _ ⟨rfl, rfl⟩
      refine KO.done ?_
      rw [ins_grow1 hi]
      refine K.seq ?_
      refine K.draw [] mixed ?_
      refine D.q 0 rfl (by kernel_rfl) (by kernel_rfl) (q_move rfl) (fun _ h => h.nil) ?_
      refine D.q 1 rfl (by kernel_rfl) (by kernel_rfl) (q_move rfl) (fun _ h => h.nil) ?_
      refine D.q 2 rfl (by kernel_rfl) (by kernel_rfl) (q_move rfl) (fun _ h => h.nil) ?_
      refine D.q 3 rfl (by kernel_rfl) (by kernel_rfl) (q_add rfl rfl (by first | omega | (simp; omega)) (by first | omega | (simp; omega))) (fun _ h => h.nil) ?_
      refine D.q 4 rfl (by kernel_rfl) (by kernel_rfl) (q_cutL se_30 rfl rfl (by first | omega | (simp; omega)) (by first | omega | (simp; omega)) (by first | omega | (simp; omega))) (fun _ h => h.nil) ?_
      refine D.q 5 rfl (by kernel_rfl) (by kernel_rfl) (q_move rfl) (fun _ h => h.nil) ?_
      refine D.q 6 rfl (by kernel_rfl) (by kernel_rfl) (q_move rfl) (fun _ h => h.nil) ?_
      refine D.q 7 rfl (by kernel_rfl) (by kernel_rfl) (q_cutL se_30 rfl rfl (by first | omega | (simp; omega)) (by first | omega | (simp; omega)) (by first | omega | (simp; omega))) (fun _ h => h.nil) ?_
      refine D.all (rs := [8]) (by kernel_rfl) rfl (DAll.cons rfl (by kernel_rfl) (l_copyA (i := i + 1) (m := l.length - i) Kd.rw se_30 rfl rfl (by repeat (first | exact Pick.here | apply Pick.there)) (isO_cut i) (by repeat (first | exact List.Mem.head _ | apply List.Mem.tail)) (by rw [List.length_drop]; omega) (by show min _ _ = _; omega) (by rw [List.length_append, List.length_append, List.length_take, List.length_replicate, List.length_singleton]; omega) (by omega) (by omega)) (.inr (fun _ _ _ _ h => h.nil)) rfl ?_ DAll.nil)
      rintro _ _ ⟨rfl, rfl⟩
      refine D.done (by kernel_rfl) ?_
      rw [ins_grow2 hi]
      refine K.seq ?_
      refine K.region ?_
      refine KO.q rfl (q_move rfl) ?_
      refine KO.q rfl (q_assign rfl) ?_
      refine KO.done ?_
      refine K.ret (fn := Tryz.f100) Tryz.func100 (fun a w hk hs => res1 Tryz.results100 hk rfl) (fun w hs => ?_)
      first
        | exact ⟨_, [RowO Kd.rw 29 px capx (l ++ [x])], rfl, ⟨px, capx, by rw [hil']; simp, by rw [hins], by rw [hins]; exact rowO_cap (e := 29) (k := Kd.rw) (p := px) (cap := capx) (xs := l ++ [x]) (by repeat (first | exact List.Mem.head _ | apply List.Mem.tail)) w hs⟩, hs.fitD⟩
        | exact ⟨_, [RowO Kd.rw 29 (some ⟨bn, 0, none⟩) capn (l.take i ++ [x] ++ l.drop i)], rfl, ⟨_, _, by rw [hil']; exact congrArg (fun n => Value.slice _ n _) (by omega), rfl, rowO_cap (e := 29) (k := Kd.rw) (xs := l.take i ++ [x] ++ l.drop i) (by repeat (first | exact List.Mem.head _ | apply List.Mem.tail)) w hs⟩, hs.fitD⟩
        | exact ⟨_, [RowO Kd.rw 29 q cap (l.take i ++ [x] ++ l.drop i)], rfl, ⟨q, cap, by rw [hil']; exact congrArg (fun n => Value.slice _ n _) (by omega), rfl, rowO_cap (e := 29) (k := Kd.rw) (xs := l.take i ++ [x] ++ l.drop i) (by repeat (first | exact List.Mem.head _ | apply List.Mem.tail)) w hs⟩, hs.fitD⟩
    · have hil : i < l.length := by omega
      refine K.skip <| K.seq ?_
      refine K.region ?_
      refine KO.q rfl (q_move rfl) ?_
      refine KO.q rfl (q_move rfl) ?_
      refine KO.q rfl (q_move rfl) ?_
      refine KO.q rfl (q_add rfl rfl (by first | omega | (simp; omega)) (by first | omega | (simp; omega))) ?_
      refine KO.q rfl (q_cutH se_30 rfl rfl (by first | omega | (simp; omega)) (by first | omega | (simp; omega))) ?_
      refine KO.q rfl (q_assign rfl) ?_
      refine KO.done ?_
      refine K.seq <| K.seq ?_
      refine K.region ?_
      refine KO.q rfl (q_move rfl) ?_
      refine KO.q rfl (q_move rfl) ?_
      refine KO.q rfl (q_move rfl) ?_
      refine KO.q rfl (q_move rfl) ?_
      refine KO.q rfl (q_add rfl rfl (by first | omega | (simp; omega)) (by first | omega | (simp; omega))) ?_
      refine KO.q rfl (q_cutL se_30 rfl rfl (by first | omega | (simp; omega)) (by first | omega | (simp; omega)) (by first | omega | (simp; omega))) ?_
      refine KO.q rfl (q_apartC (j := i + 1) (k := Kd.rw) (xs := l) Tryz.func110 (by decide +kernel) rfl (by decide +kernel) (by rfl) se_30 rfl rfl (by repeat (first | exact Pick.here | apply Pick.there)) (by repeat (first | exact List.Mem.head _ | apply List.Mem.tail)) (by intro hz; rw [hz] at hil; exact absurd hil (Nat.not_lt_zero _)) (by omega) (by decide)) ?_
      refine KO.q rfl (q_not rfl) ?_
      refine KO.done ?_
      refine K.bcond (s := 68) rfl (fun g68 => ?_) (fun g68 => ?_)
      · refine K.seq ?_
        refine K.draw [] mixed ?_
        refine D.q 0 rfl (by kernel_rfl) (by kernel_rfl) (q_move rfl) (fun _ h => h.nil) ?_
        refine D.q 1 rfl (by kernel_rfl) (by kernel_rfl) (q_move rfl) (fun _ h => h.nil) ?_
        refine D.q 2 rfl (by kernel_rfl) (by kernel_rfl) (q_move rfl) (fun _ h => h.nil) ?_
        refine D.q 3 rfl (by kernel_rfl) (by kernel_rfl) (q_add rfl rfl (by first | omega | (simp; omega)) (by first | omega | (simp; omega))) (fun _ h => h.nil) ?_
        refine D.q 4 rfl (by kernel_rfl) (by kernel_rfl) (q_cutL se_30 rfl rfl (by first | omega | (simp; omega)) (by first | omega | (simp; omega)) (by first | omega | (simp; omega))) (fun _ h => h.nil) ?_
        refine D.q 5 rfl (by kernel_rfl) (by kernel_rfl) (q_move rfl) (fun _ h => h.nil) ?_
        refine D.q 6 rfl (by kernel_rfl) (by kernel_rfl) (q_move rfl) (fun _ h => h.nil) ?_
        refine D.q 7 rfl (by kernel_rfl) (by kernel_rfl) (q_cutL se_30 rfl rfl (by first | omega | (simp; omega)) (by first | omega | (simp; omega)) (by first | omega | (simp; omega))) (fun _ h => h.nil) ?_
        refine D.all (rs := [8]) (by kernel_rfl) rfl (DAll.cons rfl (by kernel_rfl) (l_copyS (i := i + 1) (s0 := i) (m := l.length - i) Kd.rw se_30 rfl rfl (by repeat (first | exact Pick.here | apply Pick.there)) (by show min _ _ = _; omega) (by omega) (by omega) (by omega) (by omega)) (.inr (fun _ _ _ _ h => h.nil)) rfl ?_ DAll.nil)
        rintro _ _ ⟨rfl, rfl⟩
        refine D.done (by kernel_rfl) ?_
        rw [ins_room1 hil]
        refine K.seq ?_
        refine K.region ?_
        refine KO.q rfl (q_move rfl) ?_
        refine KO.q rfl (q_move rfl) ?_
        refine KO.q rfl (q_cutL se_30 rfl rfl (by first | omega | (simp; omega)) (by first | omega | (simp; omega)) (by first | omega | (simp; omega))) ?_
        refine KO.q rfl (q_move rfl) ?_
        refine KO.loud rfl (l_copyA (i := i) (m := 1) Kd.rw se_30 rfl rfl (by repeat (first | exact Pick.here | apply Pick.there)) isP (by repeat (first | exact List.Mem.head _ | apply List.Mem.tail)) rfl (Nat.min_eq_left (by omega)) (by rw [List.length_append, List.length_take, List.length_drop]; omega) (by omega) (by omega)) ?_
        rintro _ _ ⟨rfl, rfl⟩
        refine KO.done ?_
        rw [ins_room2 hil]
        refine K.seq ?_
        refine K.region ?_
        refine KO.q rfl (q_move rfl) ?_
        refine KO.q rfl (q_assign rfl) ?_
        refine KO.done ?_
        refine K.ret (fn := Tryz.f100) Tryz.func100 (fun a w hk hs => res1 Tryz.results100 hk rfl) (fun w hs => ?_)
        first
          | exact ⟨_, [RowO Kd.rw 29 px capx (l ++ [x])], rfl, ⟨px, capx, by rw [hil']; simp, by rw [hins], by rw [hins]; exact rowO_cap (e := 29) (k := Kd.rw) (p := px) (cap := capx) (xs := l ++ [x]) (by repeat (first | exact List.Mem.head _ | apply List.Mem.tail)) w hs⟩, hs.fitD⟩
          | exact ⟨_, [RowO Kd.rw 29 (some ⟨bn, 0, none⟩) capn (l.take i ++ [x] ++ l.drop i)], rfl, ⟨_, _, by rw [hil']; exact congrArg (fun n => Value.slice _ n _) (by omega), rfl, rowO_cap (e := 29) (k := Kd.rw) (xs := l.take i ++ [x] ++ l.drop i) (by repeat (first | exact List.Mem.head _ | apply List.Mem.tail)) w hs⟩, hs.fitD⟩
          | exact ⟨_, [RowO Kd.rw 29 q cap (l.take i ++ [x] ++ l.drop i)], rfl, ⟨q, cap, by rw [hil']; exact congrArg (fun n => Value.slice _ n _) (by omega), rfl, rowO_cap (e := 29) (k := Kd.rw) (xs := l.take i ++ [x] ++ l.drop i) (by repeat (first | exact List.Mem.head _ | apply List.Mem.tail)) w hs⟩, hs.fitD⟩
      · exact absurd g68 (by decide)
theorem clone_msg (A : HP) (q : Option Addr) (cap : Nat) (xs : List Msg) (hA : IsRow A Kd.msg q xs) (hb : xs.length ≤ 1000000000) : Fn Tryz.prog 28 [.slice q xs.length cap].toArray [A]
    (fun r post => ∃ q' cap', r = .slice q' xs.length cap' ∧ post = [RowO Kd.msg 39 q' cap' xs, A] ∧ xs.length ≤ cap') := by
  refine Fn.enter (N := 8) Tryz.func28 rfl Tryz.ntmps28 (by kernel_rfl) rfl (fun ρ L => ?_)
  refine K.seq ?_
  refine K.region ?_
  refine KO.q rfl (q_assign rfl) ?_
  refine KO.done ?_
  refine K.seq <| K.seq ?_
  refine K.region ?_
  refine KO.q rfl (q_move rfl) ?_
  refine KO.q rfl (q_slnil Tryz.underlying31 rfl rfl) ?_
  refine KO.done ?_
  refine K.ite rfl (fun h => ?_) (fun h => ?_)
  · rcases q with _ | a
    rotate_left
    · cases h
    refine K.fact (row_none hA (List.Mem.head _)) (fun e => ?_)
    subst e
    refine K.seq ?_
    refine K.region ?_
    refine KO.q rfl (q_assign rfl) ?_
    refine KO.done ?_
    refine K.ret (fn := Tryz.f28) Tryz.func28 (fun a w hk hs => res1 Tryz.results28 hk rfl) (fun w hs => ?_)
    exact ⟨_, [RowO Kd.msg 39 none 0 [], A], rfl, ⟨none, 0, rfl, rfl, Nat.le_refl _⟩, (rowO_nil (k := Kd.msg) 39 hs).fitD⟩
  · refine K.skip <| K.seq ?_
    refine K.region ?_
    refine KO.loud rfl (l_slice0 Kd.msg se_31) ?_
    rintro _ _ ⟨q0, rfl, rfl⟩
    refine KO.q rfl (q_move rfl) ?_
    refine KO.loud rfl (l_append Kd.msg (xs := []) (ys := xs) se_31 Tryz.underlying31 ⟨_, ze_msg, rfl⟩ (by decide) rfl rfl (by repeat (first | exact Pick.here | apply Pick.there)) hA (by repeat (first | exact List.Mem.head _ | apply List.Mem.tail)) rfl rfl (by show (2 * (0 + xs.length) + 768) * _ ≤ _; omega)) ?_
    rintro _ _ ⟨q', cap', rfl, rfl⟩
    refine KO.q rfl (q_assign rfl) ?_
    refine KO.done ?_
    refine K.ret (fn := Tryz.f28) Tryz.func28 (fun a w hk hs => res1 Tryz.results28 hk rfl) (fun w hs => ?_)
    exact ⟨_, [RowO Kd.msg 39 q' cap' xs, A], rfl, ⟨q', cap', rfl, rfl, rowO_cap (List.Mem.head _) w hs⟩, hs.fitD⟩
set_option maxHeartbeats 1600000 in
theorem ins_msg (q : Option Addr) (cap : Nat) (l : List Msg) (i : Nat) (bv ev : Nat) (x : Msg) (hi : i ≤ l.length) (hc : l.length ≤ cap) (hb : l.length ≤ 1000000000) : Fn Tryz.prog 109 [.slice q l.length cap, .int .i64 i, .slice (some ⟨bv, 0, none⟩) 1 1].toArray [RowO Kd.msg 39 q cap l, pv bv ev x.cells]
    (fun r post => ∃ q' cap', r = .slice q' (insAt l i x).length cap' ∧ post = [RowO Kd.msg 39 q' cap' (insAt l i x)] ∧ (insAt l i x).length ≤ cap') := by
  have hil' : (insAt l i x).length = l.length + 1 := by
    unfold insAt
    rw [List.length_append, List.length_append, List.length_take, List.length_drop, List.length_singleton]; omega
  refine Fn.enter (N := 95) Tryz.func109 rfl Tryz.ntmps109 (by kernel_rfl) rfl (fun ρ L => ?_)
  refine K.seq ?_
  refine K.region ?_
  refine KO.q rfl (q_assign rfl) ?_
  refine KO.done ?_
  refine K.seq ?_
  refine K.region ?_
  refine KO.q rfl (q_move rfl) ?_
  refine KO.q rfl (q_move rfl) ?_
  refine KO.q rfl (q_cutL se_31 rfl rfl (by first | omega | (simp; omega)) (by first | omega | (simp; omega)) (by first | omega | (simp; omega))) ?_
  refine KO.done ?_
  refine K.seq ?_
  refine K.region ?_
  refine KO.q rfl (q_move rfl) ?_
  refine KO.q rfl (q_len Tryz.underlying31 rfl) ?_
  refine KO.q rfl (q_assign rfl) ?_
  refine KO.done ?_
  refine K.seq <| K.seq ?_
  refine K.region ?_
  refine KO.q rfl (q_move rfl) ?_
  refine KO.q rfl (q_eqF rfl rfl (by decide)) ?_
  refine KO.done ?_
  refine K.no rfl ?_
  refine K.skip <| K.seq ?_
  refine K.region ?_
  refine KO.q rfl (q_move rfl) ?_
  refine KO.q rfl (q_len Tryz.underlying31 rfl) ?_
  refine KO.q rfl (q_assign rfl) ?_
  refine KO.done ?_
  refine K.seq <| K.seq ?_
  refine K.region ?_
  refine KO.q rfl (q_move rfl) ?_
  refine KO.q rfl (q_move rfl) ?_
  refine KO.q rfl (q_eq rfl rfl) ?_
  refine KO.done ?_
  refine K.dcond (s := 22) rfl (fun g22 => ?_) (fun g22 => ?_)
  · have hil : i = l.length := by omega
    have hins : insAt l i x = l ++ [x] := by unfold insAt; subst hil; simp
    refine K.seq ?_
    refine K.region ?_
    refine KO.q rfl (q_move rfl) ?_
    refine KO.q rfl (q_move rfl) ?_
    refine KO.loud rfl (l_append Kd.msg se_31 Tryz.underlying31 ⟨_, ze_msg, rfl⟩ (by decide) rfl rfl (by repeat (first | exact Pick.here | apply Pick.there)) isP (by repeat (first | exact List.Mem.head _ | apply List.Mem.tail)) rfl rfl (by show (2 * (l.length + 1) + 768) * _ ≤ _; omega)) ?_
    rintro _ _ ⟨px, capx, rfl, rfl⟩
    refine KO.q rfl (q_assign rfl) ?_
    refine KO.done ?_
    refine K.ret (fn := Tryz.f109) Tryz.func109 (fun a w hk hs => res1 Tryz.results109 hk rfl) (fun w hs => ?_)
    first
      | exact ⟨_, [RowO Kd.msg 39 px capx (l ++ [x])], rfl, ⟨px, capx, by rw [hil']; simp, by rw [hins], by rw [hins]; exact rowO_cap (e := 39) (k := Kd.msg) (p := px) (cap := capx) (xs := l ++ [x]) (by repeat (first | exact List.Mem.head _ | apply List.Mem.tail)) w hs⟩, hs.fitD⟩
      | exact ⟨_, [RowO Kd.msg 39 (some ⟨bn, 0, none⟩) capn (l.take i ++ [x] ++ l.drop i)], rfl, ⟨_, _, by rw [hil']; exact congrArg (fun n => Value.slice _ n _) (by omega), rfl, rowO_cap (e := 39) (k := Kd.msg) (xs := l.take i ++ [x] ++ l.drop i) (by repeat (first | exact List.Mem.head _ | apply List.Mem.tail)) w hs⟩, hs.fitD⟩
      | exact ⟨_, [RowO Kd.msg 39 q cap (l.take i ++ [x] ++ l.drop i)], rfl, ⟨q, cap, by rw [hil']; exact congrArg (fun n => Value.slice _ n _) (by omega), rfl, rowO_cap (e := 39) (k := Kd.msg) (xs := l.take i ++ [x] ++ l.drop i) (by repeat (first | exact List.Mem.head _ | apply List.Mem.tail)) w hs⟩, hs.fitD⟩
  · refine K.skip <| K.seq <| K.seq ?_
    refine K.region ?_
    refine KO.q rfl (q_move rfl) ?_
    refine KO.q rfl (q_move rfl) ?_
    refine KO.q rfl (q_add rfl rfl (by first | omega | (simp; omega)) (by first | omega | (simp; omega))) ?_
    refine KO.q rfl (q_move rfl) ?_
    refine KO.q rfl (q_cap Tryz.underlying31 rfl) ?_
    refine KO.q rfl (q_gt rfl rfl) ?_
    refine KO.done ?_
    refine K.dcond (s := 31) rfl (fun g31 => ?_) (fun g31 => ?_)
    · have hil : i < l.length := by omega
      refine K.seq ?_
      refine K.region ?_
      refine KO.q rfl (q_move rfl) ?_
      refine KO.q rfl (q_move rfl) ?_
      refine KO.q rfl (q_cutH se_31 rfl rfl (by first | omega | (simp; omega)) (by first | omega | (simp; omega))) ?_
      refine KO.q rfl (q_move rfl) ?_
      refine KO.q rfl (q_move rfl) ?_
      refine KO.q rfl (q_add rfl rfl (by first | omega | (simp; omega)) (by first | omega | (simp; omega))) ?_
      refine KO.q rfl (q_move rfl) ?_
      refine KO.q rfl (q_sub rfl rfl (by first | omega | (simp; omega)) (by first | omega | (simp; omega))) ?_
      refine KO.loud rfl (l_growPre (i := i) (n := l.length + 1 - i) Kd.msg ⟨0,0,0,false,⟨#[]⟩,⟨#[]⟩⟩ se_31 Tryz.underlying3 ze_msg rfl (fun _ => rfl) rfl (congrArg (fun z => some (Value.int .i64 z)) (show (l.length : Int) + ((1 : Nat) : Int) - i = ((l.length + 1 - i : Nat) : Int) by omega)) (by repeat (first | exact Pick.here | apply Pick.there)) hi (by omega) (by omega) (by decide) (by decide) (by omega)) ?_
      rintro _ _ ⟨bn, capn, rfl, rfl⟩
      refine KO.fact (fun w h => rowO_cap List.mem_cons_self w h) (fun hcn => ?_)
      rw [List.length_append, List.length_take, List.length_replicate] at hcn
      refine KO.q rfl (q_assign rfl) ?_
      refine KO.done ?_
      refine K.seq ?_
      refine K.region ?_
      refine KO.q rfl (q_move rfl) ?_
      refine KO.q rfl (q_move rfl) ?_
      refine KO.q rfl (q_cutL se_31 rfl rfl (by first | omega | (simp; omega)) (by first | omega | (simp; omega)) (by first | omega | (simp; omega))) ?_
      refine KO.q rfl (q_move rfl) ?_
      refine KO.loud rfl (l_copyA (i := i) (m := 1) Kd.msg se_31 rfl rfl (by repeat (first | exact Pick.here | apply Pick.there)) isP (by repeat (first | exact List.Mem.head _ | apply List.Mem.tail)) rfl (Nat.min_eq_left (by omega)) (by rw [List.length_append, List.length_take, List.length_replicate]; omega) (by omega) (by omega)) ?_
      rintro _ _ ⟨rfl, rfl⟩
      refine KO.done ?_
      rw [ins_grow1 hi]
      refine K.seq ?_
      refine K.draw [] mixed ?_
      refine D.q 0 rfl (by kernel_rfl) (by kernel_rfl) (q_move rfl) (fun _ h => h.nil) ?_
      refine D.q 1 rfl (by kernel_rfl) (by kernel_rfl) (q_move rfl) (fun _ h => h.nil) ?_
      refine D.q 2 rfl (by kernel_rfl) (by kernel_rfl) (q_move rfl) (fun _ h => h.nil) ?_
      refine D.q 3 rfl (by kernel_rfl) (by kernel_rfl) (q_add rfl rfl (by first | omega | (simp; omega)) (by first | omega | (simp; omega))) (fun _ h => h.nil) ?_
      refine D.q 4 rfl (by kernel_rfl) (by kernel_rfl) (q_cutL se_31 rfl rfl (by first | omega | (simp; omega)) (by first | omega | (simp; omega)) (by first | omega | (simp; omega))) (fun _ h => h.nil) ?_
      refine D.q 5 rfl (by kernel_rfl) (by kernel_rfl) (q_move rfl) (fun _ h => h.nil) ?_
      refine D.q 6 rfl (by kernel_rfl) (by kernel_rfl) (q_move rfl) (fun _ h => h.nil) ?_
      refine D.q 7 rfl (by kernel_rfl) (by kernel_rfl) (q_cutL se_31 rfl rfl (by first | omega | (simp; omega)) (by first | omega | (simp; omega)) (by first | omega | (simp; omega))) (fun _ h => h.nil) ?_
      refine D.all (rs := [8]) (by kernel_rfl) rfl (DAll.cons rfl (by kernel_rfl) (l_copyA (i := i + 1) (m := l.length - i) Kd.msg se_31 rfl rfl (by repeat (first | exact Pick.here | apply Pick.there)) (isO_cut i) (by repeat (first | exact List.Mem.head _ | apply List.Mem.tail)) (by rw [List.length_drop]; omega) (by show min _ _ = _; omega) (by rw [List.length_append, List.length_append, List.length_take, List.length_replicate, List.length_singleton]; omega) (by omega) (by omega)) (.inr (fun _ _ _ _ h => h.nil)) rfl ?_ DAll.nil)
      rintro _ _ ⟨rfl, rfl⟩
      refine D.done (by kernel_rfl) ?_
      rw [ins_grow2 hi]
      refine K.seq ?_
      refine K.region ?_
      refine KO.q rfl (q_move rfl) ?_
      refine KO.q rfl (q_assign rfl) ?_
      refine KO.done ?_
      refine K.ret (fn := Tryz.f109) Tryz.func109 (fun a w hk hs => res1 Tryz.results109 hk rfl) (fun w hs => ?_)
      first
        | exact ⟨_, [RowO Kd.msg 39 px capx (l ++ [x])], rfl, ⟨px, capx, by rw [hil']; simp, by rw [hins], by rw [hins]; exact rowO_cap (e := 39) (k := Kd.msg) (p := px) (cap := capx) (xs := l ++ [x]) (by repeat (first | exact List.Mem.head _ | apply List.Mem.tail)) w hs⟩, hs.fitD⟩
        | exact ⟨_, [RowO Kd.msg 39 (some ⟨bn, 0, none⟩) capn (l.take i ++ [x] ++ l.drop i)], rfl, ⟨_, _, by rw [hil']; exact congrArg (fun n => Value.slice _ n _) (by omega), rfl, rowO_cap (e := 39) (k := Kd.msg) (xs := l.take i ++ [x] ++ l.drop i) (by repeat (first | exact List.Mem.head _ | apply List.Mem.tail)) w hs⟩, hs.fitD⟩
        | exact ⟨_, [RowO Kd.msg 39 q cap (l.take i ++ [x] ++ l.drop i)], rfl, ⟨q, cap, by rw [hil']; exact congrArg (fun n => Value.slice _ n _) (by omega), rfl, rowO_cap (e := 39) (k := Kd.msg) (xs := l.take i ++ [x] ++ l.drop i) (by repeat (first | exact List.Mem.head _ | apply List.Mem.tail)) w hs⟩, hs.fitD⟩
    · have hil : i < l.length := by omega
      refine K.skip <| K.seq ?_
      refine K.region ?_
      refine KO.q rfl (q_move rfl) ?_
      refine KO.q rfl (q_move rfl) ?_
      refine KO.q rfl (q_move rfl) ?_
      refine KO.q rfl (q_add rfl rfl (by first | omega | (simp; omega)) (by first | omega | (simp; omega))) ?_
      refine KO.q rfl (q_cutH se_31 rfl rfl (by first | omega | (simp; omega)) (by first | omega | (simp; omega))) ?_
      refine KO.q rfl (q_assign rfl) ?_
      refine KO.done ?_
      refine K.seq <| K.seq ?_
      refine K.region ?_
      refine KO.q rfl (q_move rfl) ?_
      refine KO.q rfl (q_move rfl) ?_
      refine KO.q rfl (q_move rfl) ?_
      refine KO.q rfl (q_move rfl) ?_
      refine KO.q rfl (q_add rfl rfl (by first | omega | (simp; omega)) (by first | omega | (simp; omega))) ?_
      refine KO.q rfl (q_cutL se_31 rfl rfl (by first | omega | (simp; omega)) (by first | omega | (simp; omega)) (by first | omega | (simp; omega))) ?_
      refine KO.q rfl (q_apartC (j := i + 1) (k := Kd.msg) (xs := l) Tryz.func114 (by decide +kernel) rfl (by decide +kernel) (by rfl) se_31 rfl rfl (by repeat (first | exact Pick.here | apply Pick.there)) (by repeat (first | exact List.Mem.head _ | apply List.Mem.tail)) (by intro hz; rw [hz] at hil; exact absurd hil (Nat.not_lt_zero _)) (by omega) (by decide)) ?_
      refine KO.q rfl (q_not rfl) ?_
      refine KO.done ?_
      refine K.bcond (s := 68) rfl (fun g68 => ?_) (fun g68 => ?_)
      · refine K.seq ?_
        refine K.draw [] mixed ?_
        refine D.q 0 rfl (by kernel_rfl) (by kernel_rfl) (q_move rfl) (fun _ h => h.nil) ?_
        refine D.q 1 rfl (by kernel_rfl) (by kernel_rfl) (q_move rfl) (fun _ h => h.nil) ?_
        refine D.q 2 rfl (by kernel_rfl) (by kernel_rfl) (q_move rfl) (fun _ h => h.nil) ?_
        refine D.q 3 rfl (by kernel_rfl) (by kernel_rfl) (q_add rfl rfl (by first | omega | (simp; omega)) (by first | omega | (simp; omega))) (fun _ h => h.nil) ?_
        refine D.q 4 rfl (by kernel_rfl) (by kernel_rfl) (q_cutL se_31 rfl rfl (by first | omega | (simp; omega)) (by first | omega | (simp; omega)) (by first | omega | (simp; omega))) (fun _ h => h.nil) ?_
        refine D.q 5 rfl (by kernel_rfl) (by kernel_rfl) (q_move rfl) (fun _ h => h.nil) ?_
        refine D.q 6 rfl (by kernel_rfl) (by kernel_rfl) (q_move rfl) (fun _ h => h.nil) ?_
        refine D.q 7 rfl (by kernel_rfl) (by kernel_rfl) (q_cutL se_31 rfl rfl (by first | omega | (simp; omega)) (by first | omega | (simp; omega)) (by first | omega | (simp; omega))) (fun _ h => h.nil) ?_
        refine D.all (rs := [8]) (by kernel_rfl) rfl (DAll.cons rfl (by kernel_rfl) (l_copyS (i := i + 1) (s0 := i) (m := l.length - i) Kd.msg se_31 rfl rfl (by repeat (first | exact Pick.here | apply Pick.there)) (by show min _ _ = _; omega) (by omega) (by omega) (by omega) (by omega)) (.inr (fun _ _ _ _ h => h.nil)) rfl ?_ DAll.nil)
        rintro _ _ ⟨rfl, rfl⟩
        refine D.done (by kernel_rfl) ?_
        rw [ins_room1 hil]
        refine K.seq ?_
        refine K.region ?_
        refine KO.q rfl (q_move rfl) ?_
        refine KO.q rfl (q_move rfl) ?_
        refine KO.q rfl (q_cutL se_31 rfl rfl (by first | omega | (simp; omega)) (by first | omega | (simp; omega)) (by first | omega | (simp; omega))) ?_
        refine KO.q rfl (q_move rfl) ?_
        refine KO.loud rfl (l_copyA (i := i) (m := 1) Kd.msg se_31 rfl rfl (by repeat (first | exact Pick.here | apply Pick.there)) isP (by repeat (first | exact List.Mem.head _ | apply List.Mem.tail)) rfl (Nat.min_eq_left (by omega)) (by rw [List.length_append, List.length_take, List.length_drop]; omega) (by omega) (by omega)) ?_
        rintro _ _ ⟨rfl, rfl⟩
        refine KO.done ?_
        rw [ins_room2 hil]
        refine K.seq ?_
        refine K.region ?_
        refine KO.q rfl (q_move rfl) ?_
        refine KO.q rfl (q_assign rfl) ?_
        refine KO.done ?_
        refine K.ret (fn := Tryz.f109) Tryz.func109 (fun a w hk hs => res1 Tryz.results109 hk rfl) (fun w hs => ?_)
        first
          | exact ⟨_, [RowO Kd.msg 39 px capx (l ++ [x])], rfl, ⟨px, capx, by rw [hil']; simp, by rw [hins], by rw [hins]; exact rowO_cap (e := 39) (k := Kd.msg) (p := px) (cap := capx) (xs := l ++ [x]) (by repeat (first | exact List.Mem.head _ | apply List.Mem.tail)) w hs⟩, hs.fitD⟩
          | exact ⟨_, [RowO Kd.msg 39 (some ⟨bn, 0, none⟩) capn (l.take i ++ [x] ++ l.drop i)], rfl, ⟨_, _, by rw [hil']; exact congrArg (fun n => Value.slice _ n _) (by omega), rfl, rowO_cap (e := 39) (k := Kd.msg) (xs := l.take i ++ [x] ++ l.drop i) (by repeat (first | exact List.Mem.head _ | apply List.Mem.tail)) w hs⟩, hs.fitD⟩
          | exact ⟨_, [RowO Kd.msg 39 q cap (l.take i ++ [x] ++ l.drop i)], rfl, ⟨q, cap, by rw [hil']; exact congrArg (fun n => Value.slice _ n _) (by omega), rfl, rowO_cap (e := 39) (k := Kd.msg) (xs := l.take i ++ [x] ++ l.drop i) (by repeat (first | exact List.Mem.head _ | apply List.Mem.tail)) w hs⟩, hs.fitD⟩
      · exact absurd g68 (by decide)
theorem clone_oz (A : HP) (q : Option Addr) (cap : Nat) (xs : List Oz) (hA : IsRow A Kd.oz q xs) (hb : xs.length ≤ 1000000000) : Fn Tryz.prog 26 [.slice q xs.length cap].toArray [A]
    (fun r post => ∃ q' cap', r = .slice q' xs.length cap' ∧ post = [RowO Kd.oz 33 q' cap' xs, A] ∧ xs.length ≤ cap') := by
  refine Fn.enter (N := 8) Tryz.func26 rfl Tryz.ntmps26 (by kernel_rfl) rfl (fun ρ L => ?_)
  refine K.seq ?_
  refine K.region ?_
  refine KO.q rfl (q_assign rfl) ?_
  refine KO.done ?_
  refine K.seq <| K.seq ?_
  refine K.region ?_
  refine KO.q rfl (q_move rfl) ?_
  refine KO.q rfl (q_slnil Tryz.underlying22 rfl rfl) ?_
  refine KO.done ?_
  refine K.ite rfl (fun h => ?_) (fun h => ?_)
  · rcases q with _ | a
    rotate_left
    · cases h
    refine K.fact (row_none hA (List.Mem.head _)) (fun e => ?_)
    subst e
    refine K.seq ?_
    refine K.region ?_
    refine KO.q rfl (q_assign rfl) ?_
    refine KO.done ?_
    refine K.ret (fn := Tryz.f26) Tryz.func26 (fun a w hk hs => res1 Tryz.results26 hk rfl) (fun w hs => ?_)
    exact ⟨_, [RowO Kd.oz 33 none 0 [], A], rfl, ⟨none, 0, rfl, rfl, Nat.le_refl _⟩, (rowO_nil (k := Kd.oz) 33 hs).fitD⟩
  · refine K.skip <| K.seq ?_
    refine K.region ?_
    refine KO.loud rfl (l_slice0 Kd.oz se_22) ?_
    rintro _ _ ⟨q0, rfl, rfl⟩
    refine KO.q rfl (q_move rfl) ?_
    refine KO.loud rfl (l_append Kd.oz (xs := []) (ys := xs) se_22 Tryz.underlying22 ⟨_, ze_oz, rfl⟩ (by decide) rfl rfl (by repeat (first | exact Pick.here | apply Pick.there)) hA (by repeat (first | exact List.Mem.head _ | apply List.Mem.tail)) rfl rfl (by show (2 * (0 + xs.length) + 768) * _ ≤ _; omega)) ?_
    rintro _ _ ⟨q', cap', rfl, rfl⟩
    refine KO.q rfl (q_assign rfl) ?_
    refine KO.done ?_
    refine K.ret (fn := Tryz.f26) Tryz.func26 (fun a w hk hs => res1 Tryz.results26 hk rfl) (fun w hs => ?_)
    exact ⟨_, [RowO Kd.oz 33 q' cap' xs, A], rfl, ⟨q', cap', rfl, rfl, rowO_cap (List.Mem.head _) w hs⟩, hs.fitD⟩
set_option maxHeartbeats 1600000 in
theorem ins_oz (q : Option Addr) (cap : Nat) (l : List Oz) (i : Nat) (bv ev : Nat) (x : Oz) (hi : i ≤ l.length) (hc : l.length ≤ cap) (hb : l.length ≤ 1000000000) : Fn Tryz.prog 78 [.slice q l.length cap, .int .i64 i, .slice (some ⟨bv, 0, none⟩) 1 1].toArray [RowO Kd.oz 33 q cap l, pv bv ev x.cells]
    (fun r post => ∃ q' cap', r = .slice q' (insAt l i x).length cap' ∧ post = [RowO Kd.oz 33 q' cap' (insAt l i x)] ∧ (insAt l i x).length ≤ cap') := by
  have hil' : (insAt l i x).length = l.length + 1 := by
    unfold insAt
    rw [List.length_append, List.length_append, List.length_take, List.length_drop, List.length_singleton]; omega
  refine Fn.enter (N := 95) Tryz.func78 rfl Tryz.ntmps78 (by kernel_rfl) rfl (fun ρ L => ?_)
  refine K.seq ?_
  refine K.region ?_
  refine KO.q rfl (q_assign rfl) ?_
  refine KO.done ?_
  refine K.seq ?_
  refine K.region ?_
  refine KO.q rfl (q_move rfl) ?_
  refine KO.q rfl (q_move rfl) ?_
  refine KO.q rfl (q_cutL se_22 rfl rfl (by first | omega | (simp; omega)) (by first | omega | (simp; omega)) (by first | omega | (simp; omega))) ?_
  refine KO.done ?_
  refine K.seq ?_
  refine K.region ?_
  refine KO.q rfl (q_move rfl) ?_
  refine KO.q rfl (q_len Tryz.underlying22 rfl) ?_
  refine KO.q rfl (q_assign rfl) ?_
  refine KO.done ?_
  refine K.seq <| K.seq ?_
  refine K.region ?_
  refine KO.q rfl (q_move rfl) ?_
  refine KO.q rfl (q_eqF rfl rfl (by decide)) ?_
  refine KO.done ?_
  refine K.no rfl ?_
  refine K.skip <| K.seq ?_
  refine K.region ?_
  refine KO.q rfl (q_move rfl) ?_
  refine KO.q rfl (q_len Tryz.underlying22 rfl) ?_
  refine KO.q rfl (q_assign rfl) ?_
  refine KO.done ?_
  refine K.seq <| K.seq ?_
  refine K.region ?_
  refine KO.q rfl (q_move rfl) ?_
  refine KO.q rfl (q_move rfl) ?_
  refine KO.q rfl (q_eq rfl rfl) ?_
  refine KO.done ?_
  refine K.dcond (s := 22) rfl (fun g22 => ?_) (fun g22 => ?_)
  · have hil : i = l.length := by omega
    have hins : insAt l i x = l ++ [x] := by unfold insAt; subst hil; simp
    refine K.seq ?_
    refine K.region ?_
    refine KO.q rfl (q_move rfl) ?_
    refine KO.q rfl (q_move rfl) ?_
    refine KO.loud rfl (l_append Kd.oz se_22 Tryz.underlying22 ⟨_, ze_oz, rfl⟩ (by decide) rfl rfl (by repeat (first | exact Pick.here | apply Pick.there)) isP (by repeat (first | exact List.Mem.head _ | apply List.Mem.tail)) rfl rfl (by show (2 * (l.length + 1) + 768) * _ ≤ _; omega)) ?_
    rintro _ _ ⟨px, capx, rfl, rfl⟩
    refine KO.q rfl (q_assign rfl) ?_
    refine KO.done ?_
    refine K.ret (fn := Tryz.f78) Tryz.func78 (fun a w hk hs => res1 Tryz.results78 hk rfl) (fun w hs => ?_)
    first
      | exact ⟨_, [RowO Kd.oz 33 px capx (l ++ [x])], rfl, ⟨px, capx, by rw [hil']; simp, by rw [hins], by rw [hins]; exact rowO_cap (e := 33) (k := Kd.oz) (p := px) (cap := capx) (xs := l ++ [x]) (by repeat (first | exact List.Mem.head _ | apply List.Mem.tail)) w hs⟩, hs.fitD⟩
      | exact ⟨_, [RowO Kd.oz 33 (some ⟨bn, 0, none⟩) capn (l.take i ++ [x] ++ l.drop i)], rfl, ⟨_, _, by rw [hil']; exact congrArg (fun n => Value.slice _ n _) (by omega), rfl, rowO_cap (e := 33) (k := Kd.oz) (xs := l.take i ++ [x] ++ l.drop i) (by repeat (first | exact List.Mem.head _ | apply List.Mem.tail)) w hs⟩, hs.fitD⟩
      | exact ⟨_, [RowO Kd.oz 33 q cap (l.take i ++ [x] ++ l.drop i)], rfl, ⟨q, cap, by rw [hil']; exact congrArg (fun n => Value.slice _ n _) (by omega), rfl, rowO_cap (e := 33) (k := Kd.oz) (xs := l.take i ++ [x] ++ l.drop i) (by repeat (first | exact List.Mem.head _ | apply List.Mem.tail)) w hs⟩, hs.fitD⟩
  · refine K.skip <| K.seq <| K.seq ?_
    refine K.region ?_
    refine KO.q rfl (q_move rfl) ?_
    refine KO.q rfl (q_move rfl) ?_
    refine KO.q rfl (q_add rfl rfl (by first | omega | (simp; omega)) (by first | omega | (simp; omega))) ?_
    refine KO.q rfl (q_move rfl) ?_
    refine KO.q rfl (q_cap Tryz.underlying22 rfl) ?_
    refine KO.q rfl (q_gt rfl rfl) ?_
    refine KO.done ?_
    refine K.dcond (s := 31) rfl (fun g31 => ?_) (fun g31 => ?_)
    · have hil : i < l.length := by omega
      refine K.seq ?_
      refine K.region ?_
      refine KO.q rfl (q_move rfl) ?_
      refine KO.q rfl (q_move rfl) ?_
      refine KO.q rfl (q_cutH se_22 rfl rfl (by first | omega | (simp; omega)) (by first | omega | (simp; omega))) ?_
      refine KO.q rfl (q_move rfl) ?_
      refine KO.q rfl (q_move rfl) ?_
      refine KO.q rfl (q_add rfl rfl (by first | omega | (simp; omega)) (by first | omega | (simp; omega))) ?_
      refine KO.q rfl (q_move rfl) ?_
      refine KO.q rfl (q_sub rfl rfl (by first | omega | (simp; omega)) (by first | omega | (simp; omega))) ?_
      refine KO.loud rfl (l_growPre (i := i) (n := l.length + 1 - i) Kd.oz ⟨Ob.zero,⟨none,0,none,0,none,0⟩⟩ se_22 Tryz.underlying3 ze_oz rfl (fun _ => rfl) rfl (congrArg (fun z => some (Value.int .i64 z)) (show (l.length : Int) + ((1 : Nat) : Int) - i = ((l.length + 1 - i : Nat) : Int) by omega)) (by repeat (first | exact Pick.here | apply Pick.there)) hi (by omega) (by omega) (by decide) (by decide) (by omega)) ?_
      rintro _ _ ⟨bn, capn, rfl, rfl⟩
      refine KO.fact (fun w h => rowO_cap List.mem_cons_self w h) (fun hcn => ?_)
      rw [List.length_append, List.length_take, List.length_replicate] at hcn
      refine KO.q rfl (q_assign rfl) ?_
      refine KO.done ?_
      refine K.seq ?_
      refine K.region ?_
      refine KO.q rfl (q_move rfl) ?_
      refine KO.q rfl (q_move rfl) ?_
      refine KO.q rfl (q_cutL se_22 rfl rfl (by first | omega | (simp; omega)) (by first | omega | (simp; omega)) (by first | omega | (simp; omega))) ?_
      refine KO.q rfl (q_move rfl) ?_
      refine KO.loud rfl (l_copyA (i := i) (m := 1) Kd.oz se_22 rfl rfl (by repeat (first | exact Pick.here | apply Pick.there)) isP (by repeat (first | exact List.Mem.head _ | apply List.Mem.tail)) rfl (Nat.min_eq_left (by omega)) (by rw [List.length_append, List.length_take, List.length_replicate]; omega) (by omega) (by omega)) ?_
      rintro _ _ ⟨rfl, rfl⟩
      refine KO.done ?_
      rw [ins_grow1 hi]
      refine K.seq ?_
      refine K.draw [] mixed ?_
      refine D.q 0 rfl (by kernel_rfl) (by kernel_rfl) (q_move rfl) (fun _ h => h.nil) ?_
      refine D.q 1 rfl (by kernel_rfl) (by kernel_rfl) (q_move rfl) (fun _ h => h.nil) ?_
      refine D.q 2 rfl (by kernel_rfl) (by kernel_rfl) (q_move rfl) (fun _ h => h.nil) ?_
      refine D.q 3 rfl (by kernel_rfl) (by kernel_rfl) (q_add rfl rfl (by first | omega | (simp; omega)) (by first | omega | (simp; omega))) (fun _ h => h.nil) ?_
      refine D.q 4 rfl (by kernel_rfl) (by kernel_rfl) (q_cutL se_22 rfl rfl (by first | omega | (simp; omega)) (by first | omega | (simp; omega)) (by first | omega | (simp; omega))) (fun _ h => h.nil) ?_
      refine D.q 5 rfl (by kernel_rfl) (by kernel_rfl) (q_move rfl) (fun _ h => h.nil) ?_
      refine D.q 6 rfl (by kernel_rfl) (by kernel_rfl) (q_move rfl) (fun _ h => h.nil) ?_
      refine D.q 7 rfl (by kernel_rfl) (by kernel_rfl) (q_cutL se_22 rfl rfl (by first | omega | (simp; omega)) (by first | omega | (simp; omega)) (by first | omega | (simp; omega))) (fun _ h => h.nil) ?_
      refine D.all (rs := [8]) (by kernel_rfl) rfl (DAll.cons rfl (by kernel_rfl) (l_copyA (i := i + 1) (m := l.length - i) Kd.oz se_22 rfl rfl (by repeat (first | exact Pick.here | apply Pick.there)) (isO_cut i) (by repeat (first | exact List.Mem.head _ | apply List.Mem.tail)) (by rw [List.length_drop]; omega) (by show min _ _ = _; omega) (by rw [List.length_append, List.length_append, List.length_take, List.length_replicate, List.length_singleton]; omega) (by omega) (by omega)) (.inr (fun _ _ _ _ h => h.nil)) rfl ?_ DAll.nil)
      rintro _ _ ⟨rfl, rfl⟩
      refine D.done (by kernel_rfl) ?_
      rw [ins_grow2 hi]
      refine K.seq ?_
      refine K.region ?_
      refine KO.q rfl (q_move rfl) ?_
      refine KO.q rfl (q_assign rfl) ?_
      refine KO.done ?_
      refine K.ret (fn := Tryz.f78) Tryz.func78 (fun a w hk hs => res1 Tryz.results78 hk rfl) (fun w hs => ?_)
      first
        | exact ⟨_, [RowO Kd.oz 33 px capx (l ++ [x])], rfl, ⟨px, capx, by rw [hil']; simp, by rw [hins], by rw [hins]; exact rowO_cap (e := 33) (k := Kd.oz) (p := px) (cap := capx) (xs := l ++ [x]) (by repeat (first | exact List.Mem.head _ | apply List.Mem.tail)) w hs⟩, hs.fitD⟩
        | exact ⟨_, [RowO Kd.oz 33 (some ⟨bn, 0, none⟩) capn (l.take i ++ [x] ++ l.drop i)], rfl, ⟨_, _, by rw [hil']; exact congrArg (fun n => Value.slice _ n _) (by omega), rfl, rowO_cap (e := 33) (k := Kd.oz) (xs := l.take i ++ [x] ++ l.drop i) (by repeat (first | exact List.Mem.head _ | apply List.Mem.tail)) w hs⟩, hs.fitD⟩
        | exact ⟨_, [RowO Kd.oz 33 q cap (l.take i ++ [x] ++ l.drop i)], rfl, ⟨q, cap, by rw [hil']; exact congrArg (fun n => Value.slice _ n _) (by omega), rfl, rowO_cap (e := 33) (k := Kd.oz) (xs := l.take i ++ [x] ++ l.drop i) (by repeat (first | exact List.Mem.head _ | apply List.Mem.tail)) w hs⟩, hs.fitD⟩
    · have hil : i < l.length := by omega
      refine K.skip <| K.seq ?_
      refine K.region ?_
      refine KO.q rfl (q_move rfl) ?_
      refine KO.q rfl (q_move rfl) ?_
      refine KO.q rfl (q_move rfl) ?_
      refine KO.q rfl (q_add rfl rfl (by first | omega | (simp; omega)) (by first | omega | (simp; omega))) ?_
      refine KO.q rfl (q_cutH se_22 rfl rfl (by first | omega | (simp; omega)) (by first | omega | (simp; omega))) ?_
      refine KO.q rfl (q_assign rfl) ?_
      refine KO.done ?_
      refine K.seq <| K.seq ?_
      refine K.region ?_
      refine KO.q rfl (q_move rfl) ?_
      refine KO.q rfl (q_move rfl) ?_
      refine KO.q rfl (q_move rfl) ?_
      refine KO.q rfl (q_move rfl) ?_
      refine KO.q rfl (q_add rfl rfl (by first | omega | (simp; omega)) (by first | omega | (simp; omega))) ?_
      refine KO.q rfl (q_cutL se_22 rfl rfl (by first | omega | (simp; omega)) (by first | omega | (simp; omega)) (by first | omega | (simp; omega))) ?_
      refine KO.q rfl (q_apartC (j := i + 1) (k := Kd.oz) (xs := l) Tryz.func92 (by decide +kernel) rfl (by decide +kernel) (by rfl) se_22 rfl rfl (by repeat (first | exact Pick.here | apply Pick.there)) (by repeat (first | exact List.Mem.head _ | apply List.Mem.tail)) (by intro hz; rw [hz] at hil; exact absurd hil (Nat.not_lt_zero _)) (by omega) (by decide)) ?_
      refine KO.q rfl (q_not rfl) ?_
      refine KO.done ?_
      refine K.bcond (s := 68) rfl (fun g68 => ?_) (fun g68 => ?_)
      · refine K.seq ?_
        refine K.draw [] mixed ?_
        refine D.q 0 rfl (by kernel_rfl) (by kernel_rfl) (q_move rfl) (fun _ h => h.nil) ?_
        refine D.q 1 rfl (by kernel_rfl) (by kernel_rfl) (q_move rfl) (fun _ h => h.nil) ?_
        refine D.q 2 rfl (by kernel_rfl) (by kernel_rfl) (q_move rfl) (fun _ h => h.nil) ?_
        refine D.q 3 rfl (by kernel_rfl) (by kernel_rfl) (q_add rfl rfl (by first | omega | (simp; omega)) (by first | omega | (simp; omega))) (fun _ h => h.nil) ?_
        refine D.q 4 rfl (by kernel_rfl) (by kernel_rfl) (q_cutL se_22 rfl rfl (by first | omega | (simp; omega)) (by first | omega | (simp; omega)) (by first | omega | (simp; omega))) (fun _ h => h.nil) ?_
        refine D.q 5 rfl (by kernel_rfl) (by kernel_rfl) (q_move rfl) (fun _ h => h.nil) ?_
        refine D.q 6 rfl (by kernel_rfl) (by kernel_rfl) (q_move rfl) (fun _ h => h.nil) ?_
        refine D.q 7 rfl (by kernel_rfl) (by kernel_rfl) (q_cutL se_22 rfl rfl (by first | omega | (simp; omega)) (by first | omega | (simp; omega)) (by first | omega | (simp; omega))) (fun _ h => h.nil) ?_
        refine D.all (rs := [8]) (by kernel_rfl) rfl (DAll.cons rfl (by kernel_rfl) (l_copyS (i := i + 1) (s0 := i) (m := l.length - i) Kd.oz se_22 rfl rfl (by repeat (first | exact Pick.here | apply Pick.there)) (by show min _ _ = _; omega) (by omega) (by omega) (by omega) (by omega)) (.inr (fun _ _ _ _ h => h.nil)) rfl ?_ DAll.nil)
        rintro _ _ ⟨rfl, rfl⟩
        refine D.done (by kernel_rfl) ?_
        rw [ins_room1 hil]
        refine K.seq ?_
        refine K.region ?_
        refine KO.q rfl (q_move rfl) ?_
        refine KO.q rfl (q_move rfl) ?_
        refine KO.q rfl (q_cutL se_22 rfl rfl (by first | omega | (simp; omega)) (by first | omega | (simp; omega)) (by first | omega | (simp; omega))) ?_
        refine KO.q rfl (q_move rfl) ?_
        refine KO.loud rfl (l_copyA (i := i) (m := 1) Kd.oz se_22 rfl rfl (by repeat (first | exact Pick.here | apply Pick.there)) isP (by repeat (first | exact List.Mem.head _ | apply List.Mem.tail)) rfl (Nat.min_eq_left (by omega)) (by rw [List.length_append, List.length_take, List.length_drop]; omega) (by omega) (by omega)) ?_
        rintro _ _ ⟨rfl, rfl⟩
        refine KO.done ?_
        rw [ins_room2 hil]
        refine K.seq ?_
        refine K.region ?_
        refine KO.q rfl (q_move rfl) ?_
        refine KO.q rfl (q_assign rfl) ?_
        refine KO.done ?_
        refine K.ret (fn := Tryz.f78) Tryz.func78 (fun a w hk hs => res1 Tryz.results78 hk rfl) (fun w hs => ?_)
        first
          | exact ⟨_, [RowO Kd.oz 33 px capx (l ++ [x])], rfl, ⟨px, capx, by rw [hil']; simp, by rw [hins], by rw [hins]; exact rowO_cap (e := 33) (k := Kd.oz) (p := px) (cap := capx) (xs := l ++ [x]) (by repeat (first | exact List.Mem.head _ | apply List.Mem.tail)) w hs⟩, hs.fitD⟩
          | exact ⟨_, [RowO Kd.oz 33 (some ⟨bn, 0, none⟩) capn (l.take i ++ [x] ++ l.drop i)], rfl, ⟨_, _, by rw [hil']; exact congrArg (fun n => Value.slice _ n _) (by omega), rfl, rowO_cap (e := 33) (k := Kd.oz) (xs := l.take i ++ [x] ++ l.drop i) (by repeat (first | exact List.Mem.head _ | apply List.Mem.tail)) w hs⟩, hs.fitD⟩
          | exact ⟨_, [RowO Kd.oz 33 q cap (l.take i ++ [x] ++ l.drop i)], rfl, ⟨q, cap, by rw [hil']; exact congrArg (fun n => Value.slice _ n _) (by omega), rfl, rowO_cap (e := 33) (k := Kd.oz) (xs := l.take i ++ [x] ++ l.drop i) (by repeat (first | exact List.Mem.head _ | apply List.Mem.tail)) w hs⟩, hs.fitD⟩
      · exact absurd g68 (by decide)
set_option maxHeartbeats 800000 in
theorem del_rw (q : Option Addr) (cap : Nat) (l : List Rw) (i : Nat) (hi : i < l.length) (hc : l.length ≤ cap) (hb : l.length ≤ 1000000000000) : Fn Tryz.prog 101 [.slice q l.length cap, .int .i64 i, .int .i64 ((i : Int) + 1)].toArray [RowO Kd.rw 29 q cap l]
    (fun r post => r = .slice q (l.eraseIdx i).length cap ∧ post = [RowO Kd.rw 29 q cap (l.eraseIdx i)]) := by
  have her : l.eraseIdx i = l.take i ++ l.drop (i + 1) := List.eraseIdx_eq_take_drop_succ l i
  have hel : (l.take i ++ l.drop (i + 1)).length = l.length - 1 := by rw [List.length_append, List.length_take, List.length_drop]; omega
  refine Fn.enter (N := 33) Tryz.func101 rfl Tryz.ntmps101 (by kernel_rfl) rfl (fun ρ L => ?_)
  refine K.seq ?_
  refine K.region ?_
  refine KO.q rfl (q_assign rfl) ?_
  refine KO.done ?_
  refine K.seq ?_
  refine K.region ?_
  refine KO.q rfl (q_move rfl) ?_
  refine KO.q rfl (q_move rfl) ?_
  refine KO.q rfl (q_move rfl) ?_
  refine KO.q rfl (q_move rfl) ?_
  refine KO.q rfl (q_len Tryz.underlying30 rfl) ?_
  refine KO.q rfl (q_cut3 se_30 rfl rfl rfl rfl (by omega) (by omega) (by omega) (by omega)) ?_
  refine KO.done ?_
  refine K.seq <| K.seq ?_
  refine K.region ?_
  refine KO.q rfl (q_move rfl) ?_
  refine KO.q rfl (q_move rfl) ?_
  refine KO.q rfl (q_eq rfl rfl) ?_
  refine KO.done ?_
  refine K.dcond (s := 16) rfl (fun g16 => ?_) (fun g16 => ?_)
  · exact absurd g16 (by omega)
  · refine K.skip <| K.seq ?_
    refine K.region ?_
    refine KO.q rfl (q_move rfl) ?_
    refine KO.q rfl (q_len Tryz.underlying30 rfl) ?_
    refine KO.q rfl (q_assign rfl) ?_
    refine KO.done ?_
    refine K.seq ?_
    refine K.draw [] mixed ?_
    refine D.q 0 rfl (by kernel_rfl) (by kernel_rfl) (q_move rfl) (fun _ h => h.nil) ?_
    refine D.q 1 rfl (by kernel_rfl) (by kernel_rfl) (q_move rfl) (fun _ h => h.nil) ?_
    refine D.q 2 rfl (by kernel_rfl) (by kernel_rfl) (q_cutH se_30 rfl rfl (by first | omega | (simp; omega)) (by first | omega | (simp; omega))) (fun _ h => h.nil) ?_
    refine D.q 3 rfl (by kernel_rfl) (by kernel_rfl) (q_move rfl) (fun _ h => h.nil) ?_
    refine D.q 4 rfl (by kernel_rfl) (by kernel_rfl) (q_move rfl) (fun _ h => h.nil) ?_
    refine D.q 5 rfl (by kernel_rfl) (by kernel_rfl) (q_cutL se_30 rfl rfl (by first | omega | (simp; omega)) (by first | omega | (simp; omega)) (by first | omega | (simp; omega))) (fun _ h => h.nil) ?_
    refine D.all (rs := [6]) (by kernel_rfl) rfl (DAll.cons rfl (by kernel_rfl) (l_appendIn (i := i) (s0 := i + 1) (m := l.length - (i + 1)) Kd.rw se_30 Tryz.underlying30 rfl rfl (by repeat (first | exact Pick.here | apply Pick.there)) (by omega) (by omega) (by omega) (by omega)) (.inr (fun _ _ _ _ h => h.nil)) rfl ?_ DAll.nil)
    rintro _ _ ⟨rfl, rfl⟩
    refine D.q 7 rfl (by kernel_rfl) (by kernel_rfl) (q_assign rfl) (fun _ h => h.nil) ?_
    refine D.done (by kernel_rfl) ?_
    rw [show i + (l.length - (i + 1)) = l.length - 1 by omega, List.take_of_length_le (l := l.drop (i + 1)) (by rw [List.length_drop]; omega)]
    refine K.seq ?_
    refine K.region ?_
    refine KO.q rfl (q_move rfl) ?_
    refine KO.q rfl (q_move rfl) ?_
    refine KO.q rfl (q_len Tryz.underlying30 rfl) ?_
    refine KO.q rfl (q_move rfl) ?_
    refine KO.q rfl (q_cutB se_30 rfl rfl rfl (by first | omega | (simp; omega)) (by first | omega | (simp; omega)) (by first | omega | (simp; omega))) ?_
    refine KO.loudN rfl (l_clearS (i := l.length - 1) Kd.rw se_30 ze_rw rfl (by simp [Value.oneCell', Rw.cells]) (by decide) rfl (by repeat (first | exact Pick.here | apply Pick.there)) (by rw [List.length_append, List.length_take, List.length_drop]; omega) (by omega) (by simp only [Int.toNat_natCast]; omega)) ?_
    rintro _ _ ⟨rfl, rfl⟩
    refine KO.done ?_
    refine K.seq ?_
    refine K.region ?_
    refine KO.q rfl (q_move rfl) ?_
    refine KO.q rfl (q_assign rfl) ?_
    refine KO.done ?_
    refine K.ret (fn := Tryz.f101) Tryz.func101 (fun a w hk hs => res1 Tryz.results101 hk rfl) (fun w hs => ?_)
    rw [her, hel]
    exact ⟨_, [RowO Kd.rw 29 q cap (l.take i ++ l.drop (i + 1))], rfl, ⟨rfl, rfl⟩, hs.fitD⟩
set_option maxHeartbeats 800000 in
theorem del_msg (q : Option Addr) (cap : Nat) (l : List Msg) (i : Nat) (hi : i < l.length) (hc : l.length ≤ cap) (hb : l.length ≤ 1000000000000) : Fn Tryz.prog 96 [.slice q l.length cap, .int .i64 i, .int .i64 ((i : Int) + 1)].toArray [RowO Kd.msg 39 q cap l]
    (fun r post => r = .slice q (l.eraseIdx i).length cap ∧ post = [RowO Kd.msg 39 q cap (l.eraseIdx i)]) := by
  have her : l.eraseIdx i = l.take i ++ l.drop (i + 1) := List.eraseIdx_eq_take_drop_succ l i
  have hel : (l.take i ++ l.drop (i + 1)).length = l.length - 1 := by rw [List.length_append, List.length_take, List.length_drop]; omega
  refine Fn.enter (N := 33) Tryz.func96 rfl Tryz.ntmps96 (by kernel_rfl) rfl (fun ρ L => ?_)
  refine K.seq ?_
  refine K.region ?_
  refine KO.q rfl (q_assign rfl) ?_
  refine KO.done ?_
  refine K.seq ?_
  refine K.region ?_
  refine KO.q rfl (q_move rfl) ?_
  refine KO.q rfl (q_move rfl) ?_
  refine KO.q rfl (q_move rfl) ?_
  refine KO.q rfl (q_move rfl) ?_
  refine KO.q rfl (q_len Tryz.underlying31 rfl) ?_
  refine KO.q rfl (q_cut3 se_31 rfl rfl rfl rfl (by omega) (by omega) (by omega) (by omega)) ?_
  refine KO.done ?_
  refine K.seq <| K.seq ?_
  refine K.region ?_
  refine KO.q rfl (q_move rfl) ?_
  refine KO.q rfl (q_move rfl) ?_
  refine KO.q rfl (q_eq rfl rfl) ?_
  refine KO.done ?_
  refine K.dcond (s := 16) rfl (fun g16 => ?_) (fun g16 => ?_)
  · exact absurd g16 (by omega)
  · refine K.skip <| K.seq ?_
    refine K.region ?_
    refine KO.q rfl (q_move rfl) ?_
    refine KO.q rfl (q_len Tryz.underlying31 rfl) ?_
    refine KO.q rfl (q_assign rfl) ?_
    refine KO.done ?_
    refine K.seq ?_
    refine K.draw [] mixed ?_
    refine D.q 0 rfl (by kernel_rfl) (by kernel_rfl) (q_move rfl) (fun _ h => h.nil) ?_
    refine D.q 1 rfl (by kernel_rfl) (by kernel_rfl) (q_move rfl) (fun _ h => h.nil) ?_
    refine D.q 2 rfl (by kernel_rfl) (by kernel_rfl) (q_cutH se_31 rfl rfl (by first | omega | (simp; omega)) (by first | omega | (simp; omega))) (fun _ h => h.nil) ?_
    refine D.q 3 rfl (by kernel_rfl) (by kernel_rfl) (q_move rfl) (fun _ h => h.nil) ?_
    refine D.q 4 rfl (by kernel_rfl) (by kernel_rfl) (q_move rfl) (fun _ h => h.nil) ?_
    refine D.q 5 rfl (by kernel_rfl) (by kernel_rfl) (q_cutL se_31 rfl rfl (by first | omega | (simp; omega)) (by first | omega | (simp; omega)) (by first | omega | (simp; omega))) (fun _ h => h.nil) ?_
    refine D.all (rs := [6]) (by kernel_rfl) rfl (DAll.cons rfl (by kernel_rfl) (l_appendIn (i := i) (s0 := i + 1) (m := l.length - (i + 1)) Kd.msg se_31 Tryz.underlying31 rfl rfl (by repeat (first | exact Pick.here | apply Pick.there)) (by omega) (by omega) (by omega) (by omega)) (.inr (fun _ _ _ _ h => h.nil)) rfl ?_ DAll.nil)
    rintro _ _ ⟨rfl, rfl⟩
    refine D.q 7 rfl (by kernel_rfl) (by kernel_rfl) (q_assign rfl) (fun _ h => h.nil) ?_
    refine D.done (by kernel_rfl) ?_
    rw [show i + (l.length - (i + 1)) = l.length - 1 by omega, List.take_of_length_le (l := l.drop (i + 1)) (by rw [List.length_drop]; omega)]
    refine K.seq ?_
    refine K.region ?_
    refine KO.q rfl (q_move rfl) ?_
    refine KO.q rfl (q_move rfl) ?_
    refine KO.q rfl (q_len Tryz.underlying31 rfl) ?_
    refine KO.q rfl (q_move rfl) ?_
    refine KO.q rfl (q_cutB se_31 rfl rfl rfl (by first | omega | (simp; omega)) (by first | omega | (simp; omega)) (by first | omega | (simp; omega))) ?_
    refine KO.loudN rfl (l_clearS (i := l.length - 1) Kd.msg se_31 ze_msg rfl (by simp [Value.oneCell', Msg.cells]) (by decide) rfl (by repeat (first | exact Pick.here | apply Pick.there)) (by rw [List.length_append, List.length_take, List.length_drop]; omega) (by omega) (by simp only [Int.toNat_natCast]; omega)) ?_
    rintro _ _ ⟨rfl, rfl⟩
    refine KO.done ?_
    refine K.seq ?_
    refine K.region ?_
    refine KO.q rfl (q_move rfl) ?_
    refine KO.q rfl (q_assign rfl) ?_
    refine KO.done ?_
    refine K.ret (fn := Tryz.f96) Tryz.func96 (fun a w hk hs => res1 Tryz.results96 hk rfl) (fun w hs => ?_)
    rw [her, hel]
    exact ⟨_, [RowO Kd.msg 39 q cap (l.take i ++ l.drop (i + 1))], rfl, ⟨rfl, rfl⟩, hs.fitD⟩
theorem ixg_msg (A R N : HP) [Pers N] (q : Option Addr) (cap : Nat) (l : List Msg) (hA : IsRow A Kd.msg q l) (f : FuncId) (cs : List Value) (p : Msg → Bool) (hl : (l.length : Int) ≤ 9223372036854775807) (hf : ∀ x ∈ l, Fn Tryz.prog f (Value.agg x.cells.toArray :: cs).toArray [R, N] (fun v post => v = .bool (p x) ∧ post = [R])) :
    Fn Tryz.prog 90 [.slice q l.length cap, .func (.func f) #[] cs.toArray].toArray [A, R, N] (fun r post => r = .int .i64 (idxP p l) ∧ post = [A, R]) := by
  refine Fn.enter (N := 19) Tryz.func90 rfl Tryz.ntmps90 (by kernel_rfl) rfl (fun ρ L => ?_)
  refine K.seq ?_
  refine K.region ?_
  refine KO.q rfl (q_assign rfl) ?_
  refine KO.done ?_
  refine K.seq <| K.seq ?_
  refine K.region ?_
  refine KO.q rfl (q_move rfl) ?_
  refine KO.q rfl (q_len Tryz.underlying31 rfl) ?_
  refine KO.q rfl (q_move rfl) ?_
  refine KO.done ?_
  refine K.block ?_
  refine K.rloop (ι := { i : Nat // i ≤ l.length ∧ (l.take i).any p = false }) (fun x => [(8, .int .i64 x.1), (7, .int .i64 l.length), (0, .slice q l.length cap), (1, .func (.func f) #[] cs.toArray)]) (fun x => l.length - x.1) ⟨0, Nat.zero_le _, rfl⟩ (by repeat (first | exact Env.sub_nil _ | refine Env.sub_cons rfl ?_)) (fun x ih => ?_)
  obtain ⟨i, hi, hz⟩ := x
  dsimp only at hi hz ⊢
  refine K.seq ?_
  refine K.region ?_
  refine KO.q rfl (q_lt rfl rfl) ?_
  refine KO.done ?_
  refine K.seq ?_
  refine K.dcond (s := 9) rfl (fun g9 => ?_) (fun g9 => ?_)
  · obtain ⟨e, he⟩ : ∃ e, l[i]? = some e := ⟨_, List.getElem?_eq_getElem (by omega)⟩
    refine K.skip <| K.seq <| K.block <| K.seq ?_
    refine K.region ?_
    refine KO.q rfl (q_move rfl) ?_
    refine KO.q rfl (q_assign rfl) ?_
    refine KO.done ?_
    refine K.seq ?_
    refine K.region ?_
    refine KO.q rfl (q_move rfl) ?_
    refine KO.q rfl (q_move rfl) ?_
    refine KO.q rfl (q_move rfl) ?_
    refine KO.q rfl (q_ix i se_31 rfl rfl rfl hA (by repeat (first | exact List.Mem.head _ | apply List.Mem.tail)) rfl (by omega)) ?_
    refine KO.q rfl (q_ldEN ck_39 rfl hA (by repeat (first | exact List.Mem.head _ | apply List.Mem.tail)) he) ?_
    refine KO.loud rfl (OpL.callCG (first := []) (captured := cs) rfl rfl (by repeat (first | exact Give.nil | (apply Give.perI; (repeat (first | exact List.Mem.head _ | apply List.Mem.tail))) | (apply Give.own; (repeat (first | exact Pick.here | apply Pick.there))))) (hf e (List.mem_of_getElem? he))) ?_
    rintro _ _ ⟨_, ⟨rfl, rfl⟩, rfl⟩
    refine KO.done ?_
    refine K.bcond (s := 16) rfl (fun g16 => ?_) (fun g16 => ?_)
    · refine K.seq ?_
      have hr : idxP p l = i := idxP_some he g16 hz
      refine K.region ?_
      refine KO.q rfl (q_move rfl) ?_
      refine KO.q rfl (q_assign rfl) ?_
      refine KO.done ?_
      refine K.ret (fn := Tryz.f90) Tryz.func90 (fun a w hk hs => res1 Tryz.results90 hk rfl) (fun w hs => ?_)
      rw [hr]
      exact ⟨_, [A, R], rfl, ⟨rfl, rfl⟩, hs.fitD⟩
    · refine K.skip <| K.inBlock ?_
      refine K.region ?_
      refine KO.q rfl (q_add rfl rfl (by first | omega | (simp; omega)) (by first | omega | (simp; omega))) ?_
      refine KO.q rfl (q_move rfl) ?_
      refine KO.done ?_
      exact K.weak (by repeat (first | exact Env.sub_nil _ | refine Env.sub_cons rfl ?_)) (fun w h => h.fitD) (ih ⟨i + 1, by omega, by rw [any_take_succ he, hz, g16]; rfl⟩ (by show l.length - (i + 1) < l.length - i; omega))
  · refine K.exit rfl ?_
    refine K.seq ?_
    have hr : idxP p l = -1 := idxP_none (by rw [List.take_of_length_le (by omega)] at hz; exact hz)
    refine K.region ?_
    refine KO.q rfl (q_assign rfl) ?_
    refine KO.done ?_
    refine K.ret (fn := Tryz.f90) Tryz.func90 (fun a w hk hs => res1 Tryz.results90 hk rfl) (fun w hs => ?_)
    rw [hr]
    exact ⟨_, [A, R], rfl, ⟨rfl, rfl⟩, hs.fitD⟩
theorem ixg_oz (A R N : HP) [Pers N] (q : Option Addr) (cap : Nat) (l : List Oz) (hA : IsRow A Kd.oz q l) (f : FuncId) (cs : List Value) (p : Oz → Bool) (hl : (l.length : Int) ≤ 9223372036854775807) (hf : ∀ x ∈ l, Fn Tryz.prog f (Value.agg x.cells.toArray :: cs).toArray [R, N] (fun v post => v = .bool (p x) ∧ post = [R])) :
    Fn Tryz.prog 76 [.slice q l.length cap, .func (.func f) #[] cs.toArray].toArray [A, R, N] (fun r post => r = .int .i64 (idxP p l) ∧ post = [A, R]) := by
  refine Fn.enter (N := 19) Tryz.func76 rfl Tryz.ntmps76 (by kernel_rfl) rfl (fun ρ L => ?_)
  refine K.seq ?_
  refine K.region ?_
  refine KO.q rfl (q_assign rfl) ?_
  refine KO.done ?_
  refine K.seq <| K.seq ?_
  refine K.region ?_
  refine KO.q rfl (q_move rfl) ?_
  refine KO.q rfl (q_len Tryz.underlying22 rfl) ?_
  refine KO.q rfl (q_move rfl) ?_
  refine KO.done ?_
  refine K.block ?_
  refine K.rloop (ι := { i : Nat // i ≤ l.length ∧ (l.take i).any p = false }) (fun x => [(8, .int .i64 x.1), (7, .int .i64 l.length), (0, .slice q l.length cap), (1, .func (.func f) #[] cs.toArray)]) (fun x => l.length - x.1) ⟨0, Nat.zero_le _, rfl⟩ (by repeat (first | exact Env.sub_nil _ | refine Env.sub_cons rfl ?_)) (fun x ih => ?_)
  obtain ⟨i, hi, hz⟩ := x
  dsimp only at hi hz ⊢
  refine K.seq ?_
  refine K.region ?_
  refine KO.q rfl (q_lt rfl rfl) ?_
  refine KO.done ?_
  refine K.seq ?_
  refine K.dcond (s := 9) rfl (fun g9 => ?_) (fun g9 => ?_)
  · obtain ⟨e, he⟩ : ∃ e, l[i]? = some e := ⟨_, List.getElem?_eq_getElem (by omega)⟩
    refine K.skip <| K.seq <| K.block <| K.seq ?_
    refine K.region ?_
    refine KO.q rfl (q_move rfl) ?_
    refine KO.q rfl (q_assign rfl) ?_
    refine KO.done ?_
    refine K.seq ?_
    refine K.region ?_
    refine KO.q rfl (q_move rfl) ?_
    refine KO.q rfl (q_move rfl) ?_
    refine KO.q rfl (q_move rfl) ?_
    refine KO.q rfl (q_ix i se_22 rfl rfl rfl hA (by repeat (first | exact List.Mem.head _ | apply List.Mem.tail)) rfl (by omega)) ?_
    refine KO.q rfl (q_ldEN ck_33 rfl hA (by repeat (first | exact List.Mem.head _ | apply List.Mem.tail)) he) ?_
    refine KO.loud rfl (OpL.callCG (first := []) (captured := cs) rfl rfl (by repeat (first | exact Give.nil | (apply Give.perI; (repeat (first | exact List.Mem.head _ | apply List.Mem.tail))) | (apply Give.own; (repeat (first | exact Pick.here | apply Pick.there))))) (hf e (List.mem_of_getElem? he))) ?_
    rintro _ _ ⟨_, ⟨rfl, rfl⟩, rfl⟩
    refine KO.done ?_
    refine K.bcond (s := 16) rfl (fun g16 => ?_) (fun g16 => ?_)
    · refine K.seq ?_
      have hr : idxP p l = i := idxP_some he g16 hz
      refine K.region ?_
      refine KO.q rfl (q_move rfl) ?_
      refine KO.q rfl (q_assign rfl) ?_
      refine KO.done ?_
      refine K.ret (fn := Tryz.f76) Tryz.func76 (fun a w hk hs => res1 Tryz.results76 hk rfl) (fun w hs => ?_)
      rw [hr]
      exact ⟨_, [A, R], rfl, ⟨rfl, rfl⟩, hs.fitD⟩
    · refine K.skip <| K.inBlock ?_
      refine K.region ?_
      refine KO.q rfl (q_add rfl rfl (by first | omega | (simp; omega)) (by first | omega | (simp; omega))) ?_
      refine KO.q rfl (q_move rfl) ?_
      refine KO.done ?_
      exact K.weak (by repeat (first | exact Env.sub_nil _ | refine Env.sub_cons rfl ?_)) (fun w h => h.fitD) (ih ⟨i + 1, by omega, by rw [any_take_succ he, hz, g16]; rfl⟩ (by show l.length - (i + 1) < l.length - i; omega))
  · refine K.exit rfl ?_
    refine K.seq ?_
    have hr : idxP p l = -1 := idxP_none (by rw [List.take_of_length_le (by omega)] at hz; exact hz)
    refine K.region ?_
    refine KO.q rfl (q_assign rfl) ?_
    refine KO.done ?_
    refine K.ret (fn := Tryz.f76) Tryz.func76 (fun a w hk hs => res1 Tryz.results76 hk rfl) (fun w hs => ?_)
    rw [hr]
    exact ⟨_, [A, R], rfl, ⟨rfl, rfl⟩, hs.fitD⟩
theorem cog_oz (A R N : HP) [Pers N] (q : Option Addr) (cap : Nat) (l : List Oz) (hA : IsRow A Kd.oz q l) (f : FuncId) (cs : List Value) (p : Oz → Bool) (hl : (l.length : Int) ≤ 9223372036854775807) (hf : ∀ x ∈ l, Fn Tryz.prog f (Value.agg x.cells.toArray :: cs).toArray [R, N] (fun v post => v = .bool (p x) ∧ post = [R])) :
    Fn Tryz.prog 105 [.slice q l.length cap, .func (.func f) #[] cs.toArray].toArray [A, R, N] (fun r post => r = .bool (l.any p) ∧ post = [A, R]) := by
  refine Fn.enter (N := 9) Tryz.func105 rfl Tryz.ntmps105 (by kernel_rfl) rfl (fun ρ L => ?_)
  refine K.seq ?_
  refine K.region ?_
  refine KO.q rfl (q_assign rfl) ?_
  refine KO.done ?_
  refine K.seq ?_
  refine K.region ?_
  refine KO.q rfl (q_move rfl) ?_
  refine KO.q rfl (q_move rfl) ?_
  refine KO.loud rfl (OpL.callD rfl (h := ixg_oz A R N q cap l hA f cs p hl hf)) ?_
  rintro _ _ ⟨_, ⟨rfl, rfl⟩, rfl⟩
  refine KO.q rfl (q_ge rfl rfl) ?_
  refine KO.q rfl (q_assign rfl) ?_
  refine KO.done ?_
  refine K.ret (fn := Tryz.f105) Tryz.func105 (fun a w hk hs => res1 Tryz.results105 hk rfl) (fun w hs => ?_)
  exact ⟨_, [A, R], rfl, ⟨by rw [← idxP_any], rfl⟩, hs.fitD⟩
end Go.Proofs.YthnmoiilaaoooaaGreat.L
