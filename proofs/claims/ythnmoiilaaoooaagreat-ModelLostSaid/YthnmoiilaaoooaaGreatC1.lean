/- Walks: comparisons of texts, of numbers, of messages; where something is. -/
import Derived.Test.YthnmoiilaaoooaaGreatPC
namespace Go.Proofs.YthnmoiilaaoooaaGreat.L
open Go Go.Proofs
attribute [local irreducible] pv fv pt fz RowF RowO rowP old pure_ elA
set_option maxRecDepth 100000
set_option linter.unusedSimpArgs false
set_option linter.unusedVariables false

--%kd int (Kd.int .i64)
--%kd api.Msg Kd.msg
--%kd api.Row Kd.rw
--%call cmp.isNaN[string] := nan_str _
theorem nan_str (a : ByteArray) : Fn Tryz.prog 91 [.string a].toArray [] (fun r post => r = .bool false ∧ post = []) := by
  refine Fn.enter (N := 6) Tryz.func91 rfl Tryz.ntmps91 (by kernel_rfl) rfl (fun ρ L => ?_)
  refine K.seq ?_
  refine K.region ?_
  refine KO.q rfl (q_assign rfl) ?_
  refine KO.done ?_
  refine K.seq ?_
  refine K.region ?_
  refine KO.q rfl (q_move rfl) ?_
  refine KO.q rfl (q_move rfl) ?_
  refine KO.q rfl (q_sneF rfl rfl (rfl)) ?_
  refine KO.q rfl (q_assign rfl) ?_
  refine KO.done ?_
  refine K.ret (fn := Tryz.f91) Tryz.func91 (fun a w hk hs => res1 Tryz.results91 hk rfl) (fun w hs => ?_)
  exact ⟨_, [], rfl, ⟨rfl, rfl⟩, hs.fitD⟩
--%call cmp.isNaN[int] := nan_int _
theorem nan_int (a : Int) : Fn Tryz.prog 112 [.int .i64 a].toArray [] (fun r post => r = .bool false ∧ post = []) := by
  refine Fn.enter (N := 6) Tryz.func112 rfl Tryz.ntmps112 (by kernel_rfl) rfl (fun ρ L => ?_)
  refine K.seq ?_
  refine K.region ?_
  refine KO.q rfl (q_assign rfl) ?_
  refine KO.done ?_
  refine K.seq ?_
  refine K.region ?_
  refine KO.q rfl (q_move rfl) ?_
  refine KO.q rfl (q_move rfl) ?_
  refine KO.q rfl (q_neF rfl rfl (rfl)) ?_
  refine KO.q rfl (q_assign rfl) ?_
  refine KO.done ?_
  refine K.ret (fn := Tryz.f112) Tryz.func112 (fun a w hk hs => res1 Tryz.results112 hk rfl) (fun w hs => ?_)
  exact ⟨_, [], rfl, ⟨rfl, rfl⟩, hs.fitD⟩
--%call cmp.Compare[string] := cmp_str _ _
theorem cmp_str (a b : ByteArray) : Fn Tryz.prog 71 [.string a, .string b].toArray [] (fun r post => r = .int .i64 (cmpB a b) ∧ post = []) := by
  refine Fn.enter (N := 20) Tryz.func71 rfl Tryz.ntmps71 (by kernel_rfl) rfl (fun ρ L => ?_)
  refine K.seq ?_
  refine K.region ?_
  refine KO.q rfl (q_assign rfl) ?_
  refine KO.done ?_
  refine K.seq ?_
  refine K.region ?_
  refine KO.q rfl (q_move rfl) ?_
  refine KO.loud rfl (OpL.callD rfl (h := nan_str _)) ?_
  rintro _ _ ⟨_, ⟨rfl, rfl⟩, rfl⟩
  refine KO.q rfl (q_assign rfl) ?_
  refine KO.done ?_
  refine K.seq ?_
  refine K.region ?_
  refine KO.q rfl (q_move rfl) ?_
  refine KO.loud rfl (OpL.callD rfl (h := nan_str _)) ?_
  rintro _ _ ⟨_, ⟨rfl, rfl⟩, rfl⟩
  refine KO.q rfl (q_assign rfl) ?_
  refine KO.done ?_
  refine K.seq <| K.seq ?_
  refine K.region ?_
  refine KO.q rfl (q_move rfl) ?_
  refine KO.done ?_
  refine K.no rfl ?_
  refine K.skip <| K.seq <| K.seq ?_
  refine K.region ?_
  refine KO.q rfl (q_move rfl) ?_
  refine KO.done ?_
  refine K.no rfl ?_
  refine K.skip <| K.seq <| K.seq ?_
  refine K.region ?_
  refine KO.q rfl (q_move rfl) ?_
  refine KO.q rfl (q_move rfl) ?_
  refine KO.q rfl (q_slt rfl rfl) ?_
  refine KO.done ?_
  refine K.bcond (s := 16) rfl (fun g16 => ?_) (fun g16 => ?_)
  · refine K.seq ?_
    refine K.region ?_
    refine KO.q rfl (q_assign rfl) ?_
    refine KO.done ?_
    refine K.ret (fn := Tryz.f71) Tryz.func71 (fun a w hk hs => res1 Tryz.results71 hk rfl) (fun w hs => ?_)
    exact ⟨_, [], rfl, ⟨by rw [cmpB_less]; simp_all, rfl⟩, hs.fitD⟩
  · refine K.skip <| K.seq <| K.seq ?_
    refine K.region ?_
    refine KO.q rfl (q_move rfl) ?_
    refine KO.q rfl (q_move rfl) ?_
    refine KO.q rfl (q_sgt rfl rfl) ?_
    refine KO.done ?_
    refine K.bcond (s := 19) rfl (fun g19 => ?_) (fun g19 => ?_)
    · refine K.seq ?_
      refine K.region ?_
      refine KO.q rfl (q_assign rfl) ?_
      refine KO.done ?_
      refine K.ret (fn := Tryz.f71) Tryz.func71 (fun a w hk hs => res1 Tryz.results71 hk rfl) (fun w hs => ?_)
      exact ⟨_, [], rfl, ⟨by rw [cmpB_less]; simp_all, rfl⟩, hs.fitD⟩
    · refine K.skip <| K.seq ?_
      refine K.region ?_
      refine KO.q rfl (q_assign rfl) ?_
      refine KO.done ?_
      refine K.ret (fn := Tryz.f71) Tryz.func71 (fun a w hk hs => res1 Tryz.results71 hk rfl) (fun w hs => ?_)
      exact ⟨_, [], rfl, ⟨by rw [cmpB_less]; simp_all, rfl⟩, hs.fitD⟩
--%call cmp.Compare[int] := cmp_int _ _
theorem cmp_int (a b : Int) : Fn Tryz.prog 103 [.int .i64 a, .int .i64 b].toArray [] (fun r post => r = .int .i64 (cmpI a b) ∧ post = []) := by
  refine Fn.enter (N := 20) Tryz.func103 rfl Tryz.ntmps103 (by kernel_rfl) rfl (fun ρ L => ?_)
  refine K.seq ?_
  refine K.region ?_
  refine KO.q rfl (q_assign rfl) ?_
  refine KO.done ?_
  refine K.seq ?_
  refine K.region ?_
  refine KO.q rfl (q_move rfl) ?_
  refine KO.loud rfl (OpL.callD rfl (h := nan_int _)) ?_
  rintro _ _ ⟨_, ⟨rfl, rfl⟩, rfl⟩
  refine KO.q rfl (q_assign rfl) ?_
  refine KO.done ?_
  refine K.seq ?_
  refine K.region ?_
  refine KO.q rfl (q_move rfl) ?_
  refine KO.loud rfl (OpL.callD rfl (h := nan_int _)) ?_
  rintro _ _ ⟨_, ⟨rfl, rfl⟩, rfl⟩
  refine KO.q rfl (q_assign rfl) ?_
  refine KO.done ?_
  refine K.seq <| K.seq ?_
  refine K.region ?_
  refine KO.q rfl (q_move rfl) ?_
  refine KO.done ?_
  refine K.no rfl ?_
  refine K.skip <| K.seq <| K.seq ?_
  refine K.region ?_
  refine KO.q rfl (q_move rfl) ?_
  refine KO.done ?_
  refine K.no rfl ?_
  refine K.skip <| K.seq <| K.seq ?_
  refine K.region ?_
  refine KO.q rfl (q_move rfl) ?_
  refine KO.q rfl (q_move rfl) ?_
  refine KO.q rfl (q_lt rfl rfl) ?_
  refine KO.done ?_
  refine K.dcond (s := 16) rfl (fun g16 => ?_) (fun g16 => ?_)
  · refine K.seq ?_
    refine K.region ?_
    refine KO.q rfl (q_assign rfl) ?_
    refine KO.done ?_
    refine K.ret (fn := Tryz.f103) Tryz.func103 (fun a w hk hs => res1 Tryz.results103 hk rfl) (fun w hs => ?_)
    exact ⟨_, [], rfl, ⟨by refine congrArg (Value.int .i64) ?_; unfold cmpI; (repeat' split) <;> omega, rfl⟩, hs.fitD⟩
  · refine K.skip <| K.seq <| K.seq ?_
    refine K.region ?_
    refine KO.q rfl (q_move rfl) ?_
    refine KO.q rfl (q_move rfl) ?_
    refine KO.q rfl (q_gt rfl rfl) ?_
    refine KO.done ?_
    refine K.dcond (s := 19) rfl (fun g19 => ?_) (fun g19 => ?_)
    · refine K.seq ?_
      refine K.region ?_
      refine KO.q rfl (q_assign rfl) ?_
      refine KO.done ?_
      refine K.ret (fn := Tryz.f103) Tryz.func103 (fun a w hk hs => res1 Tryz.results103 hk rfl) (fun w hs => ?_)
      exact ⟨_, [], rfl, ⟨by refine congrArg (Value.int .i64) ?_; unfold cmpI; (repeat' split) <;> omega, rfl⟩, hs.fitD⟩
    · refine K.skip <| K.seq ?_
      refine K.region ?_
      refine KO.q rfl (q_assign rfl) ?_
      refine KO.done ?_
      refine K.ret (fn := Tryz.f103) Tryz.func103 (fun a w hk hs => res1 Tryz.results103 hk rfl) (fun w hs => ?_)
      exact ⟨_, [], rfl, ⟨by refine congrArg (Value.int .i64) ?_; unfold cmpI; (repeat' split) <;> omega, rfl⟩, hs.fitD⟩
--%call poste/order.Keys := ord_Keys _ _
theorem ord_Keys (a b : ByteArray) : Fn Tryz.prog 48 [.string a, .string b].toArray [] (fun r post => r = .int .i64 (cmpB a b) ∧ post = []) := by
  refine Fn.enter (N := 8) Tryz.func48 rfl Tryz.ntmps48 (by kernel_rfl) rfl (fun ρ L => ?_)
  refine K.seq ?_
  refine K.region ?_
  refine KO.q rfl (q_assign rfl) ?_
  refine KO.done ?_
  refine K.seq ?_
  refine K.region ?_
  refine KO.q rfl (q_move rfl) ?_
  refine KO.q rfl (q_move rfl) ?_
  refine KO.loud rfl (OpL.callD rfl (h := cmp_str _ _)) ?_
  rintro _ _ ⟨_, ⟨rfl, rfl⟩, rfl⟩
  refine KO.q rfl (q_assign rfl) ?_
  refine KO.done ?_
  refine K.ret (fn := Tryz.f48) Tryz.func48 (fun a w hk hs => res1 Tryz.results48 hk rfl) (fun w hs => ?_)
  exact ⟨_, [], rfl, ⟨rfl, rfl⟩, hs.fitD⟩
theorem find_nz {xs : List Int} {i : Nat} {v : Int} (hv : xs[i]? = some v) (h : ∀ x ∈ xs.take i, x = 0) (hne : v ≠ 0) : (xs.find? (fun v => decide (v ≠ 0))).getD 0 = v := by
  have e : xs = xs.take i ++ (v :: xs.drop (i + 1)) := by
    obtain ⟨hi, e⟩ := List.getElem?_eq_some_iff.1 hv
    rw [← e, List.getElem_cons_drop hi, List.take_append_drop]
  rw [e, List.find?_append]
  have : (xs.take i).find? (fun v => decide (v ≠ 0)) = none := by
    rw [List.find?_eq_none]; intro x hx; simp [h x hx]
  rw [this]
  simp [hne]
theorem find_nz_none {xs : List Int} (h : ∀ x ∈ xs, x = 0) : (xs.find? (fun v => decide (v ≠ 0))).getD 0 = 0 := by
  have : xs.find? (fun v => decide (v ≠ 0)) = none := by
    rw [List.find?_eq_none]; intro x hx; simp [h x hx]
  rw [this]; rfl
theorem or_int (q : Option Addr) (cap : Nat) (xs : List Int) (hl : (xs.length : Int) ≤ 9223372036854775807) : Fn Tryz.prog 102 [.slice q xs.length cap].toArray [RowF (Kd.int .i64) q xs] (fun r post => r = .int .i64 ((xs.find? (fun v => decide (v ≠ 0))).getD 0) ∧ post = []) := by
  refine Fn.enter (N := 18) Tryz.func102 rfl Tryz.ntmps102 (by kernel_rfl) rfl (fun ρ L => ?_)
  refine K.seq ?_
  refine K.region ?_
  refine KO.q rfl (q_assign rfl) ?_
  refine KO.done ?_
  refine K.seq ?_
  refine K.region ?_
  refine KO.q rfl (q_assign rfl) ?_
  refine KO.done ?_
  refine K.seq <| K.seq ?_
  refine K.region ?_
  refine KO.q rfl (q_move rfl) ?_
  refine KO.q rfl (q_len Tryz.underlying150 rfl) ?_
  refine KO.q rfl (q_move rfl) ?_
  refine KO.done ?_
  refine K.block ?_
  refine K.rloop (ι := { i : Nat // i ≤ xs.length ∧ ∀ x ∈ xs.take i, x = 0 }) (fun x => [(8, .int .i64 x.1), (7, .int .i64 xs.length), (6, .slice q xs.length cap), (3, .int .i64 0)]) (fun x => xs.length - x.1) ⟨0, Nat.zero_le _, by simp⟩ (by repeat (first | exact Env.sub_nil _ | refine Env.sub_cons rfl ?_)) (fun x ih => ?_)
  obtain ⟨i, hi, hz⟩ := x
  dsimp only at hi hz ⊢
  refine K.seq ?_
  refine K.region ?_
  refine KO.q rfl (q_lt rfl rfl) ?_
  refine KO.done ?_
  refine K.seq ?_
  refine K.dcond (s := 9) rfl (fun g9 => ?_) (fun g9 => ?_)
  · obtain ⟨e, he⟩ : ∃ e, xs[i]? = some e := ⟨_, List.getElem?_eq_getElem (by omega)⟩
    refine K.skip <| K.seq <| K.block <| K.seq ?_
    refine K.region ?_
    first | refine KO.q rfl (q_ix _ se_150 rfl rfl rfl isF (by repeat (first | exact List.Mem.head _ | apply List.Mem.tail)) rfl (by first | assumption | omega | exact (List.getElem?_eq_some_iff.1 (by assumption)).1 | (simp; omega))) ?_ | refine KO.q rfl (q_ix _ se_150 rfl rfl rfl isO (by repeat (first | exact List.Mem.head _ | apply List.Mem.tail)) rfl (by first | assumption | omega | exact (List.getElem?_eq_some_iff.1 (by assumption)).1 | (simp; omega))) ?_
    first | refine KO.q rfl (q_ldE ck_3 rfl isF (by repeat (first | exact List.Mem.head _ | apply List.Mem.tail)) (by first | assumption | exact List.getElem?_eq_getElem (by first | assumption | omega | (simp; omega))) rfl) ?_ | refine KO.q rfl (q_ldE ck_3 rfl isO (by repeat (first | exact List.Mem.head _ | apply List.Mem.tail)) (by first | assumption | exact List.getElem?_eq_getElem (by first | assumption | omega | (simp; omega))) rfl) ?_
    refine KO.q rfl (q_assign rfl) ?_
    refine KO.done ?_
    refine K.seq ?_
    refine K.region ?_
    refine KO.q rfl (q_move rfl) ?_
    refine KO.q rfl (q_move rfl) ?_
    refine KO.q rfl (q_ne rfl rfl) ?_
    refine KO.done ?_
    refine K.dcond (s := 14) rfl (fun g14 => ?_) (fun g14 => ?_)
    · have hr := find_nz he hz g14
      rw [hr]
      refine K.seq ?_
      refine K.region ?_
      refine KO.q rfl (q_move rfl) ?_
      refine KO.q rfl (q_assign rfl) ?_
      refine KO.done ?_
      refine K.ret (fn := Tryz.f102) Tryz.func102 (fun a w hk hs => res1 Tryz.results102 hk rfl) (fun w hs => ?_)
      exact ⟨_, [], rfl, ⟨rfl, rfl⟩, hs.fitD⟩
    · refine K.skip <| K.inBlock ?_
      refine K.region ?_
      refine KO.q rfl (q_add rfl rfl (by first | omega | (simp; omega)) (by first | omega | (simp; omega))) ?_
      refine KO.q rfl (q_move rfl) ?_
      refine KO.done ?_
      exact K.subE (by repeat (first | exact Env.sub_nil _ | refine Env.sub_cons rfl ?_)) (ih ⟨i + 1, by omega, fun x hx => by
        rw [List.take_add_one, he] at hx
        rcases List.mem_append.1 hx with h | h
        · exact hz x h
        · rw [List.mem_singleton.1 h]; exact Decidable.not_not.1 g14⟩ (by show xs.length - (i + 1) < xs.length - i; omega))
  · have hr := find_nz_none (xs := xs) (fun x hx => hz x (by rw [List.take_of_length_le (by omega)]; exact hx))
    rw [hr]
    refine K.exit rfl ?_
    refine K.seq ?_
    refine K.region ?_
    refine KO.q rfl (q_move rfl) ?_
    refine KO.q rfl (q_assign rfl) ?_
    refine KO.done ?_
    refine K.ret (fn := Tryz.f102) Tryz.func102 (fun a w hk hs => res1 Tryz.results102 hk rfl) (fun w hs => ?_)
    exact ⟨_, [], rfl, ⟨rfl, rfl⟩, hs.fitD⟩
--%call poste/order.Msgs := ord_Msgs _ _
theorem ord_Msgs (a b : Msg) : Fn Tryz.prog 89 [.agg a.cells.toArray, .agg b.cells.toArray].toArray [] (fun r post => r = .int .i64 (cmpM a b) ∧ post = []) := by
  refine Fn.enter (N := 17) Tryz.func89 rfl Tryz.ntmps89 (by kernel_rfl) rfl (fun ρ L => ?_)
  refine K.seq ?_
  refine K.region ?_
  refine KO.loud rfl (l_box rfl rfl) ?_
  rintro _ _ ⟨b2, rfl, rfl⟩
  refine KO.loud rfl (l_box rfl rfl) ?_
  rintro _ _ ⟨b3, rfl, rfl⟩
  refine KO.q rfl (q_assign rfl) ?_
  refine KO.done ?_
  refine K.seq ?_
  refine K.drawU (by repeat (first | apply SubL.pers | apply SubL.own (b := b2) | apply SubL.own (b := b3) | apply SubL.drop | exact SubL.none)) mixed ?_
  refine D.q 0 rfl (by kernel_rfl) (by kernel_rfl) (q_field fo_39_1 rfl) (fun _ h => h.subD) ?_
  refine D.q 1 rfl (by kernel_rfl) (by kernel_rfl) (q_load1D ck_3 rfl) (fun _ h => h.subD) ?_
  refine D.q 2 rfl (by kernel_rfl) (by kernel_rfl) (q_field fo_39_1 rfl) (fun _ h => h.subD) ?_
  refine D.q 3 rfl (by kernel_rfl) (by kernel_rfl) (q_load1D ck_3 rfl) (fun _ h => h.subD) ?_
  refine D.q 5 rfl (by kernel_rfl) (by kernel_rfl) (q_field fo_39_0 rfl) (fun _ h => h.subD) ?_
  refine D.q 6 rfl (by kernel_rfl) (by kernel_rfl) (q_load1D ck_3 rfl) (fun _ h => h.subD) ?_
  refine D.q 7 rfl (by kernel_rfl) (by kernel_rfl) (q_field fo_39_0 rfl) (fun _ h => h.subD) ?_
  refine D.q 8 rfl (by kernel_rfl) (by kernel_rfl) (q_load1D ck_3 rfl) (fun _ h => h.subD) ?_
  refine D.all (rs := [4]) (by kernel_rfl) rfl (DAll.cons rfl (by kernel_rfl) (OpL.callD rfl (h := cmp_int _ _)) (.inr (by rintro _ _ ⟨_, ⟨rfl, rfl⟩, rfl⟩ w h; exact h.subD)) rfl ?_ DAll.nil)
  rintro _ _ ⟨_, ⟨rfl, rfl⟩, rfl⟩
  refine D.all (rs := [9]) (by kernel_rfl) rfl (DAll.cons rfl (by kernel_rfl) (OpL.callD rfl (h := cmp_int _ _)) (.inr (by rintro _ _ ⟨_, ⟨rfl, rfl⟩, rfl⟩ w h; exact h.subD)) rfl ?_ DAll.nil)
  rintro _ _ ⟨_, ⟨rfl, rfl⟩, rfl⟩
  refine D.all (rs := [10]) (by kernel_rfl) rfl (DAll.cons rfl (by kernel_rfl) (l_slice sz_150_2 rfl (by repeat (first | exact Fill.nil | (apply Fill.cons; rfl; rfl; rfl) | exact SetN.nil | apply SetN.cons | exact SetAt.here | apply SetAt.there))) (.inr (by rintro _ _ ⟨b15, rfl, rfl⟩ w h; exact h.subD)) rfl ?_ DAll.nil)
  rintro _ _ ⟨b15, rfl, rfl⟩
  refine D.st (fun w h => pv_ints [cmpI a.pri b.pri, cmpI a.id b.id] rfl h) ?_
  refine D.all (rs := [11]) (by kernel_rfl) rfl (DAll.cons rfl (by kernel_rfl) (OpL.callE rfl (or_int (some ⟨b15, 0, none⟩) 2 [cmpI a.pri b.pri, cmpI a.id b.id] (by simp))) (.inr (by rintro _ _ ⟨_, ⟨rfl, rfl⟩, rfl⟩ w h; exact h.subD)) rfl ?_ DAll.nil)
  rintro _ _ ⟨_, ⟨rfl, rfl⟩, rfl⟩
  refine D.q 12 rfl (by kernel_rfl) (by kernel_rfl) (q_assign rfl) (fun _ h => h.subD) ?_
  refine D.done (by kernel_rfl) ?_
  refine K.ret (fn := Tryz.f89) Tryz.func89 (fun a w hk hs => res1 Tryz.results89 hk rfl) (fun w hs => ?_)
  refine ⟨_, [], rfl, ⟨?_, rfl⟩, hs.fitD⟩
  refine congrArg (Value.int .i64) ?_
  unfold cmpM cmpI
  (repeat' split) <;> first | omega | (simp_all; done) | (simp_all; omega)
--%call poste/posteref1.Msgs := ref_Msgs _ _
theorem ref_Msgs (a b : Msg) : Fn Tryz.prog 23 [.agg a.cells.toArray, .agg b.cells.toArray].toArray [] (fun r post => r = .int .i64 (cmpM a b) ∧ post = []) := by
  refine Fn.enter (N := 38) Tryz.func23 rfl Tryz.ntmps23 (by kernel_rfl) rfl (fun ρ L => ?_)
  refine K.seq ?_
  refine K.region ?_
  refine KO.loud rfl (l_box rfl rfl) ?_
  rintro _ _ ⟨b2, rfl, rfl⟩
  refine KO.loud rfl (l_box rfl rfl) ?_
  rintro _ _ ⟨b3, rfl, rfl⟩
  refine KO.q rfl (q_assign rfl) ?_
  refine KO.done ?_
  refine K.seq <| K.block <| K.seq ?_
  refine K.region ?_
  refine KO.q rfl (q_field fo_39_1 rfl) ?_
  refine KO.q rfl (q_load1D ck_3 rfl) ?_
  refine KO.q rfl (q_field fo_39_1 rfl) ?_
  refine KO.q rfl (q_load1D ck_3 rfl) ?_
  refine KO.q rfl (q_lt rfl rfl) ?_
  refine KO.q rfl (q_move rfl) ?_
  refine KO.dsplit 11 rfl (fun g11 => ?_) (fun g11 => ?_)
  · refine KO.skip rfl ?_
    refine KO.skip rfl ?_
    refine KO.skip rfl ?_
    refine KO.skip rfl ?_
    refine KO.skip rfl ?_
    refine KO.skip rfl ?_
    refine KO.gone rfl ?_
    refine KO.gone rfl ?_
    refine KO.gone rfl ?_
    refine KO.gone rfl ?_
    refine KO.gone rfl ?_
    refine KO.skip rfl ?_
    refine KO.q rfl (q_pickT rfl rfl) ?_
    refine KO.q rfl (q_assign rfl) ?_
    refine KO.done ?_
    refine K.yes rfl ?_
    refine K.seq ?_
    refine K.region ?_
    refine KO.q rfl (q_assign rfl) ?_
    refine KO.done ?_
    refine K.ret (fn := Tryz.f23) Tryz.func23 (fun a w hk hs => res1 Tryz.results23 hk rfl) (fun w hs => ?_)
    exact ⟨_, [], rfl, ⟨by refine congrArg (Value.int .i64) ?_; unfold cmpM cmpI; (repeat' split) <;> omega, rfl⟩, hs.fitD⟩
  · refine KO.q rfl (q_field fo_39_1 rfl) ?_
    refine KO.q rfl (q_load1D ck_3 rfl) ?_
    refine KO.q rfl (q_field fo_39_1 rfl) ?_
    refine KO.q rfl (q_load1D ck_3 rfl) ?_
    refine KO.q rfl (q_eq rfl rfl) ?_
    refine KO.q rfl (q_move rfl) ?_
    refine KO.dsplit 17 rfl (fun g17 => ?_) (fun g17 => ?_)
    · refine KO.q rfl (q_field fo_39_0 rfl) ?_
      refine KO.q rfl (q_load1D ck_3 rfl) ?_
      refine KO.q rfl (q_field fo_39_0 rfl) ?_
      refine KO.q rfl (q_load1D ck_3 rfl) ?_
      refine KO.q rfl (q_lt rfl rfl) ?_
      refine KO.q rfl (q_pickT rfl rfl) ?_
      refine KO.q rfl (q_pickF rfl rfl) ?_
      refine KO.q rfl (q_assign rfl) ?_
      refine KO.done ?_
      refine K.dcond (s := 5) rfl (fun g5 => ?_) (fun g5 => ?_)
      · refine K.seq ?_
        refine K.region ?_
        refine KO.q rfl (q_assign rfl) ?_
        refine KO.done ?_
        refine K.ret (fn := Tryz.f23) Tryz.func23 (fun a w hk hs => res1 Tryz.results23 hk rfl) (fun w hs => ?_)
        exact ⟨_, [], rfl, ⟨by refine congrArg (Value.int .i64) ?_; unfold cmpM cmpI; (repeat' split) <;> omega, rfl⟩, hs.fitD⟩
      · refine K.seq ?_
        refine K.region ?_
        refine KO.q rfl (q_field fo_39_1 rfl) ?_
        refine KO.q rfl (q_load1D ck_3 rfl) ?_
        refine KO.q rfl (q_field fo_39_1 rfl) ?_
        refine KO.q rfl (q_load1D ck_3 rfl) ?_
        refine KO.q rfl (q_gt rfl rfl) ?_
        refine KO.q rfl (q_move rfl) ?_
        refine KO.dsplit 31 rfl (fun g31 => ?_) (fun g31 => ?_)
        · refine KO.skip rfl ?_
          refine KO.skip rfl ?_
          refine KO.skip rfl ?_
          refine KO.skip rfl ?_
          refine KO.skip rfl ?_
          refine KO.q rfl (q_pickT rfl rfl) ?_
          refine KO.q rfl (q_assign rfl) ?_
          refine KO.done ?_
          refine K.yes rfl ?_
          refine K.seq ?_
          refine K.region ?_
          refine KO.q rfl (q_assign rfl) ?_
          refine KO.done ?_
          refine K.ret (fn := Tryz.f23) Tryz.func23 (fun a w hk hs => res1 Tryz.results23 hk rfl) (fun w hs => ?_)
          exact ⟨_, [], rfl, ⟨by refine congrArg (Value.int .i64) ?_; unfold cmpM cmpI; (repeat' split) <;> omega, rfl⟩, hs.fitD⟩
        · refine KO.q rfl (q_field fo_39_0 rfl) ?_
          refine KO.q rfl (q_load1D ck_3 rfl) ?_
          refine KO.q rfl (q_field fo_39_0 rfl) ?_
          refine KO.q rfl (q_load1D ck_3 rfl) ?_
          refine KO.q rfl (q_gt rfl rfl) ?_
          refine KO.q rfl (q_pickF rfl rfl) ?_
          refine KO.q rfl (q_assign rfl) ?_
          refine KO.done ?_
          refine K.dcond (s := 25) rfl (fun g25 => ?_) (fun g25 => ?_)
          · refine K.seq ?_
            refine K.region ?_
            refine KO.q rfl (q_assign rfl) ?_
            refine KO.done ?_
            refine K.ret (fn := Tryz.f23) Tryz.func23 (fun a w hk hs => res1 Tryz.results23 hk rfl) (fun w hs => ?_)
            exact ⟨_, [], rfl, ⟨by refine congrArg (Value.int .i64) ?_; unfold cmpM cmpI; (repeat' split) <;> omega, rfl⟩, hs.fitD⟩
          · refine K.skip <| K.inBlock <| K.seq ?_
            refine K.region ?_
            refine KO.q rfl (q_assign rfl) ?_
            refine KO.done ?_
            refine K.ret (fn := Tryz.f23) Tryz.func23 (fun a w hk hs => res1 Tryz.results23 hk rfl) (fun w hs => ?_)
            exact ⟨_, [], rfl, ⟨by refine congrArg (Value.int .i64) ?_; unfold cmpM cmpI; (repeat' split) <;> omega, rfl⟩, hs.fitD⟩
    · refine KO.skip rfl ?_
      refine KO.skip rfl ?_
      refine KO.skip rfl ?_
      refine KO.skip rfl ?_
      refine KO.skip rfl ?_
      refine KO.q rfl (q_pickF rfl rfl) ?_
      refine KO.q rfl (q_pickF rfl rfl) ?_
      refine KO.q rfl (q_assign rfl) ?_
      refine KO.done ?_
      refine K.no rfl ?_
      refine K.seq ?_
      refine K.region ?_
      refine KO.q rfl (q_field fo_39_1 rfl) ?_
      refine KO.q rfl (q_load1D ck_3 rfl) ?_
      refine KO.q rfl (q_field fo_39_1 rfl) ?_
      refine KO.q rfl (q_load1D ck_3 rfl) ?_
      refine KO.q rfl (q_gt rfl rfl) ?_
      refine KO.q rfl (q_move rfl) ?_
      refine KO.dsplit 31 rfl (fun g31 => ?_) (fun g31 => ?_)
      · refine KO.skip rfl ?_
        refine KO.skip rfl ?_
        refine KO.skip rfl ?_
        refine KO.skip rfl ?_
        refine KO.skip rfl ?_
        refine KO.q rfl (q_pickT rfl rfl) ?_
        refine KO.q rfl (q_assign rfl) ?_
        refine KO.done ?_
        refine K.yes rfl ?_
        refine K.seq ?_
        refine K.region ?_
        refine KO.q rfl (q_assign rfl) ?_
        refine KO.done ?_
        refine K.ret (fn := Tryz.f23) Tryz.func23 (fun a w hk hs => res1 Tryz.results23 hk rfl) (fun w hs => ?_)
        exact ⟨_, [], rfl, ⟨by refine congrArg (Value.int .i64) ?_; unfold cmpM cmpI; (repeat' split) <;> omega, rfl⟩, hs.fitD⟩
      · refine KO.q rfl (q_field fo_39_0 rfl) ?_
        refine KO.q rfl (q_load1D ck_3 rfl) ?_
        refine KO.q rfl (q_field fo_39_0 rfl) ?_
        refine KO.q rfl (q_load1D ck_3 rfl) ?_
        refine KO.q rfl (q_gt rfl rfl) ?_
        refine KO.q rfl (q_pickF rfl rfl) ?_
        refine KO.q rfl (q_assign rfl) ?_
        refine KO.done ?_
        refine K.dcond (s := 25) rfl (fun g25 => ?_) (fun g25 => ?_)
        · refine K.seq ?_
          refine K.region ?_
          refine KO.q rfl (q_assign rfl) ?_
          refine KO.done ?_
          refine K.ret (fn := Tryz.f23) Tryz.func23 (fun a w hk hs => res1 Tryz.results23 hk rfl) (fun w hs => ?_)
          exact ⟨_, [], rfl, ⟨by refine congrArg (Value.int .i64) ?_; unfold cmpM cmpI; (repeat' split) <;> omega, rfl⟩, hs.fitD⟩
        · refine K.skip <| K.inBlock <| K.seq ?_
          refine K.region ?_
          refine KO.q rfl (q_assign rfl) ?_
          refine KO.done ?_
          refine K.ret (fn := Tryz.f23) Tryz.func23 (fun a w hk hs => res1 Tryz.results23 hk rfl) (fun w hs => ?_)
          exact ⟨_, [], rfl, ⟨by refine congrArg (Value.int .i64) ?_; unfold cmpM cmpI; (repeat' split) <;> omega, rfl⟩, hs.fitD⟩
--%call poste/posteref1.Keys := ref_Keys _ _ (by first | assumption | omega) (by first | assumption | omega)
theorem ref_Keys (a b : ByteArray) (ha : (a.size : Int) ≤ 9223372036854775807) (hb : (b.size : Int) ≤ 9223372036854775807) : Fn Tryz.prog 14 [.string a, .string b].toArray [] (fun r post => r = .int .i64 (cmpB a b) ∧ post = []) := by
  have la := bytesOf_length a
  have lb := bytesOf_length b
  refine Fn.enter (N := 44) Tryz.func14 rfl Tryz.ntmps14 (by kernel_rfl) rfl (fun ρ L => ?_)
  refine K.seq ?_
  refine K.region ?_
  refine KO.q rfl (q_assign rfl) ?_
  refine KO.done ?_
  refine K.seq <| K.seq ?_
  refine K.region ?_
  refine KO.q rfl (q_assign rfl) ?_
  refine KO.done ?_
  refine K.block ?_
  refine K.rloop (ι := { i : Nat // i ≤ a.size ∧ i ≤ b.size ∧ cmpB a b = cmpL ((bytesOf a).drop i) ((bytesOf b).drop i) }) (fun x => [(5, .int .i64 x.1), (0, .string a), (1, .string b)]) (fun x => a.size - x.1) ⟨0, Nat.zero_le _, Nat.zero_le _, rfl⟩ (by repeat (first | exact Env.sub_nil _ | refine Env.sub_cons rfl ?_)) (fun x ih => ?_)
  obtain ⟨i, hi, hi2, hc⟩ := x
  dsimp only at hi hi2 hc ⊢
  refine K.seq <| K.seq ?_
  refine K.region ?_
  refine KO.q rfl (q_move rfl) ?_
  refine KO.q rfl (q_move rfl) ?_
  refine KO.q rfl (q_lenS Tryz.underlying9 rfl) ?_
  refine KO.q rfl (q_lt rfl rfl) ?_
  refine KO.q rfl (q_move rfl) ?_
  refine KO.dsplit 10 rfl (fun g10 => ?_) (fun g10 => ?_)
  · refine KO.q rfl (q_move rfl) ?_
    refine KO.q rfl (q_move rfl) ?_
    refine KO.q rfl (q_lenS Tryz.underlying9 rfl) ?_
    refine KO.q rfl (q_lt rfl rfl) ?_
    refine KO.q rfl (q_pickT rfl rfl) ?_
    refine KO.done ?_
    refine K.dcond (s := 15) rfl (fun g15 => ?_) (fun g15 => ?_)
    · obtain ⟨x, hx⟩ : ∃ e, (bytesOf a)[i]? = some e := ⟨_, List.getElem?_eq_getElem (by omega)⟩
      obtain ⟨y, hy⟩ : ∃ e, (bytesOf b)[i]? = some e := ⟨_, List.getElem?_eq_getElem (by omega)⟩
      have ex : (bytesOf a).drop i = x :: (bytesOf a).drop (i + 1) := by
        obtain ⟨h1, h2⟩ := List.getElem?_eq_some_iff.1 hx
        rw [← h2, List.getElem_cons_drop h1]
      have ey : (bytesOf b).drop i = y :: (bytesOf b).drop (i + 1) := by
        obtain ⟨h1, h2⟩ := List.getElem?_eq_some_iff.1 hy
        rw [← h2, List.getElem_cons_drop h1]
      rw [ex, ey] at hc
      unfold cmpL at hc
      refine K.skip <| K.seq <| K.block <| K.seq <| K.seq ?_
      refine K.draw [] mixed ?_
      refine D.q 0 rfl (by kernel_rfl) (by kernel_rfl) (q_move rfl) (fun _ h => h.nil) ?_
      refine D.q 1 rfl (by kernel_rfl) (by kernel_rfl) (q_move rfl) (fun _ h => h.nil) ?_
      refine D.q 2 rfl (by kernel_rfl) (by kernel_rfl) (q_six Tryz.underlying9 rfl rfl rfl (by assumption)) (fun _ h => h.nil) ?_
      refine D.q 3 rfl (by kernel_rfl) (by kernel_rfl) (q_move rfl) (fun _ h => h.nil) ?_
      refine D.q 4 rfl (by kernel_rfl) (by kernel_rfl) (q_move rfl) (fun _ h => h.nil) ?_
      refine D.q 5 rfl (by kernel_rfl) (by kernel_rfl) (q_six Tryz.underlying9 rfl rfl rfl (by assumption)) (fun _ h => h.nil) ?_
      refine D.q 6 rfl (by kernel_rfl) (by kernel_rfl) (q_lt rfl rfl) (fun _ h => h.nil) ?_
      refine D.done (by kernel_rfl) ?_
      refine K.dcond (s := 24) rfl (fun g24 => ?_) (fun g24 => ?_)
      · refine K.seq ?_
        have hr : cmpB a b = -1 := by rw [hc, if_pos (UInt8.lt_iff_toNat_lt.2 (by omega))]
        refine K.region ?_
        refine KO.q rfl (q_assign rfl) ?_
        refine KO.done ?_
        refine K.ret (fn := Tryz.f14) Tryz.func14 (fun a w hk hs => res1 Tryz.results14 hk rfl) (fun w hs => ?_)
        rw [hr]
        exact ⟨_, [], rfl, ⟨rfl, rfl⟩, hs.fitD⟩
      · refine K.skip <| K.seq ?_
        refine K.draw [] mixed ?_
        refine D.q 0 rfl (by kernel_rfl) (by kernel_rfl) (q_move rfl) (fun _ h => h.nil) ?_
        refine D.q 1 rfl (by kernel_rfl) (by kernel_rfl) (q_move rfl) (fun _ h => h.nil) ?_
        refine D.q 2 rfl (by kernel_rfl) (by kernel_rfl) (q_six Tryz.underlying9 rfl rfl rfl (by assumption)) (fun _ h => h.nil) ?_
        refine D.q 3 rfl (by kernel_rfl) (by kernel_rfl) (q_move rfl) (fun _ h => h.nil) ?_
        refine D.q 4 rfl (by kernel_rfl) (by kernel_rfl) (q_move rfl) (fun _ h => h.nil) ?_
        refine D.q 5 rfl (by kernel_rfl) (by kernel_rfl) (q_six Tryz.underlying9 rfl rfl rfl (by assumption)) (fun _ h => h.nil) ?_
        refine D.q 6 rfl (by kernel_rfl) (by kernel_rfl) (q_gt rfl rfl) (fun _ h => h.nil) ?_
        refine D.done (by kernel_rfl) ?_
        refine K.dcond (s := 31) rfl (fun g31 => ?_) (fun g31 => ?_)
        · refine K.seq ?_
          have hr : cmpB a b = 1 := by rw [hc, if_neg (fun h => g24 (by have := UInt8.lt_iff_toNat_lt.1 h; omega)), if_pos (UInt8.lt_iff_toNat_lt.2 (by omega))]
          refine K.region ?_
          refine KO.q rfl (q_assign rfl) ?_
          refine KO.done ?_
          refine K.ret (fn := Tryz.f14) Tryz.func14 (fun a w hk hs => res1 Tryz.results14 hk rfl) (fun w hs => ?_)
          rw [hr]
          exact ⟨_, [], rfl, ⟨rfl, rfl⟩, hs.fitD⟩
        · refine K.skip <| K.inBlock ?_
          refine K.region ?_
          refine KO.q rfl (q_move rfl) ?_
          refine KO.q rfl (q_add rfl rfl (by first | omega | (simp; omega)) (by first | omega | (simp; omega))) ?_
          refine KO.q rfl (q_assign rfl) ?_
          refine KO.done ?_
          have hr : cmpB a b = cmpL ((bytesOf a).drop (i + 1)) ((bytesOf b).drop (i + 1)) := by rw [hc, if_neg (fun h => g24 (by have := UInt8.lt_iff_toNat_lt.1 h; omega)), if_neg (fun h => g31 (by have := UInt8.lt_iff_toNat_lt.1 h; omega))]
          exact K.subE (by repeat (first | exact Env.sub_nil _ | refine Env.sub_cons rfl ?_)) (ih ⟨i + 1, by omega, by omega, hr⟩ (by show a.size - (i + 1) < a.size - i; omega))
    · refine K.exit rfl ?_
      refine K.seq <| K.block <| K.seq ?_
      refine K.region ?_
      refine KO.q rfl (q_move rfl) ?_
      refine KO.q rfl (q_lenS Tryz.underlying9 rfl) ?_
      refine KO.q rfl (q_move rfl) ?_
      refine KO.q rfl (q_lenS Tryz.underlying9 rfl) ?_
      refine KO.q rfl (q_lt rfl rfl) ?_
      refine KO.q rfl (q_assign rfl) ?_
      refine KO.done ?_
      refine K.dcond (s := 32) rfl (fun g32 => ?_) (fun g32 => ?_)
      · refine K.seq ?_
        have hr : cmpB a b = -1 := by
          rw [hc, List.drop_eq_nil_of_le (by omega : (bytesOf a).length ≤ i)]
          exact cmpL_nilL (fun hd => by have := congrArg List.length hd; simp at this; omega)
        refine K.region ?_
        refine KO.q rfl (q_assign rfl) ?_
        refine KO.done ?_
        refine K.ret (fn := Tryz.f14) Tryz.func14 (fun a w hk hs => res1 Tryz.results14 hk rfl) (fun w hs => ?_)
        rw [hr]
        exact ⟨_, [], rfl, ⟨rfl, rfl⟩, hs.fitD⟩
      · refine K.seq ?_
        refine K.region ?_
        refine KO.q rfl (q_move rfl) ?_
        refine KO.q rfl (q_lenS Tryz.underlying9 rfl) ?_
        refine KO.q rfl (q_move rfl) ?_
        refine KO.q rfl (q_lenS Tryz.underlying9 rfl) ?_
        refine KO.q rfl (q_gt rfl rfl) ?_
        refine KO.q rfl (q_assign rfl) ?_
        refine KO.done ?_
        refine K.dcond (s := 38) rfl (fun g38 => ?_) (fun g38 => ?_)
        · refine K.seq ?_
          have hr : cmpB a b = 1 := by
            rw [hc, List.drop_eq_nil_of_le (by omega : (bytesOf b).length ≤ i)]
            exact cmpL_nilR (fun hd => by have := congrArg List.length hd; simp at this; omega)
          refine K.region ?_
          refine KO.q rfl (q_assign rfl) ?_
          refine KO.done ?_
          refine K.ret (fn := Tryz.f14) Tryz.func14 (fun a w hk hs => res1 Tryz.results14 hk rfl) (fun w hs => ?_)
          rw [hr]
          exact ⟨_, [], rfl, ⟨rfl, rfl⟩, hs.fitD⟩
        · refine K.skip <| K.inBlock <| K.seq ?_
          have hr : cmpB a b = 0 := by
            rw [hc, List.drop_eq_nil_of_le (by omega : (bytesOf b).length ≤ i), List.drop_eq_nil_of_le (by omega : (bytesOf a).length ≤ i)]
            rfl
          refine K.region ?_
          refine KO.q rfl (q_assign rfl) ?_
          refine KO.done ?_
          refine K.ret (fn := Tryz.f14) Tryz.func14 (fun a w hk hs => res1 Tryz.results14 hk rfl) (fun w hs => ?_)
          rw [hr]
          exact ⟨_, [], rfl, ⟨rfl, rfl⟩, hs.fitD⟩
  · refine KO.skip rfl ?_
    refine KO.skip rfl ?_
    refine KO.skip rfl ?_
    refine KO.skip rfl ?_
    refine KO.q rfl (q_pickF rfl rfl) ?_
    refine KO.done ?_
    refine K.no rfl ?_
    refine K.exit rfl ?_
    refine K.seq <| K.block <| K.seq ?_
    refine K.region ?_
    refine KO.q rfl (q_move rfl) ?_
    refine KO.q rfl (q_lenS Tryz.underlying9 rfl) ?_
    refine KO.q rfl (q_move rfl) ?_
    refine KO.q rfl (q_lenS Tryz.underlying9 rfl) ?_
    refine KO.q rfl (q_lt rfl rfl) ?_
    refine KO.q rfl (q_assign rfl) ?_
    refine KO.done ?_
    refine K.dcond (s := 32) rfl (fun g32 => ?_) (fun g32 => ?_)
    · refine K.seq ?_
      have hr : cmpB a b = -1 := by
        rw [hc, List.drop_eq_nil_of_le (by omega : (bytesOf a).length ≤ i)]
        exact cmpL_nilL (fun hd => by have := congrArg List.length hd; simp at this; omega)
      refine K.region ?_
      refine KO.q rfl (q_assign rfl) ?_
      refine KO.done ?_
      refine K.ret (fn := Tryz.f14) Tryz.func14 (fun a w hk hs => res1 Tryz.results14 hk rfl) (fun w hs => ?_)
      rw [hr]
      exact ⟨_, [], rfl, ⟨rfl, rfl⟩, hs.fitD⟩
    · refine K.seq ?_
      refine K.region ?_
      refine KO.q rfl (q_move rfl) ?_
      refine KO.q rfl (q_lenS Tryz.underlying9 rfl) ?_
      refine KO.q rfl (q_move rfl) ?_
      refine KO.q rfl (q_lenS Tryz.underlying9 rfl) ?_
      refine KO.q rfl (q_gt rfl rfl) ?_
      refine KO.q rfl (q_assign rfl) ?_
      refine KO.done ?_
      refine K.dcond (s := 38) rfl (fun g38 => ?_) (fun g38 => ?_)
      · refine K.seq ?_
        have hr : cmpB a b = 1 := by
          rw [hc, List.drop_eq_nil_of_le (by omega : (bytesOf b).length ≤ i)]
          exact cmpL_nilR (fun hd => by have := congrArg List.length hd; simp at this; omega)
        refine K.region ?_
        refine KO.q rfl (q_assign rfl) ?_
        refine KO.done ?_
        refine K.ret (fn := Tryz.f14) Tryz.func14 (fun a w hk hs => res1 Tryz.results14 hk rfl) (fun w hs => ?_)
        rw [hr]
        exact ⟨_, [], rfl, ⟨rfl, rfl⟩, hs.fitD⟩
      · refine K.skip <| K.inBlock <| K.seq ?_
        have hr : cmpB a b = 0 := by
          rw [hc, List.drop_eq_nil_of_le (by omega : (bytesOf b).length ≤ i), List.drop_eq_nil_of_le (by omega : (bytesOf a).length ≤ i)]
          rfl
        refine K.region ?_
        refine KO.q rfl (q_assign rfl) ?_
        refine KO.done ?_
        refine K.ret (fn := Tryz.f14) Tryz.func14 (fun a w hk hs => res1 Tryz.results14 hk rfl) (fun w hs => ?_)
        rw [hr]
        exact ⟨_, [], rfl, ⟨rfl, rfl⟩, hs.fitD⟩
--%call poste/posteref14.FindMsg := ref_FindMsg _ _ _ _ (by first | omega | (simp; omega))
theorem ref_FindMsg (q : Option Addr) (cap : Nat) (l : List Msg) (n : Int) (hl : (l.length : Int) ≤ 9223372036854775807) : Fn Tryz.prog 24 [.slice q l.length cap, .int .i64 n].toArray [RowF Kd.msg q l] (fun r post => r = .int .i64 (idxP (fun m => decide (m.id = n)) l) ∧ post = []) := by
  refine Fn.enter (N := 20) Tryz.func24 rfl Tryz.ntmps24 (by kernel_rfl) rfl (fun ρ L => ?_)
  refine K.seq ?_
  refine K.region ?_
  refine KO.q rfl (q_assign rfl) ?_
  refine KO.done ?_
  refine K.seq <| K.seq ?_
  refine K.region ?_
  refine KO.q rfl (q_assign rfl) ?_
  refine KO.done ?_
  refine K.block ?_
  refine K.rloop (ι := { i : Nat // i ≤ l.length ∧ (l.take i).any (fun m => decide (m.id = n)) = false }) (fun x => [(5, .int .i64 x.1), (0, .slice q l.length cap), (1, .int .i64 n)]) (fun x => l.length - x.1) ⟨0, Nat.zero_le _, rfl⟩ (by repeat (first | exact Env.sub_nil _ | refine Env.sub_cons rfl ?_)) (fun x ih => ?_)
  obtain ⟨i, hi, hz⟩ := x
  dsimp only at hi hz ⊢
  refine K.seq <| K.seq ?_
  refine K.region ?_
  refine KO.q rfl (q_move rfl) ?_
  refine KO.q rfl (q_move rfl) ?_
  refine KO.q rfl (q_len Tryz.underlying31 rfl) ?_
  refine KO.q rfl (q_lt rfl rfl) ?_
  refine KO.done ?_
  refine K.dcond (s := 9) rfl (fun g9 => ?_) (fun g9 => ?_)
  · obtain ⟨e, he⟩ : ∃ e, l[i]? = some e := ⟨_, List.getElem?_eq_getElem (by omega)⟩
    refine K.skip <| K.seq <| K.block <| K.seq ?_
    refine K.region ?_
    refine KO.q rfl (q_move rfl) ?_
    refine KO.q rfl (q_move rfl) ?_
    first | refine KO.q rfl (q_ix _ se_31 rfl rfl rfl isF (by repeat (first | exact List.Mem.head _ | apply List.Mem.tail)) rfl (by first | assumption | omega | exact (List.getElem?_eq_some_iff.1 (by assumption)).1 | (simp; omega))) ?_ | refine KO.q rfl (q_ix _ se_31 rfl rfl rfl isO (by repeat (first | exact List.Mem.head _ | apply List.Mem.tail)) rfl (by first | assumption | omega | exact (List.getElem?_eq_some_iff.1 (by assumption)).1 | (simp; omega))) ?_
    refine KO.q rfl (q_fieldE fo_39_0 rfl) ?_
    first | refine KO.q rfl (q_ldE ck_3 rfl isF (by repeat (first | exact List.Mem.head _ | apply List.Mem.tail)) (by first | assumption | exact List.getElem?_eq_getElem (by first | assumption | omega | (simp; omega))) rfl) ?_ | refine KO.q rfl (q_ldE ck_3 rfl isO (by repeat (first | exact List.Mem.head _ | apply List.Mem.tail)) (by first | assumption | exact List.getElem?_eq_getElem (by first | assumption | omega | (simp; omega))) rfl) ?_
    refine KO.q rfl (q_move rfl) ?_
    refine KO.q rfl (q_eq rfl rfl) ?_
    refine KO.done ?_
    refine K.dcond (s := 18) rfl (fun g18 => ?_) (fun g18 => ?_)
    · refine K.seq ?_
      have hr : idxP (fun m => decide (m.id = n)) l = i := idxP_some he (by simp [*]) hz
      refine K.region ?_
      refine KO.q rfl (q_move rfl) ?_
      refine KO.q rfl (q_assign rfl) ?_
      refine KO.done ?_
      refine K.ret (fn := Tryz.f24) Tryz.func24 (fun a w hk hs => res1 Tryz.results24 hk rfl) (fun w hs => ?_)
      rw [hr]
      exact ⟨_, [], rfl, ⟨rfl, rfl⟩, hs.fitD⟩
    · refine K.skip <| K.inBlock ?_
      refine K.region ?_
      refine KO.q rfl (q_move rfl) ?_
      refine KO.q rfl (q_add rfl rfl (by first | omega | (simp; omega)) (by first | omega | (simp; omega))) ?_
      refine KO.q rfl (q_assign rfl) ?_
      refine KO.done ?_
      exact K.subE (by repeat (first | exact Env.sub_nil _ | refine Env.sub_cons rfl ?_)) (ih ⟨i + 1, by omega, by rw [any_take_succ he, hz]; simp [*]⟩ (by show l.length - (i + 1) < l.length - i; omega))
  · refine K.exit rfl ?_
    refine K.seq ?_
    have hr : idxP (fun m => decide (m.id = n)) l = -1 := idxP_none (by rw [List.take_of_length_le (by omega)] at hz; exact hz)
    refine K.region ?_
    refine KO.q rfl (q_assign rfl) ?_
    refine KO.done ?_
    refine K.ret (fn := Tryz.f24) Tryz.func24 (fun a w hk hs => res1 Tryz.results24 hk rfl) (fun w hs => ?_)
    rw [hr]
    exact ⟨_, [], rfl, ⟨rfl, rfl⟩, hs.fitD⟩
theorem ixf_rw (R : HP) (q : Option Addr) (cap : Nat) (l : List Rw) (f : FuncId) (cs : List Value) (p : Rw → Bool) (hl : (l.length : Int) ≤ 9223372036854775807) (hf : ∀ x ∈ l, Fn Tryz.prog f (Value.agg x.cells.toArray :: cs).toArray [R] (fun v post => v = .bool (p x) ∧ post = [R])) :
    Fn Tryz.prog 88 [.slice q l.length cap, .func (.func f) #[] cs.toArray].toArray [RowF Kd.rw q l, R] (fun r post => r = .int .i64 (idxP p l) ∧ post = [R]) := by
  refine Fn.enter (N := 19) Tryz.func88 rfl Tryz.ntmps88 (by kernel_rfl) rfl (fun ρ L => ?_)
  refine K.seq ?_
  refine K.region ?_
  refine KO.q rfl (q_assign rfl) ?_
  refine KO.done ?_
  refine K.seq <| K.seq ?_
  refine K.region ?_
  refine KO.q rfl (q_move rfl) ?_
  refine KO.q rfl (q_len Tryz.underlying30 rfl) ?_
  refine KO.q rfl (q_move rfl) ?_
  refine KO.done ?_
  refine K.block ?_
  refine K.rloop (ι := { i : Nat // i ≤ l.length ∧ (l.take i).any p = false }) (fun x => [(8, .int .i64 x.1), (7, .int .i64 l.length), (0, .slice q l.length cap), (1, .func (.func f) #[] cs.toArray)]) (fun x => l.length - x.1) ⟨0, Nat.zero_le _, rfl⟩ (by repeat (first | exact Env.sub_nil _ | refine Env.sub_cons rfl ?_)) (fun x ih => ?_)
  obtain ⟨i, hi, hz⟩ := x
  dsimp only at hi hz ⊢
  refine K.seq ?_
  refine K.region ?_
  refine KO.q rfl (q_lt rfl rfl) ?_
  refine KO.done ?_
  refine K.seq ?_
  refine K.dcond (s := 9) rfl (fun g9 => ?_) (fun g9 => ?_)
  · obtain ⟨e, he⟩ : ∃ e, l[i]? = some e := ⟨_, List.getElem?_eq_getElem (by omega)⟩
    refine K.skip <| K.seq <| K.block <| K.seq ?_
    refine K.region ?_
    refine KO.q rfl (q_move rfl) ?_
    refine KO.q rfl (q_assign rfl) ?_
    refine KO.done ?_
    refine K.seq ?_
    refine K.region ?_
    refine KO.q rfl (q_move rfl) ?_
    refine KO.q rfl (q_move rfl) ?_
    refine KO.q rfl (q_move rfl) ?_
    first | refine KO.q rfl (q_ix _ se_30 rfl rfl rfl isF (by repeat (first | exact List.Mem.head _ | apply List.Mem.tail)) rfl (by first | assumption | omega | exact (List.getElem?_eq_some_iff.1 (by assumption)).1 | (simp; omega))) ?_ | refine KO.q rfl (q_ix _ se_30 rfl rfl rfl isO (by repeat (first | exact List.Mem.head _ | apply List.Mem.tail)) rfl (by first | assumption | omega | exact (List.getElem?_eq_some_iff.1 (by assumption)).1 | (simp; omega))) ?_
    first | refine KO.q rfl (q_ldEN ck_29 rfl isF (by repeat (first | exact List.Mem.head _ | apply List.Mem.tail)) (by first | assumption | exact List.getElem?_eq_getElem (by first | assumption | omega | (simp; omega)))) ?_ | refine KO.q rfl (q_ldEN ck_29 rfl isO (by repeat (first | exact List.Mem.head _ | apply List.Mem.tail)) (by first | assumption | exact List.getElem?_eq_getElem (by first | assumption | omega | (simp; omega)))) ?_
    refine KO.loud rfl (OpL.callCG (first := []) (captured := cs) rfl rfl (by repeat (first | exact Give.nil | (apply Give.perI; (repeat (first | exact List.Mem.head _ | apply List.Mem.tail))) | (apply Give.own; (repeat (first | exact Pick.here | apply Pick.there))))) (hf e (List.mem_of_getElem? he))) ?_
    rintro _ _ ⟨_, ⟨rfl, rfl⟩, rfl⟩
    refine KO.done ?_
    refine K.bcond (s := 16) rfl (fun g16 => ?_) (fun g16 => ?_)
    · refine K.seq ?_
      have hr : idxP p l = i := idxP_some he g16 hz
      refine K.region ?_
      refine KO.q rfl (q_move rfl) ?_
      refine KO.q rfl (q_assign rfl) ?_
      refine KO.done ?_
      refine K.ret (fn := Tryz.f88) Tryz.func88 (fun a w hk hs => res1 Tryz.results88 hk rfl) (fun w hs => ?_)
      rw [hr]
      exact ⟨_, [R], rfl, ⟨rfl, rfl⟩, hs.fitD⟩
    · refine K.skip <| K.inBlock ?_
      refine K.region ?_
      refine KO.q rfl (q_add rfl rfl (by first | omega | (simp; omega)) (by first | omega | (simp; omega))) ?_
      refine KO.q rfl (q_move rfl) ?_
      refine KO.done ?_
      exact K.weak (by repeat (first | exact Env.sub_nil _ | refine Env.sub_cons rfl ?_)) (fun w h => h.fitD) (ih ⟨i + 1, by omega, by rw [any_take_succ he, hz, g16]; rfl⟩ (by show l.length - (i + 1) < l.length - i; omega))
  · refine K.exit rfl ?_
    refine K.seq ?_
    have hr : idxP p l = -1 := idxP_none (by rw [List.take_of_length_le (by omega)] at hz; exact hz)
    refine K.region ?_
    refine KO.q rfl (q_assign rfl) ?_
    refine KO.done ?_
    refine K.ret (fn := Tryz.f88) Tryz.func88 (fun a w hk hs => res1 Tryz.results88 hk rfl) (fun w hs => ?_)
    rw [hr]
    exact ⟨_, [R], rfl, ⟨rfl, rfl⟩, hs.fitD⟩
theorem cof_rw (R : HP) (q : Option Addr) (cap : Nat) (l : List Rw) (f : FuncId) (cs : List Value) (p : Rw → Bool) (hl : (l.length : Int) ≤ 9223372036854775807) (hf : ∀ x ∈ l, Fn Tryz.prog f (Value.agg x.cells.toArray :: cs).toArray [R] (fun v post => v = .bool (p x) ∧ post = [R])) :
    Fn Tryz.prog 63 [.slice q l.length cap, .func (.func f) #[] cs.toArray].toArray [RowF Kd.rw q l, R] (fun r post => r = .bool (l.any p) ∧ post = [R]) := by
  refine Fn.enter (N := 9) Tryz.func63 rfl Tryz.ntmps63 (by kernel_rfl) rfl (fun ρ L => ?_)
  refine K.seq ?_
  refine K.region ?_
  refine KO.q rfl (q_assign rfl) ?_
  refine KO.done ?_
  refine K.seq ?_
  refine K.region ?_
  refine KO.q rfl (q_move rfl) ?_
  refine KO.q rfl (q_move rfl) ?_
  refine KO.loud rfl (OpL.callD rfl (h := ixf_rw R q cap l f cs p hl hf)) ?_
  rintro _ _ ⟨_, ⟨rfl, rfl⟩, rfl⟩
  refine KO.q rfl (q_ge rfl rfl) ?_
  refine KO.q rfl (q_assign rfl) ?_
  refine KO.done ?_
  refine K.ret (fn := Tryz.f63) Tryz.func63 (fun a w hk hs => res1 Tryz.results63 hk rfl) (fun w hs => ?_)
  exact ⟨_, [R], rfl, ⟨by rw [← idxP_any], rfl⟩, hs.fitD⟩
theorem ixf_msg (R : HP) (q : Option Addr) (cap : Nat) (l : List Msg) (f : FuncId) (cs : List Value) (p : Msg → Bool) (hl : (l.length : Int) ≤ 9223372036854775807) (hf : ∀ x ∈ l, Fn Tryz.prog f (Value.agg x.cells.toArray :: cs).toArray [R] (fun v post => v = .bool (p x) ∧ post = [R])) :
    Fn Tryz.prog 90 [.slice q l.length cap, .func (.func f) #[] cs.toArray].toArray [RowF Kd.msg q l, R] (fun r post => r = .int .i64 (idxP p l) ∧ post = [R]) := by
  refine Fn.enter (N := 19) Tryz.func90 rfl Tryz.ntmps90 (by kernel_rfl) rfl (fun ρ L => ?_)
  refine K.seq ?_
  refine K.region ?_
  refine KO.q rfl (q_assign rfl) ?_
  refine KO.done ?_
  refine K.seq <| K.seq ?_
  refine K.region ?_
  refine KO.q rfl (q_move rfl) ?_
  refine KO.q rfl (q_len Tryz.underlying31 rfl) ?_
  refine KO.q rfl (q_move rfl) ?_
  refine KO.done ?_
  refine K.block ?_
  refine K.rloop (ι := { i : Nat // i ≤ l.length ∧ (l.take i).any p = false }) (fun x => [(8, .int .i64 x.1), (7, .int .i64 l.length), (0, .slice q l.length cap), (1, .func (.func f) #[] cs.toArray)]) (fun x => l.length - x.1) ⟨0, Nat.zero_le _, rfl⟩ (by repeat (first | exact Env.sub_nil _ | refine Env.sub_cons rfl ?_)) (fun x ih => ?_)
  obtain ⟨i, hi, hz⟩ := x
  dsimp only at hi hz ⊢
  refine K.seq ?_
  refine K.region ?_
  refine KO.q rfl (q_lt rfl rfl) ?_
  refine KO.done ?_
  refine K.seq ?_
  refine K.dcond (s := 9) rfl (fun g9 => ?_) (fun g9 => ?_)
  · obtain ⟨e, he⟩ : ∃ e, l[i]? = some e := ⟨_, List.getElem?_eq_getElem (by omega)⟩
    refine K.skip <| K.seq <| K.block <| K.seq ?_
    refine K.region ?_
    refine KO.q rfl (q_move rfl) ?_
    refine KO.q rfl (q_assign rfl) ?_
    refine KO.done ?_
    refine K.seq ?_
    refine K.region ?_
    refine KO.q rfl (q_move rfl) ?_
    refine KO.q rfl (q_move rfl) ?_
    refine KO.q rfl (q_move rfl) ?_
    first | refine KO.q rfl (q_ix _ se_31 rfl rfl rfl isF (by repeat (first | exact List.Mem.head _ | apply List.Mem.tail)) rfl (by first | assumption | omega | exact (List.getElem?_eq_some_iff.1 (by assumption)).1 | (simp; omega))) ?_ | refine KO.q rfl (q_ix _ se_31 rfl rfl rfl isO (by repeat (first | exact List.Mem.head _ | apply List.Mem.tail)) rfl (by first | assumption | omega | exact (List.getElem?_eq_some_iff.1 (by assumption)).1 | (simp; omega))) ?_
    first | refine KO.q rfl (q_ldEN ck_39 rfl isF (by repeat (first | exact List.Mem.head _ | apply List.Mem.tail)) (by first | assumption | exact List.getElem?_eq_getElem (by first | assumption | omega | (simp; omega)))) ?_ | refine KO.q rfl (q_ldEN ck_39 rfl isO (by repeat (first | exact List.Mem.head _ | apply List.Mem.tail)) (by first | assumption | exact List.getElem?_eq_getElem (by first | assumption | omega | (simp; omega)))) ?_
    refine KO.loud rfl (OpL.callCG (first := []) (captured := cs) rfl rfl (by repeat (first | exact Give.nil | (apply Give.perI; (repeat (first | exact List.Mem.head _ | apply List.Mem.tail))) | (apply Give.own; (repeat (first | exact Pick.here | apply Pick.there))))) (hf e (List.mem_of_getElem? he))) ?_
    rintro _ _ ⟨_, ⟨rfl, rfl⟩, rfl⟩
    refine KO.done ?_
    refine K.bcond (s := 16) rfl (fun g16 => ?_) (fun g16 => ?_)
    · refine K.seq ?_
      have hr : idxP p l = i := idxP_some he g16 hz
      refine K.region ?_
      refine KO.q rfl (q_move rfl) ?_
      refine KO.q rfl (q_assign rfl) ?_
      refine KO.done ?_
      refine K.ret (fn := Tryz.f90) Tryz.func90 (fun a w hk hs => res1 Tryz.results90 hk rfl) (fun w hs => ?_)
      rw [hr]
      exact ⟨_, [R], rfl, ⟨rfl, rfl⟩, hs.fitD⟩
    · refine K.skip <| K.inBlock ?_
      refine K.region ?_
      refine KO.q rfl (q_add rfl rfl (by first | omega | (simp; omega)) (by first | omega | (simp; omega))) ?_
      refine KO.q rfl (q_move rfl) ?_
      refine KO.done ?_
      exact K.weak (by repeat (first | exact Env.sub_nil _ | refine Env.sub_cons rfl ?_)) (fun w h => h.fitD) (ih ⟨i + 1, by omega, by rw [any_take_succ he, hz, g16]; rfl⟩ (by show l.length - (i + 1) < l.length - i; omega))
  · refine K.exit rfl ?_
    refine K.seq ?_
    have hr : idxP p l = -1 := idxP_none (by rw [List.take_of_length_le (by omega)] at hz; exact hz)
    refine K.region ?_
    refine KO.q rfl (q_assign rfl) ?_
    refine KO.done ?_
    refine K.ret (fn := Tryz.f90) Tryz.func90 (fun a w hk hs => res1 Tryz.results90 hk rfl) (fun w hs => ?_)
    rw [hr]
    exact ⟨_, [R], rfl, ⟨rfl, rfl⟩, hs.fitD⟩
theorem cof_msg (R : HP) (q : Option Addr) (cap : Nat) (l : List Msg) (f : FuncId) (cs : List Value) (p : Msg → Bool) (hl : (l.length : Int) ≤ 9223372036854775807) (hf : ∀ x ∈ l, Fn Tryz.prog f (Value.agg x.cells.toArray :: cs).toArray [R] (fun v post => v = .bool (p x) ∧ post = [R])) :
    Fn Tryz.prog 69 [.slice q l.length cap, .func (.func f) #[] cs.toArray].toArray [RowF Kd.msg q l, R] (fun r post => r = .bool (l.any p) ∧ post = [R]) := by
  refine Fn.enter (N := 9) Tryz.func69 rfl Tryz.ntmps69 (by kernel_rfl) rfl (fun ρ L => ?_)
  refine K.seq ?_
  refine K.region ?_
  refine KO.q rfl (q_assign rfl) ?_
  refine KO.done ?_
  refine K.seq ?_
  refine K.region ?_
  refine KO.q rfl (q_move rfl) ?_
  refine KO.q rfl (q_move rfl) ?_
  refine KO.loud rfl (OpL.callD rfl (h := ixf_msg R q cap l f cs p hl hf)) ?_
  rintro _ _ ⟨_, ⟨rfl, rfl⟩, rfl⟩
  refine KO.q rfl (q_ge rfl rfl) ?_
  refine KO.q rfl (q_assign rfl) ?_
  refine KO.done ?_
  refine K.ret (fn := Tryz.f69) Tryz.func69 (fun a w hk hs => res1 Tryz.results69 hk rfl) (fun w hs => ?_)
  exact ⟨_, [R], rfl, ⟨by rw [← idxP_any], rfl⟩, hs.fitD⟩
end Go.Proofs.YthnmoiilaaoooaaGreat.L
