/- Walk: postelaw14.MessageLimits. -/
import Derived.Test.YtlellgnklohclaaM2a
namespace Go.Proofs.Ytlellgnklohclaa.L
open Go Go.Proofs
attribute [local irreducible] pv fv pt fz RowF RowO rowP old pure_
set_option maxRecDepth 100000
set_option linter.unusedSimpArgs false
set_option linter.unusedVariables false
attribute [local irreducible] zeros

set_option maxHeartbeats 1600000 in
theorem law_MessageLimits (which : Int) (over : Bool) : Fn Try.prog 3 [.int .i64 which, .bool over].toArray [] (fun r post => r = .bool true ∧ post = []) := by
  by_cases hout : which < 0 ∨ 6 < which
  · refine Fn.enter (N := 55) Try.func3 rfl Try.ntmps3 (by kernel_rfl) rfl (fun ρ L => ?_)
    repeat (first | refine K.seq ?_ | refine K.skip ?_ | refine K.block ?_ | refine K.inBlock ?_ | refine K.label ?_)
    refine K.region ?_
    refine KO.q rfl (q_assign rfl) ?_
    refine KO.done ?_
    repeat (first | refine K.seq ?_ | refine K.skip ?_ | refine K.block ?_ | refine K.inBlock ?_ | refine K.label ?_)
    repeat (first | refine K.seq ?_ | refine K.skip ?_ | refine K.block ?_ | refine K.inBlock ?_ | refine K.label ?_)
    refine K.region ?_
    refine KO.loud rfl (OpL.call rfl alive14 (by repeat (first | exact Give.nil | (apply Give.perI; (repeat (first | exact List.Mem.head _ | apply List.Mem.tail))) | (apply Give.own; (repeat (first | exact Pick.here | apply Pick.there)))))) ?_
    rintro _ _ ⟨_, ⟨rfl, rfl⟩, rfl⟩
    refine KO.q rfl (q_assign rfl) ?_
    refine KO.done ?_
    repeat (first | refine K.seq ?_ | refine K.skip ?_ | refine K.block ?_ | refine K.inBlock ?_ | refine K.label ?_)
    by_cases h0 : which < 0
    · repeat (first | refine K.seq ?_ | refine K.skip ?_ | refine K.block ?_ | refine K.inBlock ?_ | refine K.label ?_)
      refine K.region ?_
      refine KO.q rfl (q_move rfl) ?_
      refine KO.q rfl (q_not rfl) ?_
      refine KO.q rfl (q_move rfl) ?_
      refine KO.q rfl (q_move rfl) ?_
      refine KO.q rfl (q_lt rfl rfl) ?_
      refine KO.q rfl (q_pickF rfl rfl) ?_
      refine KO.q rfl (q_move rfl) ?_
      refine KO.split 15 rfl (fun _ => ?_) (fun hh => absurd h0 (of_decide_eq_false hh))
      refine KO.skip rfl ?_
      refine KO.skip rfl ?_
      refine KO.q rfl (q_pickT rfl rfl) ?_
      refine KO.done ?_
      repeat (first | refine K.seq ?_ | refine K.skip ?_ | refine K.block ?_ | refine K.inBlock ?_ | refine K.label ?_)
      refine K.yes rfl ?_
      repeat (first | refine K.seq ?_ | refine K.skip ?_ | refine K.block ?_ | refine K.inBlock ?_ | refine K.label ?_)
      refine K.region ?_
      refine KO.q rfl (q_move rfl) ?_
      refine KO.q rfl (q_assign rfl) ?_
      refine KO.done ?_
      repeat (first | refine K.seq ?_ | refine K.skip ?_ | refine K.block ?_ | refine K.inBlock ?_ | refine K.label ?_)
      refine K.ret (fn := Try.f3) Try.func3 (fun a w hk hs => res1 Try.results3 hk rfl) (fun w hs => ?_)
      exact ⟨_, [], rfl, ⟨rfl, rfl⟩, hs.fit (by repeat (first | exact Give.nil | (apply Give.perI; (repeat (first | exact List.Mem.head _ | apply List.Mem.tail))) | (apply Give.own; (repeat (first | exact Pick.here | apply Pick.there))))) (by repeat (first | exact Drop.refl | apply Drop.skip))⟩
    · have h1 : 6 < which := by omega
      repeat (first | refine K.seq ?_ | refine K.skip ?_ | refine K.block ?_ | refine K.inBlock ?_ | refine K.label ?_)
      refine K.region ?_
      refine KO.q rfl (q_move rfl) ?_
      refine KO.q rfl (q_not rfl) ?_
      refine KO.q rfl (q_move rfl) ?_
      refine KO.q rfl (q_move rfl) ?_
      refine KO.q rfl (q_lt rfl rfl) ?_
      refine KO.q rfl (q_pickF rfl rfl) ?_
      refine KO.q rfl (q_move rfl) ?_
      refine KO.split 15 rfl (fun hh => absurd (of_decide_eq_true hh) h0) (fun _ => ?_)
      refine KO.q rfl (q_move rfl) ?_
      refine KO.q rfl (q_gt rfl rfl) ?_
      refine KO.q rfl (q_pickF rfl rfl) ?_
      refine KO.done ?_
      repeat (first | refine K.seq ?_ | refine K.skip ?_ | refine K.block ?_ | refine K.inBlock ?_ | refine K.label ?_)
      refine K.dite rfl (fun _ => ?_) (fun hh => absurd h1 hh)
      repeat (first | refine K.seq ?_ | refine K.skip ?_ | refine K.block ?_ | refine K.inBlock ?_ | refine K.label ?_)
      refine K.region ?_
      refine KO.q rfl (q_move rfl) ?_
      refine KO.q rfl (q_assign rfl) ?_
      refine KO.done ?_
      repeat (first | refine K.seq ?_ | refine K.skip ?_ | refine K.block ?_ | refine K.inBlock ?_ | refine K.label ?_)
      refine K.ret (fn := Try.f3) Try.func3 (fun a w hk hs => res1 Try.results3 hk rfl) (fun w hs => ?_)
      exact ⟨_, [], rfl, ⟨rfl, rfl⟩, hs.fit (by repeat (first | exact Give.nil | (apply Give.perI; (repeat (first | exact List.Mem.head _ | apply List.Mem.tail))) | (apply Give.own; (repeat (first | exact Pick.here | apply Pick.there))))) (by repeat (first | exact Drop.refl | apply Drop.skip))⟩
  · have h0 : ¬ which < 0 := by omega
    have h1 : ¬ 6 < which := by omega
    clear hout
    refine Fn.enter (N := 55) Try.func3 rfl Try.ntmps3 (by kernel_rfl) rfl (fun ρ L => ?_)
    repeat (first | refine K.seq ?_ | refine K.skip ?_ | refine K.block ?_ | refine K.inBlock ?_ | refine K.label ?_)
    refine K.region ?_
    refine KO.q rfl (q_assign rfl) ?_
    refine KO.done ?_
    repeat (first | refine K.seq ?_ | refine K.skip ?_ | refine K.block ?_ | refine K.inBlock ?_ | refine K.label ?_)
    repeat (first | refine K.seq ?_ | refine K.skip ?_ | refine K.block ?_ | refine K.inBlock ?_ | refine K.label ?_)
    refine K.region ?_
    refine KO.loud rfl (OpL.call rfl alive14 (by repeat (first | exact Give.nil | (apply Give.perI; (repeat (first | exact List.Mem.head _ | apply List.Mem.tail))) | (apply Give.own; (repeat (first | exact Pick.here | apply Pick.there)))))) ?_
    rintro _ _ ⟨_, ⟨rfl, rfl⟩, rfl⟩
    refine KO.q rfl (q_assign rfl) ?_
    refine KO.done ?_
    repeat (first | refine K.seq ?_ | refine K.skip ?_ | refine K.block ?_ | refine K.inBlock ?_ | refine K.label ?_)
    rename_i L2
    repeat (first | refine K.seq ?_ | refine K.skip ?_ | refine K.block ?_ | refine K.inBlock ?_ | refine K.label ?_)
    refine K.region ?_
    refine KO.q rfl (q_move rfl) ?_
    refine KO.q rfl (q_not rfl) ?_
    refine KO.q rfl (q_move rfl) ?_
    refine KO.q rfl (q_move rfl) ?_
    refine KO.q rfl (q_lt rfl rfl) ?_
    refine KO.q rfl (q_pickF rfl rfl) ?_
    refine KO.q rfl (q_move rfl) ?_
    refine KO.split 15 rfl (fun hh => absurd (of_decide_eq_true hh) h0) (fun _ => ?_)
    refine KO.q rfl (q_move rfl) ?_
    refine KO.q rfl (q_gt rfl rfl) ?_
    refine KO.q rfl (q_pickF rfl rfl) ?_
    refine KO.done ?_
    repeat (first | refine K.seq ?_ | refine K.skip ?_ | refine K.block ?_ | refine K.inBlock ?_ | refine K.label ?_)
    refine K.dite rfl (fun hh => absurd hh h1) (fun _ => ?_)
    repeat (first | refine K.seq ?_ | refine K.skip ?_ | refine K.block ?_ | refine K.inBlock ?_ | refine K.label ?_)
    refine K.region ?_
    refine KO.q rfl (q_assign rfl) ?_
    refine KO.done ?_
    repeat (first | refine K.seq ?_ | refine K.skip ?_ | refine K.block ?_ | refine K.inBlock ?_ | refine K.label ?_)
    cases over with
    | false =>
      repeat (first | refine K.seq ?_ | refine K.skip ?_ | refine K.block ?_ | refine K.inBlock ?_ | refine K.label ?_)
      refine K.region ?_
      refine KO.q rfl (q_move rfl) ?_
      refine KO.done ?_
      repeat (first | refine K.seq ?_ | refine K.skip ?_ | refine K.block ?_ | refine K.inBlock ?_ | refine K.label ?_)
      refine K.no rfl ?_
      repeat (first | refine K.seq ?_ | refine K.skip ?_ | refine K.block ?_ | refine K.inBlock ?_ | refine K.label ?_)
      refine K.via (ι := Nat) (fun b => ([(7, .slice (some ⟨b, 0, none⟩) 7 7), (0, .int .i64 which), (1, .bool false)], [RowF Kd.msg (some ⟨b, 0, none⟩) (lims 0 (zeros 40) (zeros 100))] ++ L2)) (fun b => ?_) (fun cont => ?_)
      · obtain ⟨x, hx⟩ : ∃ x, (lims 0 (zeros 40) (zeros 100))[which.toNat]? = some x := ⟨_, List.getElem?_eq_getElem (show which.toNat < 7 by omega)⟩
        repeat (first | refine K.seq ?_ | refine K.skip ?_ | refine K.block ?_ | refine K.inBlock ?_ | refine K.label ?_)
        refine K.region ?_
        refine KO.q rfl (q_move rfl) ?_
        refine KO.q rfl (q_move rfl) ?_
        refine KO.q rfl (q_index se_26 rfl rfl (by first | omega | (simp; omega)) (by first | omega | (simp; omega))) ?_
        refine KO.q rfl (q_loadN ck_24 rfl rfl (rowF_cells (by repeat (first | exact List.Mem.head _ | apply List.Mem.tail)) hx)) ?_
        refine KO.loud rfl (OpL.call rfl (msg_Right x) (by repeat (first | exact Give.nil | (apply Give.perI; (repeat (first | exact List.Mem.head _ | apply List.Mem.tail))) | (apply Give.own; (repeat (first | exact Pick.here | apply Pick.there)))))) ?_
        rintro _ _ ⟨_, ⟨rfl, rfl⟩, rfl⟩
        refine KO.q rfl (q_move rfl) ?_
        refine KO.q rfl (q_not rfl) ?_
        refine KO.q rfl (q_beq Try.underlying4 rfl rfl) ?_
        refine KO.q rfl (q_assign rfl) ?_
        refine KO.done ?_
        repeat (first | refine K.seq ?_ | refine K.skip ?_ | refine K.block ?_ | refine K.inBlock ?_ | refine K.label ?_)
        refine K.ret (fn := Try.f3) Try.func3 (fun a w hk hs => res1 Try.results3 hk rfl) (fun w hs => ?_)
        exact ⟨_, [], rfl, ⟨congrArg Value.bool (lims_right0 which.toNat x hx), rfl⟩, hs.fit (by repeat (first | exact Give.nil | (apply Give.perI; (repeat (first | exact List.Mem.head _ | apply List.Mem.tail))) | (apply Give.own; (repeat (first | exact Pick.here | apply Pick.there))))) (by repeat (first | exact Drop.refl | apply Drop.skip))⟩
      · repeat (first | refine K.seq ?_ | refine K.skip ?_ | refine K.block ?_ | refine K.inBlock ?_ | refine K.label ?_)
        refine K.draw [] mixed ?_
        refine D.q 0 rfl (by kernel_rfl) (by kernel_rfl) (q_move rfl) (fun _ h => h.nil) ?_
        refine D.q 1 rfl (by kernel_rfl) (by kernel_rfl) (q_add rfl rfl (by first | omega | (simp; omega)) (by first | omega | (simp; omega))) (fun _ h => h.nil) ?_
        refine D.q 2 rfl (by kernel_rfl) (by kernel_rfl) (q_build st_24 rfl (by repeat (first | exact Fill.nil | (apply Fill.cons; rfl; rfl; rfl) | exact SetN.nil | apply SetN.cons | exact SetAt.here | apply SetAt.there))) (fun _ h => h.nil) ?_
        refine D.q 3 rfl (by kernel_rfl) (by kernel_rfl) (q_move rfl) (fun _ h => h.nil) ?_
        refine D.q 4 rfl (by kernel_rfl) (by kernel_rfl) (q_sub rfl rfl (by first | omega | (simp; omega)) (by first | omega | (simp; omega))) (fun _ h => h.nil) ?_
        refine D.q 5 rfl (by kernel_rfl) (by kernel_rfl) (q_build st_24 rfl (by repeat (first | exact Fill.nil | (apply Fill.cons; rfl; rfl; rfl) | exact SetN.nil | apply SetN.cons | exact SetAt.here | apply SetAt.there))) (fun _ h => h.nil) ?_
        refine D.q 6 rfl (by kernel_rfl) (by kernel_rfl) (q_move rfl) (fun _ h => h.nil) ?_
        refine D.q 7 rfl (by kernel_rfl) (by kernel_rfl) (q_add rfl rfl (by first | omega | (simp; omega)) (by first | omega | (simp; omega))) (fun _ h => h.nil) ?_
        refine D.q 8 rfl (by kernel_rfl) (by kernel_rfl) (q_build st_24 rfl (by repeat (first | exact Fill.nil | (apply Fill.cons; rfl; rfl; rfl) | exact SetN.nil | apply SetN.cons | exact SetAt.here | apply SetAt.there))) (fun _ h => h.nil) ?_
        refine D.q 9 rfl (by kernel_rfl) (by kernel_rfl) (q_move rfl) (fun _ h => h.nil) ?_
        refine D.q 10 rfl (by kernel_rfl) (by kernel_rfl) (q_sub rfl rfl (by first | omega | (simp; omega)) (by first | omega | (simp; omega))) (fun _ h => h.nil) ?_
        refine D.q 11 rfl (by kernel_rfl) (by kernel_rfl) (q_build st_24 rfl (by repeat (first | exact Fill.nil | (apply Fill.cons; rfl; rfl; rfl) | exact SetN.nil | apply SetN.cons | exact SetAt.here | apply SetAt.there))) (fun _ h => h.nil) ?_
        refine D.q 12 rfl (by kernel_rfl) (by kernel_rfl) (q_move rfl) (fun _ h => h.nil) ?_
        refine D.q 13 rfl (by kernel_rfl) (by kernel_rfl) (q_add rfl rfl (by first | omega | (simp; omega)) (by first | omega | (simp; omega))) (fun _ h => h.nil) ?_
        refine D.q 14 rfl (by kernel_rfl) (by kernel_rfl) (q_build st_24 rfl (by repeat (first | exact Fill.nil | (apply Fill.cons; rfl; rfl; rfl) | exact SetN.nil | apply SetN.cons | exact SetAt.here | apply SetAt.there))) (fun _ h => h.nil) ?_
        refine D.q 15 rfl (by kernel_rfl) (by kernel_rfl) (q_move rfl) (fun _ h => h.nil) ?_
        refine D.q 16 rfl (by kernel_rfl) (by kernel_rfl) (q_add rfl rfl (by first | omega | (simp; omega)) (by first | omega | (simp; omega))) (fun _ h => h.nil) ?_
        refine D.q 20 rfl (by kernel_rfl) (by kernel_rfl) (q_move rfl) (fun _ h => h.nil) ?_
        refine D.q 21 rfl (by kernel_rfl) (by kernel_rfl) (q_add rfl rfl (by first | omega | (simp; omega)) (by first | omega | (simp; omega))) (fun _ h => h.nil) ?_
        refine D.all (rs := [17, 22]) (by kernel_rfl) rfl (DAll.cons rfl (by kernel_rfl) (l_make Kd.u8 (0 : UInt8) (m := 40) se_25 ze_5 rfl (fun g => rfl) rfl rfl (by omega) (by omega)) (.inr (fun _ _ _ _ h => h.nil)) rfl ?_ (DAll.cons rfl (by kernel_rfl) (l_make Kd.u8 (0 : UInt8) (m := 100) se_25 ze_5 rfl (fun g => rfl) rfl rfl (by omega) (by omega)) (.inr (fun _ _ _ _ h => h.nil)) rfl ?_ DAll.nil))
        · rintro _ _ ⟨q1, rfl, rfl⟩
          refine D.all (rs := [18, 22]) (by kernel_rfl) rfl (DAll.cons rfl (by kernel_rfl) (OpQ.loud (q_zeros (e2 := 5) Try.underlying25 Try.underlying5 Try.underlying9 rfl (by repeat (first | exact List.Mem.head _ | apply List.Mem.tail)))) (.inr (fun _ _ _ _ h => h.nil)) rfl ?_ (DAll.cons rfl (by kernel_rfl) (l_make Kd.u8 (0 : UInt8) (m := 100) se_25 ze_5 rfl (fun g => rfl) rfl rfl (by omega) (by omega)) (.inr (fun _ _ _ _ h => h.nil)) rfl ?_ DAll.nil))
          · rintro _ _ ⟨rfl, rfl⟩
            refine D.q 19 rfl (by kernel_rfl) (by kernel_rfl) (q_build st_24 rfl (by repeat (first | exact Fill.nil | (apply Fill.cons; rfl; rfl; rfl) | exact SetN.nil | apply SetN.cons | exact SetAt.here | apply SetAt.there))) (fun _ h => h.nil) ?_
            refine D.all (rs := [22]) (by kernel_rfl) rfl (DAll.cons rfl (by kernel_rfl) (l_make Kd.u8 (0 : UInt8) (m := 100) se_25 ze_5 rfl (fun g => rfl) rfl rfl (by omega) (by omega)) (.inr (fun _ _ _ _ h => h.nil)) rfl ?_ DAll.nil)
            rintro _ _ ⟨q2, rfl, rfl⟩
            refine D.all (rs := [23]) (by kernel_rfl) rfl (DAll.cons rfl (by kernel_rfl) (OpQ.loud (q_zeros (e2 := 5) Try.underlying25 Try.underlying5 Try.underlying9 rfl (by repeat (first | exact List.Mem.head _ | apply List.Mem.tail)))) (.inr (fun _ _ _ _ h => h.nil)) rfl ?_ DAll.nil)
            rintro _ _ ⟨rfl, rfl⟩
            refine D.q 24 rfl (by kernel_rfl) (by kernel_rfl) (q_build st_24 rfl (by repeat (first | exact Fill.nil | (apply Fill.cons; rfl; rfl; rfl) | exact SetN.nil | apply SetN.cons | exact SetAt.here | apply SetAt.there))) (fun _ h => h.nil) ?_
            refine D.all (rs := [25]) (by kernel_rfl) rfl (DAll.cons rfl (by kernel_rfl) (l_slice sz_26_7 rfl (by repeat (first | exact Fill.nil | (apply Fill.cons; rfl; rfl; rfl) | exact SetN.nil | apply SetN.cons | exact SetAt.here | apply SetAt.there))) (.inr (fun _ _ _ _ h => h.nil)) rfl ?_ DAll.nil)
            rintro _ _ ⟨b46, rfl, rfl⟩
            refine D.q 26 rfl (by kernel_rfl) (by kernel_rfl) (q_assign rfl) (fun _ h => h.nil) ?_
            refine D.done (by kernel_rfl) ?_
            refine K.weak ?_ ?_ (cont b46)
            · exact (by repeat (first | exact Env.sub_nil _ | refine Env.sub_cons rfl ?_))
            · exact fun w h => (pv_lims 0 (zeros 40) (zeros 100) h).fit (by repeat (first | exact Give.nil | (apply Give.perI; (repeat (first | exact List.Mem.head _ | apply List.Mem.tail))) | (apply Give.own; (repeat (first | exact Pick.here | apply Pick.there))))) (by repeat (first | exact Drop.refl | apply Drop.skip))
          · rintro _ _ ⟨q2, rfl, rfl⟩
            refine D.all (rs := [18, 23]) (by kernel_rfl) rfl (DAll.cons rfl (by kernel_rfl) (OpQ.loud (q_zeros (e2 := 5) Try.underlying25 Try.underlying5 Try.underlying9 rfl (by repeat (first | exact List.Mem.head _ | apply List.Mem.tail)))) (.inr (fun _ _ _ _ h => h.nil)) rfl ?_ (DAll.cons rfl (by kernel_rfl) (OpQ.loud (q_zeros (e2 := 5) Try.underlying25 Try.underlying5 Try.underlying9 rfl (by repeat (first | exact List.Mem.head _ | apply List.Mem.tail)))) (.inr (fun _ _ _ _ h => h.nil)) rfl ?_ DAll.nil))
            · rintro _ _ ⟨rfl, rfl⟩
              refine D.q 19 rfl (by kernel_rfl) (by kernel_rfl) (q_build st_24 rfl (by repeat (first | exact Fill.nil | (apply Fill.cons; rfl; rfl; rfl) | exact SetN.nil | apply SetN.cons | exact SetAt.here | apply SetAt.there))) (fun _ h => h.nil) ?_
              refine D.all (rs := [23]) (by kernel_rfl) rfl (DAll.cons rfl (by kernel_rfl) (OpQ.loud (q_zeros (e2 := 5) Try.underlying25 Try.underlying5 Try.underlying9 rfl (by repeat (first | exact List.Mem.head _ | apply List.Mem.tail)))) (.inr (fun _ _ _ _ h => h.nil)) rfl ?_ DAll.nil)
              rintro _ _ ⟨rfl, rfl⟩
              refine D.q 24 rfl (by kernel_rfl) (by kernel_rfl) (q_build st_24 rfl (by repeat (first | exact Fill.nil | (apply Fill.cons; rfl; rfl; rfl) | exact SetN.nil | apply SetN.cons | exact SetAt.here | apply SetAt.there))) (fun _ h => h.nil) ?_
              refine D.all (rs := [25]) (by kernel_rfl) rfl (DAll.cons rfl (by kernel_rfl) (l_slice sz_26_7 rfl (by repeat (first | exact Fill.nil | (apply Fill.cons; rfl; rfl; rfl) | exact SetN.nil | apply SetN.cons | exact SetAt.here | apply SetAt.there))) (.inr (fun _ _ _ _ h => h.nil)) rfl ?_ DAll.nil)
              rintro _ _ ⟨b46, rfl, rfl⟩
              refine D.q 26 rfl (by kernel_rfl) (by kernel_rfl) (q_assign rfl) (fun _ h => h.nil) ?_
              refine D.done (by kernel_rfl) ?_
              refine K.weak ?_ ?_ (cont b46)
              · exact (by repeat (first | exact Env.sub_nil _ | refine Env.sub_cons rfl ?_))
              · exact fun w h => (pv_lims 0 (zeros 40) (zeros 100) h).fit (by repeat (first | exact Give.nil | (apply Give.perI; (repeat (first | exact List.Mem.head _ | apply List.Mem.tail))) | (apply Give.own; (repeat (first | exact Pick.here | apply Pick.there))))) (by repeat (first | exact Drop.refl | apply Drop.skip))
            · rintro _ _ ⟨rfl, rfl⟩
              refine D.q 24 rfl (by kernel_rfl) (by kernel_rfl) (q_build st_24 rfl (by repeat (first | exact Fill.nil | (apply Fill.cons; rfl; rfl; rfl) | exact SetN.nil | apply SetN.cons | exact SetAt.here | apply SetAt.there))) (fun _ h => h.nil) ?_
              refine D.all (rs := [18]) (by kernel_rfl) rfl (DAll.cons rfl (by kernel_rfl) (OpQ.loud (q_zeros (e2 := 5) Try.underlying25 Try.underlying5 Try.underlying9 rfl (by repeat (first | exact List.Mem.head _ | apply List.Mem.tail)))) (.inr (fun _ _ _ _ h => h.nil)) rfl ?_ DAll.nil)
              rintro _ _ ⟨rfl, rfl⟩
              refine D.q 19 rfl (by kernel_rfl) (by kernel_rfl) (q_build st_24 rfl (by repeat (first | exact Fill.nil | (apply Fill.cons; rfl; rfl; rfl) | exact SetN.nil | apply SetN.cons | exact SetAt.here | apply SetAt.there))) (fun _ h => h.nil) ?_
              refine D.all (rs := [25]) (by kernel_rfl) rfl (DAll.cons rfl (by kernel_rfl) (l_slice sz_26_7 rfl (by repeat (first | exact Fill.nil | (apply Fill.cons; rfl; rfl; rfl) | exact SetN.nil | apply SetN.cons | exact SetAt.here | apply SetAt.there))) (.inr (fun _ _ _ _ h => h.nil)) rfl ?_ DAll.nil)
              rintro _ _ ⟨b46, rfl, rfl⟩
              refine D.q 26 rfl (by kernel_rfl) (by kernel_rfl) (q_assign rfl) (fun _ h => h.nil) ?_
              refine D.done (by kernel_rfl) ?_
              refine K.weak ?_ ?_ (cont b46)
              · exact (by repeat (first | exact Env.sub_nil _ | refine Env.sub_cons rfl ?_))
              · exact fun w h => (pv_lims 0 (zeros 40) (zeros 100) h).fit (by repeat (first | exact Give.nil | (apply Give.perI; (repeat (first | exact List.Mem.head _ | apply List.Mem.tail))) | (apply Give.own; (repeat (first | exact Pick.here | apply Pick.there))))) (by repeat (first | exact Drop.refl | apply Drop.skip))
        · rintro _ _ ⟨q2, rfl, rfl⟩
          refine D.all (rs := [17, 23]) (by kernel_rfl) rfl (DAll.cons rfl (by kernel_rfl) (l_make Kd.u8 (0 : UInt8) (m := 40) se_25 ze_5 rfl (fun g => rfl) rfl rfl (by omega) (by omega)) (.inr (fun _ _ _ _ h => h.nil)) rfl ?_ (DAll.cons rfl (by kernel_rfl) (OpQ.loud (q_zeros (e2 := 5) Try.underlying25 Try.underlying5 Try.underlying9 rfl (by repeat (first | exact List.Mem.head _ | apply List.Mem.tail)))) (.inr (fun _ _ _ _ h => h.nil)) rfl ?_ DAll.nil))
          · rintro _ _ ⟨q1, rfl, rfl⟩
            refine D.all (rs := [18, 23]) (by kernel_rfl) rfl (DAll.cons rfl (by kernel_rfl) (OpQ.loud (q_zeros (e2 := 5) Try.underlying25 Try.underlying5 Try.underlying9 rfl (by repeat (first | exact List.Mem.head _ | apply List.Mem.tail)))) (.inr (fun _ _ _ _ h => h.nil)) rfl ?_ (DAll.cons rfl (by kernel_rfl) (OpQ.loud (q_zeros (e2 := 5) Try.underlying25 Try.underlying5 Try.underlying9 rfl (by repeat (first | exact List.Mem.head _ | apply List.Mem.tail)))) (.inr (fun _ _ _ _ h => h.nil)) rfl ?_ DAll.nil))
            · rintro _ _ ⟨rfl, rfl⟩
              refine D.q 19 rfl (by kernel_rfl) (by kernel_rfl) (q_build st_24 rfl (by repeat (first | exact Fill.nil | (apply Fill.cons; rfl; rfl; rfl) | exact SetN.nil | apply SetN.cons | exact SetAt.here | apply SetAt.there))) (fun _ h => h.nil) ?_
              refine D.all (rs := [23]) (by kernel_rfl) rfl (DAll.cons rfl (by kernel_rfl) (OpQ.loud (q_zeros (e2 := 5) Try.underlying25 Try.underlying5 Try.underlying9 rfl (by repeat (first | exact List.Mem.head _ | apply List.Mem.tail)))) (.inr (fun _ _ _ _ h => h.nil)) rfl ?_ DAll.nil)
              rintro _ _ ⟨rfl, rfl⟩
              refine D.q 24 rfl (by kernel_rfl) (by kernel_rfl) (q_build st_24 rfl (by repeat (first | exact Fill.nil | (apply Fill.cons; rfl; rfl; rfl) | exact SetN.nil | apply SetN.cons | exact SetAt.here | apply SetAt.there))) (fun _ h => h.nil) ?_
              refine D.all (rs := [25]) (by kernel_rfl) rfl (DAll.cons rfl (by kernel_rfl) (l_slice sz_26_7 rfl (by repeat (first | exact Fill.nil | (apply Fill.cons; rfl; rfl; rfl) | exact SetN.nil | apply SetN.cons | exact SetAt.here | apply SetAt.there))) (.inr (fun _ _ _ _ h => h.nil)) rfl ?_ DAll.nil)
              rintro _ _ ⟨b46, rfl, rfl⟩
              refine D.q 26 rfl (by kernel_rfl) (by kernel_rfl) (q_assign rfl) (fun _ h => h.nil) ?_
              refine D.done (by kernel_rfl) ?_
              refine K.weak ?_ ?_ (cont b46)
              · exact (by repeat (first | exact Env.sub_nil _ | refine Env.sub_cons rfl ?_))
              · exact fun w h => (pv_lims 0 (zeros 40) (zeros 100) h).fit (by repeat (first | exact Give.nil | (apply Give.perI; (repeat (first | exact List.Mem.head _ | apply List.Mem.tail))) | (apply Give.own; (repeat (first | exact Pick.here | apply Pick.there))))) (by repeat (first | exact Drop.refl | apply Drop.skip))
            · rintro _ _ ⟨rfl, rfl⟩
              refine D.q 24 rfl (by kernel_rfl) (by kernel_rfl) (q_build st_24 rfl (by repeat (first | exact Fill.nil | (apply Fill.cons; rfl; rfl; rfl) | exact SetN.nil | apply SetN.cons | exact SetAt.here | apply SetAt.there))) (fun _ h => h.nil) ?_
              refine D.all (rs := [18]) (by kernel_rfl) rfl (DAll.cons rfl (by kernel_rfl) (OpQ.loud (q_zeros (e2 := 5) Try.underlying25 Try.underlying5 Try.underlying9 rfl (by repeat (first | exact List.Mem.head _ | apply List.Mem.tail)))) (.inr (fun _ _ _ _ h => h.nil)) rfl ?_ DAll.nil)
              rintro _ _ ⟨rfl, rfl⟩
              refine D.q 19 rfl (by kernel_rfl) (by kernel_rfl) (q_build st_24 rfl (by repeat (first | exact Fill.nil | (apply Fill.cons; rfl; rfl; rfl) | exact SetN.nil | apply SetN.cons | exact SetAt.here | apply SetAt.there))) (fun _ h => h.nil) ?_
              refine D.all (rs := [25]) (by kernel_rfl) rfl (DAll.cons rfl (by kernel_rfl) (l_slice sz_26_7 rfl (by repeat (first | exact Fill.nil | (apply Fill.cons; rfl; rfl; rfl) | exact SetN.nil | apply SetN.cons | exact SetAt.here | apply SetAt.there))) (.inr (fun _ _ _ _ h => h.nil)) rfl ?_ DAll.nil)
              rintro _ _ ⟨b46, rfl, rfl⟩
              refine D.q 26 rfl (by kernel_rfl) (by kernel_rfl) (q_assign rfl) (fun _ h => h.nil) ?_
              refine D.done (by kernel_rfl) ?_
              refine K.weak ?_ ?_ (cont b46)
              · exact (by repeat (first | exact Env.sub_nil _ | refine Env.sub_cons rfl ?_))
              · exact fun w h => (pv_lims 0 (zeros 40) (zeros 100) h).fit (by repeat (first | exact Give.nil | (apply Give.perI; (repeat (first | exact List.Mem.head _ | apply List.Mem.tail))) | (apply Give.own; (repeat (first | exact Pick.here | apply Pick.there))))) (by repeat (first | exact Drop.refl | apply Drop.skip))
          · rintro _ _ ⟨rfl, rfl⟩
            refine D.q 24 rfl (by kernel_rfl) (by kernel_rfl) (q_build st_24 rfl (by repeat (first | exact Fill.nil | (apply Fill.cons; rfl; rfl; rfl) | exact SetN.nil | apply SetN.cons | exact SetAt.here | apply SetAt.there))) (fun _ h => h.nil) ?_
            refine D.all (rs := [17]) (by kernel_rfl) rfl (DAll.cons rfl (by kernel_rfl) (l_make Kd.u8 (0 : UInt8) (m := 40) se_25 ze_5 rfl (fun g => rfl) rfl rfl (by omega) (by omega)) (.inr (fun _ _ _ _ h => h.nil)) rfl ?_ DAll.nil)
            rintro _ _ ⟨q1, rfl, rfl⟩
            refine D.all (rs := [18]) (by kernel_rfl) rfl (DAll.cons rfl (by kernel_rfl) (OpQ.loud (q_zeros (e2 := 5) Try.underlying25 Try.underlying5 Try.underlying9 rfl (by repeat (first | exact List.Mem.head _ | apply List.Mem.tail)))) (.inr (fun _ _ _ _ h => h.nil)) rfl ?_ DAll.nil)
            rintro _ _ ⟨rfl, rfl⟩
            refine D.q 19 rfl (by kernel_rfl) (by kernel_rfl) (q_build st_24 rfl (by repeat (first | exact Fill.nil | (apply Fill.cons; rfl; rfl; rfl) | exact SetN.nil | apply SetN.cons | exact SetAt.here | apply SetAt.there))) (fun _ h => h.nil) ?_
            refine D.all (rs := [25]) (by kernel_rfl) rfl (DAll.cons rfl (by kernel_rfl) (l_slice sz_26_7 rfl (by repeat (first | exact Fill.nil | (apply Fill.cons; rfl; rfl; rfl) | exact SetN.nil | apply SetN.cons | exact SetAt.here | apply SetAt.there))) (.inr (fun _ _ _ _ h => h.nil)) rfl ?_ DAll.nil)
            rintro _ _ ⟨b46, rfl, rfl⟩
            refine D.q 26 rfl (by kernel_rfl) (by kernel_rfl) (q_assign rfl) (fun _ h => h.nil) ?_
            refine D.done (by kernel_rfl) ?_
            refine K.weak ?_ ?_ (cont b46)
            · exact (by repeat (first | exact Env.sub_nil _ | refine Env.sub_cons rfl ?_))
            · exact fun w h => (pv_lims 0 (zeros 40) (zeros 100) h).fit (by repeat (first | exact Give.nil | (apply Give.perI; (repeat (first | exact List.Mem.head _ | apply List.Mem.tail))) | (apply Give.own; (repeat (first | exact Pick.here | apply Pick.there))))) (by repeat (first | exact Drop.refl | apply Drop.skip))
    | true =>
      repeat (first | refine K.seq ?_ | refine K.skip ?_ | refine K.block ?_ | refine K.inBlock ?_ | refine K.label ?_)
      refine K.region ?_
      refine KO.q rfl (q_move rfl) ?_
      refine KO.done ?_
      repeat (first | refine K.seq ?_ | refine K.skip ?_ | refine K.block ?_ | refine K.inBlock ?_ | refine K.label ?_)
      refine K.yes rfl ?_
      repeat (first | refine K.seq ?_ | refine K.skip ?_ | refine K.block ?_ | refine K.inBlock ?_ | refine K.label ?_)
      refine K.region ?_
      refine KO.q rfl (q_assign rfl) ?_
      refine KO.done ?_
      repeat (first | refine K.seq ?_ | refine K.skip ?_ | refine K.block ?_ | refine K.inBlock ?_ | refine K.label ?_)
      repeat (first | refine K.seq ?_ | refine K.skip ?_ | refine K.block ?_ | refine K.inBlock ?_ | refine K.label ?_)
      refine K.via (ι := Nat) (fun b => ([(7, .slice (some ⟨b, 0, none⟩) 7 7), (0, .int .i64 which), (1, .bool true)], [RowF Kd.msg (some ⟨b, 0, none⟩) (lims 1 (zeros 41) (zeros 101))] ++ L2)) (fun b => ?_) (fun cont => ?_)
      · obtain ⟨x, hx⟩ : ∃ x, (lims 1 (zeros 41) (zeros 101))[which.toNat]? = some x := ⟨_, List.getElem?_eq_getElem (show which.toNat < 7 by omega)⟩
        repeat (first | refine K.seq ?_ | refine K.skip ?_ | refine K.block ?_ | refine K.inBlock ?_ | refine K.label ?_)
        refine K.region ?_
        refine KO.q rfl (q_move rfl) ?_
        refine KO.q rfl (q_move rfl) ?_
        refine KO.q rfl (q_index se_26 rfl rfl (by first | omega | (simp; omega)) (by first | omega | (simp; omega))) ?_
        refine KO.q rfl (q_loadN ck_24 rfl rfl (rowF_cells (by repeat (first | exact List.Mem.head _ | apply List.Mem.tail)) hx)) ?_
        refine KO.loud rfl (OpL.call rfl (msg_Right x) (by repeat (first | exact Give.nil | (apply Give.perI; (repeat (first | exact List.Mem.head _ | apply List.Mem.tail))) | (apply Give.own; (repeat (first | exact Pick.here | apply Pick.there)))))) ?_
        rintro _ _ ⟨_, ⟨rfl, rfl⟩, rfl⟩
        refine KO.q rfl (q_move rfl) ?_
        refine KO.q rfl (q_not rfl) ?_
        refine KO.q rfl (q_beq Try.underlying4 rfl rfl) ?_
        refine KO.q rfl (q_assign rfl) ?_
        refine KO.done ?_
        repeat (first | refine K.seq ?_ | refine K.skip ?_ | refine K.block ?_ | refine K.inBlock ?_ | refine K.label ?_)
        refine K.ret (fn := Try.f3) Try.func3 (fun a w hk hs => res1 Try.results3 hk rfl) (fun w hs => ?_)
        exact ⟨_, [], rfl, ⟨congrArg Value.bool (lims_right1 which.toNat x hx), rfl⟩, hs.fit (by repeat (first | exact Give.nil | (apply Give.perI; (repeat (first | exact List.Mem.head _ | apply List.Mem.tail))) | (apply Give.own; (repeat (first | exact Pick.here | apply Pick.there))))) (by repeat (first | exact Drop.refl | apply Drop.skip))⟩
      · repeat (first | refine K.seq ?_ | refine K.skip ?_ | refine K.block ?_ | refine K.inBlock ?_ | refine K.label ?_)
        refine K.draw [] mixed ?_
        refine D.q 0 rfl (by kernel_rfl) (by kernel_rfl) (q_move rfl) (fun _ h => h.nil) ?_
        refine D.q 1 rfl (by kernel_rfl) (by kernel_rfl) (q_add rfl rfl (by first | omega | (simp; omega)) (by first | omega | (simp; omega))) (fun _ h => h.nil) ?_
        refine D.q 2 rfl (by kernel_rfl) (by kernel_rfl) (q_build st_24 rfl (by repeat (first | exact Fill.nil | (apply Fill.cons; rfl; rfl; rfl) | exact SetN.nil | apply SetN.cons | exact SetAt.here | apply SetAt.there))) (fun _ h => h.nil) ?_
        refine D.q 3 rfl (by kernel_rfl) (by kernel_rfl) (q_move rfl) (fun _ h => h.nil) ?_
        refine D.q 4 rfl (by kernel_rfl) (by kernel_rfl) (q_sub rfl rfl (by first | omega | (simp; omega)) (by first | omega | (simp; omega))) (fun _ h => h.nil) ?_
        refine D.q 5 rfl (by kernel_rfl) (by kernel_rfl) (q_build st_24 rfl (by repeat (first | exact Fill.nil | (apply Fill.cons; rfl; rfl; rfl) | exact SetN.nil | apply SetN.cons | exact SetAt.here | apply SetAt.there))) (fun _ h => h.nil) ?_
        refine D.q 6 rfl (by kernel_rfl) (by kernel_rfl) (q_move rfl) (fun _ h => h.nil) ?_
        refine D.q 7 rfl (by kernel_rfl) (by kernel_rfl) (q_add rfl rfl (by first | omega | (simp; omega)) (by first | omega | (simp; omega))) (fun _ h => h.nil) ?_
        refine D.q 8 rfl (by kernel_rfl) (by kernel_rfl) (q_build st_24 rfl (by repeat (first | exact Fill.nil | (apply Fill.cons; rfl; rfl; rfl) | exact SetN.nil | apply SetN.cons | exact SetAt.here | apply SetAt.there))) (fun _ h => h.nil) ?_
        refine D.q 9 rfl (by kernel_rfl) (by kernel_rfl) (q_move rfl) (fun _ h => h.nil) ?_
        refine D.q 10 rfl (by kernel_rfl) (by kernel_rfl) (q_sub rfl rfl (by first | omega | (simp; omega)) (by first | omega | (simp; omega))) (fun _ h => h.nil) ?_
        refine D.q 11 rfl (by kernel_rfl) (by kernel_rfl) (q_build st_24 rfl (by repeat (first | exact Fill.nil | (apply Fill.cons; rfl; rfl; rfl) | exact SetN.nil | apply SetN.cons | exact SetAt.here | apply SetAt.there))) (fun _ h => h.nil) ?_
        refine D.q 12 rfl (by kernel_rfl) (by kernel_rfl) (q_move rfl) (fun _ h => h.nil) ?_
        refine D.q 13 rfl (by kernel_rfl) (by kernel_rfl) (q_add rfl rfl (by first | omega | (simp; omega)) (by first | omega | (simp; omega))) (fun _ h => h.nil) ?_
        refine D.q 14 rfl (by kernel_rfl) (by kernel_rfl) (q_build st_24 rfl (by repeat (first | exact Fill.nil | (apply Fill.cons; rfl; rfl; rfl) | exact SetN.nil | apply SetN.cons | exact SetAt.here | apply SetAt.there))) (fun _ h => h.nil) ?_
        refine D.q 15 rfl (by kernel_rfl) (by kernel_rfl) (q_move rfl) (fun _ h => h.nil) ?_
        refine D.q 16 rfl (by kernel_rfl) (by kernel_rfl) (q_add rfl rfl (by first | omega | (simp; omega)) (by first | omega | (simp; omega))) (fun _ h => h.nil) ?_
        refine D.q 20 rfl (by kernel_rfl) (by kernel_rfl) (q_move rfl) (fun _ h => h.nil) ?_
        refine D.q 21 rfl (by kernel_rfl) (by kernel_rfl) (q_add rfl rfl (by first | omega | (simp; omega)) (by first | omega | (simp; omega))) (fun _ h => h.nil) ?_
        refine D.all (rs := [17, 22]) (by kernel_rfl) rfl (DAll.cons rfl (by kernel_rfl) (l_make Kd.u8 (0 : UInt8) (m := 41) se_25 ze_5 rfl (fun g => rfl) rfl rfl (by omega) (by omega)) (.inr (fun _ _ _ _ h => h.nil)) rfl ?_ (DAll.cons rfl (by kernel_rfl) (l_make Kd.u8 (0 : UInt8) (m := 101) se_25 ze_5 rfl (fun g => rfl) rfl rfl (by omega) (by omega)) (.inr (fun _ _ _ _ h => h.nil)) rfl ?_ DAll.nil))
        · rintro _ _ ⟨q1, rfl, rfl⟩
          refine D.all (rs := [18, 22]) (by kernel_rfl) rfl (DAll.cons rfl (by kernel_rfl) (OpQ.loud (q_zeros (e2 := 5) Try.underlying25 Try.underlying5 Try.underlying9 rfl (by repeat (first | exact List.Mem.head _ | apply List.Mem.tail)))) (.inr (fun _ _ _ _ h => h.nil)) rfl ?_ (DAll.cons rfl (by kernel_rfl) (l_make Kd.u8 (0 : UInt8) (m := 101) se_25 ze_5 rfl (fun g => rfl) rfl rfl (by omega) (by omega)) (.inr (fun _ _ _ _ h => h.nil)) rfl ?_ DAll.nil))
          · rintro _ _ ⟨rfl, rfl⟩
            refine D.q 19 rfl (by kernel_rfl) (by kernel_rfl) (q_build st_24 rfl (by repeat (first | exact Fill.nil | (apply Fill.cons; rfl; rfl; rfl) | exact SetN.nil | apply SetN.cons | exact SetAt.here | apply SetAt.there))) (fun _ h => h.nil) ?_
            refine D.all (rs := [22]) (by kernel_rfl) rfl (DAll.cons rfl (by kernel_rfl) (l_make Kd.u8 (0 : UInt8) (m := 101) se_25 ze_5 rfl (fun g => rfl) rfl rfl (by omega) (by omega)) (.inr (fun _ _ _ _ h => h.nil)) rfl ?_ DAll.nil)
            rintro _ _ ⟨q2, rfl, rfl⟩
            refine D.all (rs := [23]) (by kernel_rfl) rfl (DAll.cons rfl (by kernel_rfl) (OpQ.loud (q_zeros (e2 := 5) Try.underlying25 Try.underlying5 Try.underlying9 rfl (by repeat (first | exact List.Mem.head _ | apply List.Mem.tail)))) (.inr (fun _ _ _ _ h => h.nil)) rfl ?_ DAll.nil)
            rintro _ _ ⟨rfl, rfl⟩
            refine D.q 24 rfl (by kernel_rfl) (by kernel_rfl) (q_build st_24 rfl (by repeat (first | exact Fill.nil | (apply Fill.cons; rfl; rfl; rfl) | exact SetN.nil | apply SetN.cons | exact SetAt.here | apply SetAt.there))) (fun _ h => h.nil) ?_
            refine D.all (rs := [25]) (by kernel_rfl) rfl (DAll.cons rfl (by kernel_rfl) (l_slice sz_26_7 rfl (by repeat (first | exact Fill.nil | (apply Fill.cons; rfl; rfl; rfl) | exact SetN.nil | apply SetN.cons | exact SetAt.here | apply SetAt.there))) (.inr (fun _ _ _ _ h => h.nil)) rfl ?_ DAll.nil)
            rintro _ _ ⟨b46, rfl, rfl⟩
            refine D.q 26 rfl (by kernel_rfl) (by kernel_rfl) (q_assign rfl) (fun _ h => h.nil) ?_
            refine D.done (by kernel_rfl) ?_
            refine K.weak ?_ ?_ (cont b46)
            · exact (by repeat (first | exact Env.sub_nil _ | refine Env.sub_cons rfl ?_))
            · exact fun w h => (pv_lims 1 (zeros 41) (zeros 101) h).fit (by repeat (first | exact Give.nil | (apply Give.perI; (repeat (first | exact List.Mem.head _ | apply List.Mem.tail))) | (apply Give.own; (repeat (first | exact Pick.here | apply Pick.there))))) (by repeat (first | exact Drop.refl | apply Drop.skip))
          · rintro _ _ ⟨q2, rfl, rfl⟩
            refine D.all (rs := [18, 23]) (by kernel_rfl) rfl (DAll.cons rfl (by kernel_rfl) (OpQ.loud (q_zeros (e2 := 5) Try.underlying25 Try.underlying5 Try.underlying9 rfl (by repeat (first | exact List.Mem.head _ | apply List.Mem.tail)))) (.inr (fun _ _ _ _ h => h.nil)) rfl ?_ (DAll.cons rfl (by kernel_rfl) (OpQ.loud (q_zeros (e2 := 5) Try.underlying25 Try.underlying5 Try.underlying9 rfl (by repeat (first | exact List.Mem.head _ | apply List.Mem.tail)))) (.inr (fun _ _ _ _ h => h.nil)) rfl ?_ DAll.nil))
            · rintro _ _ ⟨rfl, rfl⟩
              refine D.q 19 rfl (by kernel_rfl) (by kernel_rfl) (q_build st_24 rfl (by repeat (first | exact Fill.nil | (apply Fill.cons; rfl; rfl; rfl) | exact SetN.nil | apply SetN.cons | exact SetAt.here | apply SetAt.there))) (fun _ h => h.nil) ?_
              refine D.all (rs := [23]) (by kernel_rfl) rfl (DAll.cons rfl (by kernel_rfl) (OpQ.loud (q_zeros (e2 := 5) Try.underlying25 Try.underlying5 Try.underlying9 rfl (by repeat (first | exact List.Mem.head _ | apply List.Mem.tail)))) (.inr (fun _ _ _ _ h => h.nil)) rfl ?_ DAll.nil)
              rintro _ _ ⟨rfl, rfl⟩
              refine D.q 24 rfl (by kernel_rfl) (by kernel_rfl) (q_build st_24 rfl (by repeat (first | exact Fill.nil | (apply Fill.cons; rfl; rfl; rfl) | exact SetN.nil | apply SetN.cons | exact SetAt.here | apply SetAt.there))) (fun _ h => h.nil) ?_
              refine D.all (rs := [25]) (by kernel_rfl) rfl (DAll.cons rfl (by kernel_rfl) (l_slice sz_26_7 rfl (by repeat (first | exact Fill.nil | (apply Fill.cons; rfl; rfl; rfl) | exact SetN.nil | apply SetN.cons | exact SetAt.here | apply SetAt.there))) (.inr (fun _ _ _ _ h => h.nil)) rfl ?_ DAll.nil)
              rintro _ _ ⟨b46, rfl, rfl⟩
              refine D.q 26 rfl (by kernel_rfl) (by kernel_rfl) (q_assign rfl) (fun _ h => h.nil) ?_
              refine D.done (by kernel_rfl) ?_
              refine K.weak ?_ ?_ (cont b46)
              · exact (by repeat (first | exact Env.sub_nil _ | refine Env.sub_cons rfl ?_))
              · exact fun w h => (pv_lims 1 (zeros 41) (zeros 101) h).fit (by repeat (first | exact Give.nil | (apply Give.perI; (repeat (first | exact List.Mem.head _ | apply List.Mem.tail))) | (apply Give.own; (repeat (first | exact Pick.here | apply Pick.there))))) (by repeat (first | exact Drop.refl | apply Drop.skip))
            · rintro _ _ ⟨rfl, rfl⟩
              refine D.q 24 rfl (by kernel_rfl) (by kernel_rfl) (q_build st_24 rfl (by repeat (first | exact Fill.nil | (apply Fill.cons; rfl; rfl; rfl) | exact SetN.nil | apply SetN.cons | exact SetAt.here | apply SetAt.there))) (fun _ h => h.nil) ?_
              refine D.all (rs := [18]) (by kernel_rfl) rfl (DAll.cons rfl (by kernel_rfl) (OpQ.loud (q_zeros (e2 := 5) Try.underlying25 Try.underlying5 Try.underlying9 rfl (by repeat (first | exact List.Mem.head _ | apply List.Mem.tail)))) (.inr (fun _ _ _ _ h => h.nil)) rfl ?_ DAll.nil)
              rintro _ _ ⟨rfl, rfl⟩
              refine D.q 19 rfl (by kernel_rfl) (by kernel_rfl) (q_build st_24 rfl (by repeat (first | exact Fill.nil | (apply Fill.cons; rfl; rfl; rfl) | exact SetN.nil | apply SetN.cons | exact SetAt.here | apply SetAt.there))) (fun _ h => h.nil) ?_
              refine D.all (rs := [25]) (by kernel_rfl) rfl (DAll.cons rfl (by kernel_rfl) (l_slice sz_26_7 rfl (by repeat (first | exact Fill.nil | (apply Fill.cons; rfl; rfl; rfl) | exact SetN.nil | apply SetN.cons | exact SetAt.here | apply SetAt.there))) (.inr (fun _ _ _ _ h => h.nil)) rfl ?_ DAll.nil)
              rintro _ _ ⟨b46, rfl, rfl⟩
              refine D.q 26 rfl (by kernel_rfl) (by kernel_rfl) (q_assign rfl) (fun _ h => h.nil) ?_
              refine D.done (by kernel_rfl) ?_
              refine K.weak ?_ ?_ (cont b46)
              · exact (by repeat (first | exact Env.sub_nil _ | refine Env.sub_cons rfl ?_))
              · exact fun w h => (pv_lims 1 (zeros 41) (zeros 101) h).fit (by repeat (first | exact Give.nil | (apply Give.perI; (repeat (first | exact List.Mem.head _ | apply List.Mem.tail))) | (apply Give.own; (repeat (first | exact Pick.here | apply Pick.there))))) (by repeat (first | exact Drop.refl | apply Drop.skip))
        · rintro _ _ ⟨q2, rfl, rfl⟩
          refine D.all (rs := [17, 23]) (by kernel_rfl) rfl (DAll.cons rfl (by kernel_rfl) (l_make Kd.u8 (0 : UInt8) (m := 41) se_25 ze_5 rfl (fun g => rfl) rfl rfl (by omega) (by omega)) (.inr (fun _ _ _ _ h => h.nil)) rfl ?_ (DAll.cons rfl (by kernel_rfl) (OpQ.loud (q_zeros (e2 := 5) Try.underlying25 Try.underlying5 Try.underlying9 rfl (by repeat (first | exact List.Mem.head _ | apply List.Mem.tail)))) (.inr (fun _ _ _ _ h => h.nil)) rfl ?_ DAll.nil))
          · rintro _ _ ⟨q1, rfl, rfl⟩
            refine D.all (rs := [18, 23]) (by kernel_rfl) rfl (DAll.cons rfl (by kernel_rfl) (OpQ.loud (q_zeros (e2 := 5) Try.underlying25 Try.underlying5 Try.underlying9 rfl (by repeat (first | exact List.Mem.head _ | apply List.Mem.tail)))) (.inr (fun _ _ _ _ h => h.nil)) rfl ?_ (DAll.cons rfl (by kernel_rfl) (OpQ.loud (q_zeros (e2 := 5) Try.underlying25 Try.underlying5 Try.underlying9 rfl (by repeat (first | exact List.Mem.head _ | apply List.Mem.tail)))) (.inr (fun _ _ _ _ h => h.nil)) rfl ?_ DAll.nil))
            · rintro _ _ ⟨rfl, rfl⟩
              refine D.q 19 rfl (by kernel_rfl) (by kernel_rfl) (q_build st_24 rfl (by repeat (first | exact Fill.nil | (apply Fill.cons; rfl; rfl; rfl) | exact SetN.nil | apply SetN.cons | exact SetAt.here | apply SetAt.there))) (fun _ h => h.nil) ?_
              refine D.all (rs := [23]) (by kernel_rfl) rfl (DAll.cons rfl (by kernel_rfl) (OpQ.loud (q_zeros (e2 := 5) Try.underlying25 Try.underlying5 Try.underlying9 rfl (by repeat (first | exact List.Mem.head _ | apply List.Mem.tail)))) (.inr (fun _ _ _ _ h => h.nil)) rfl ?_ DAll.nil)
              rintro _ _ ⟨rfl, rfl⟩
              refine D.q 24 rfl (by kernel_rfl) (by kernel_rfl) (q_build st_24 rfl (by repeat (first | exact Fill.nil | (apply Fill.cons; rfl; rfl; rfl) | exact SetN.nil | apply SetN.cons | exact SetAt.here | apply SetAt.there))) (fun _ h => h.nil) ?_
              refine D.all (rs := [25]) (by kernel_rfl) rfl (DAll.cons rfl (by kernel_rfl) (l_slice sz_26_7 rfl (by repeat (first | exact Fill.nil | (apply Fill.cons; rfl; rfl; rfl) | exact SetN.nil | apply SetN.cons | exact SetAt.here | apply SetAt.there))) (.inr (fun _ _ _ _ h => h.nil)) rfl ?_ DAll.nil)
              rintro _ _ ⟨b46, rfl, rfl⟩
              refine D.q 26 rfl (by kernel_rfl) (by kernel_rfl) (q_assign rfl) (fun _ h => h.nil) ?_
              refine D.done (by kernel_rfl) ?_
              refine K.weak ?_ ?_ (cont b46)
              · exact (by repeat (first | exact Env.sub_nil _ | refine Env.sub_cons rfl ?_))
              · exact fun w h => (pv_lims 1 (zeros 41) (zeros 101) h).fit (by repeat (first | exact Give.nil | (apply Give.perI; (repeat (first | exact List.Mem.head _ | apply List.Mem.tail))) | (apply Give.own; (repeat (first | exact Pick.here | apply Pick.there))))) (by repeat (first | exact Drop.refl | apply Drop.skip))
            · rintro _ _ ⟨rfl, rfl⟩
              refine D.q 24 rfl (by kernel_rfl) (by kernel_rfl) (q_build st_24 rfl (by repeat (first | exact Fill.nil | (apply Fill.cons; rfl; rfl; rfl) | exact SetN.nil | apply SetN.cons | exact SetAt.here | apply SetAt.there))) (fun _ h => h.nil) ?_
              refine D.all (rs := [18]) (by kernel_rfl) rfl (DAll.cons rfl (by kernel_rfl) (OpQ.loud (q_zeros (e2 := 5) Try.underlying25 Try.underlying5 Try.underlying9 rfl (by repeat (first | exact List.Mem.head _ | apply List.Mem.tail)))) (.inr (fun _ _ _ _ h => h.nil)) rfl ?_ DAll.nil)
              rintro _ _ ⟨rfl, rfl⟩
              refine D.q 19 rfl (by kernel_rfl) (by kernel_rfl) (q_build st_24 rfl (by repeat (first | exact Fill.nil | (apply Fill.cons; rfl; rfl; rfl) | exact SetN.nil | apply SetN.cons | exact SetAt.here | apply SetAt.there))) (fun _ h => h.nil) ?_
              refine D.all (rs := [25]) (by kernel_rfl) rfl (DAll.cons rfl (by kernel_rfl) (l_slice sz_26_7 rfl (by repeat (first | exact Fill.nil | (apply Fill.cons; rfl; rfl; rfl) | exact SetN.nil | apply SetN.cons | exact SetAt.here | apply SetAt.there))) (.inr (fun _ _ _ _ h => h.nil)) rfl ?_ DAll.nil)
              rintro _ _ ⟨b46, rfl, rfl⟩
              refine D.q 26 rfl (by kernel_rfl) (by kernel_rfl) (q_assign rfl) (fun _ h => h.nil) ?_
              refine D.done (by kernel_rfl) ?_
              refine K.weak ?_ ?_ (cont b46)
              · exact (by repeat (first | exact Env.sub_nil _ | refine Env.sub_cons rfl ?_))
              · exact fun w h => (pv_lims 1 (zeros 41) (zeros 101) h).fit (by repeat (first | exact Give.nil | (apply Give.perI; (repeat (first | exact List.Mem.head _ | apply List.Mem.tail))) | (apply Give.own; (repeat (first | exact Pick.here | apply Pick.there))))) (by repeat (first | exact Drop.refl | apply Drop.skip))
          · rintro _ _ ⟨rfl, rfl⟩
            refine D.q 24 rfl (by kernel_rfl) (by kernel_rfl) (q_build st_24 rfl (by repeat (first | exact Fill.nil | (apply Fill.cons; rfl; rfl; rfl) | exact SetN.nil | apply SetN.cons | exact SetAt.here | apply SetAt.there))) (fun _ h => h.nil) ?_
            refine D.all (rs := [17]) (by kernel_rfl) rfl (DAll.cons rfl (by kernel_rfl) (l_make Kd.u8 (0 : UInt8) (m := 41) se_25 ze_5 rfl (fun g => rfl) rfl rfl (by omega) (by omega)) (.inr (fun _ _ _ _ h => h.nil)) rfl ?_ DAll.nil)
            rintro _ _ ⟨q1, rfl, rfl⟩
            refine D.all (rs := [18]) (by kernel_rfl) rfl (DAll.cons rfl (by kernel_rfl) (OpQ.loud (q_zeros (e2 := 5) Try.underlying25 Try.underlying5 Try.underlying9 rfl (by repeat (first | exact List.Mem.head _ | apply List.Mem.tail)))) (.inr (fun _ _ _ _ h => h.nil)) rfl ?_ DAll.nil)
            rintro _ _ ⟨rfl, rfl⟩
            refine D.q 19 rfl (by kernel_rfl) (by kernel_rfl) (q_build st_24 rfl (by repeat (first | exact Fill.nil | (apply Fill.cons; rfl; rfl; rfl) | exact SetN.nil | apply SetN.cons | exact SetAt.here | apply SetAt.there))) (fun _ h => h.nil) ?_
            refine D.all (rs := [25]) (by kernel_rfl) rfl (DAll.cons rfl (by kernel_rfl) (l_slice sz_26_7 rfl (by repeat (first | exact Fill.nil | (apply Fill.cons; rfl; rfl; rfl) | exact SetN.nil | apply SetN.cons | exact SetAt.here | apply SetAt.there))) (.inr (fun _ _ _ _ h => h.nil)) rfl ?_ DAll.nil)
            rintro _ _ ⟨b46, rfl, rfl⟩
            refine D.q 26 rfl (by kernel_rfl) (by kernel_rfl) (q_assign rfl) (fun _ h => h.nil) ?_
            refine D.done (by kernel_rfl) ?_
            refine K.weak ?_ ?_ (cont b46)
            · exact (by repeat (first | exact Env.sub_nil _ | refine Env.sub_cons rfl ?_))
            · exact fun w h => (pv_lims 1 (zeros 41) (zeros 101) h).fit (by repeat (first | exact Give.nil | (apply Give.perI; (repeat (first | exact List.Mem.head _ | apply List.Mem.tail))) | (apply Give.own; (repeat (first | exact Pick.here | apply Pick.there))))) (by repeat (first | exact Drop.refl | apply Drop.skip))

end Go.Proofs.Ytlellgnklohclaa.L
