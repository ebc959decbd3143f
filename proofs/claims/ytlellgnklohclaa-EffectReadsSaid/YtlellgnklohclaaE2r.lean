/- Walks: which changes may be, the document's answer. -/
import Derived.Test.YtlellgnklohclaaE1
import Derived.Test.YtlellgnklohclaaOps12
namespace Go.Proofs.Ytlellgnklohclaa.L
open Go Go.Proofs
attribute [local irreducible] pv fv pt fz RowF RowO rowP old pure_ elA
set_option maxRecDepth 100000
set_option linter.unusedSimpArgs false
set_option linter.unusedVariables false

theorem rw_right_nil (k : ByteArray) : Rw.right ⟨k, ⟨#[]⟩⟩ = rwKey k := by
  unfold Rw.right
  rw [decide_eq_true (show (((⟨#[]⟩ : ByteArray).size : Nat) : Int) ≤ 100 by decide), Bool.and_true]
--%call poste/posteref14.RightEffect := ref_RightEffect _
set_option maxHeartbeats 3200000 in
theorem ref_RightEffect (e : Eff) : Fn Try.prog 46 [.agg e.cells.toArray].toArray [] (fun v post => v = .bool e.right ∧ post = []) := by
  refine Fn.enter (N := 115) Try.func46 rfl Try.ntmps46 (by kernel_rfl) rfl (fun ρ L => ?_)
  repeat (first | refine K.seq ?_ | refine K.skip ?_ | refine K.block ?_ | refine K.inBlock ?_ | refine K.label ?_)
  refine K.region ?_
  refine KO.loud rfl (l_box rfl rfl) ?_
  rintro _ _ ⟨b1, rfl, rfl⟩
  refine KO.q rfl (q_assign rfl) ?_
  refine KO.done ?_
  repeat (first | refine K.seq ?_ | refine K.skip ?_ | refine K.block ?_ | refine K.inBlock ?_ | refine K.label ?_)
  refine K.region ?_
  refine KO.q rfl (q_field fo_63_0 rfl) ?_
  refine KO.q rfl (q_load1 ck_3 rfl (by first | (apply cell_pv; (repeat (first | exact List.Mem.head _ | apply List.Mem.tail)); rfl) | (apply cell_fv; (repeat (first | exact List.Mem.head _ | apply List.Mem.tail)); rfl) | (apply rowF_cellU; (repeat (first | exact List.Mem.head _ | apply List.Mem.tail)); assumption) | (apply itm_cell; (repeat (first | exact List.Mem.head _ | apply List.Mem.tail)); assumption; rfl))) ?_
  refine KO.q rfl (q_field fo_63_1 rfl) ?_
  refine KO.q rfl (q_load1 ck_9 rfl (by first | (apply cell_pv; (repeat (first | exact List.Mem.head _ | apply List.Mem.tail)); rfl) | (apply cell_fv; (repeat (first | exact List.Mem.head _ | apply List.Mem.tail)); rfl) | (apply rowF_cellU; (repeat (first | exact List.Mem.head _ | apply List.Mem.tail)); assumption) | (apply itm_cell; (repeat (first | exact List.Mem.head _ | apply List.Mem.tail)); assumption; rfl))) ?_
  refine KO.q rfl (q_as_eff (q_build st_63 rfl (by repeat (first | exact Fill.nil | (apply Fill.cons; rfl; rfl; rfl) | exact SetN.nil | apply SetN.cons | exact SetAt.here | apply SetAt.there))) (by rfl)) ?_
  refine KO.loud rfl (l_alloc zo_63) ?_
  rintro _ _ ⟨b3, rfl, rfl⟩
  refine KO.loudN rfl (l_storeAll ck_63 rfl rfl ⟨rfl, rfl⟩ (eff_one _) (by repeat (first | exact Pick.here | apply Pick.there))) ?_
  rintro _ _ ⟨rfl, rfl⟩
  refine KO.done ?_
  repeat (first | refine K.seq ?_ | refine K.skip ?_ | refine K.block ?_ | refine K.inBlock ?_ | refine K.label ?_)
  refine K.region ?_
  refine KO.q rfl (q_field fo_63_1 rfl) ?_
  refine KO.q rfl (q_load1 ck_9 rfl (by first | (apply cell_pv; (repeat (first | exact List.Mem.head _ | apply List.Mem.tail)); rfl) | (apply cell_fv; (repeat (first | exact List.Mem.head _ | apply List.Mem.tail)); rfl) | (apply rowF_cellU; (repeat (first | exact List.Mem.head _ | apply List.Mem.tail)); assumption) | (apply itm_cell; (repeat (first | exact List.Mem.head _ | apply List.Mem.tail)); assumption; rfl))) ?_
  refine KO.loud rfl (OpL.callG rfl (by repeat (first | exact Give.nil | (apply Give.perI; (repeat (first | exact List.Mem.head _ | apply List.Mem.tail))) | (apply Give.own; (repeat (first | exact Pick.here | apply Pick.there))))) (ref_name _)) ?_
  rintro _ _ ⟨_, ⟨rfl, rfl⟩, rfl⟩
  refine KO.q rfl (q_assign rfl) ?_
  refine KO.done ?_
  repeat (first | refine K.seq ?_ | refine K.skip ?_ | refine K.block ?_ | refine K.inBlock ?_ | refine K.label ?_)
  refine K.region ?_
  refine KO.q rfl (q_field fo_63_0 rfl) ?_
  refine KO.q rfl (q_load1 ck_3 rfl (by first | (apply cell_pv; (repeat (first | exact List.Mem.head _ | apply List.Mem.tail)); rfl) | (apply cell_fv; (repeat (first | exact List.Mem.head _ | apply List.Mem.tail)); rfl) | (apply rowF_cellU; (repeat (first | exact List.Mem.head _ | apply List.Mem.tail)); assumption) | (apply itm_cell; (repeat (first | exact List.Mem.head _ | apply List.Mem.tail)); assumption; rfl))) ?_
  refine KO.done ?_
  repeat (first | refine K.seq ?_ | refine K.skip ?_ | refine K.block ?_ | refine K.inBlock ?_ | refine K.label ?_)
  refine K.region ?_
  refine KO.q rfl (q_eq rfl rfl) ?_
  refine KO.q rfl (q_assign rfl) ?_
  refine KO.done ?_
  refine K.dcond (s := 15) rfl (fun g15 => ?_) (fun g15 => ?_)
  · repeat (first | refine K.seq ?_ | refine K.skip ?_ | refine K.block ?_ | refine K.inBlock ?_ | refine K.label ?_)
    refine K.region ?_
    refine KO.q rfl (q_field fo_63_4 rfl) ?_
    refine KO.q rfl (q_load1 ck_3 rfl (by first | (apply cell_pv; (repeat (first | exact List.Mem.head _ | apply List.Mem.tail)); rfl) | (apply cell_fv; (repeat (first | exact List.Mem.head _ | apply List.Mem.tail)); rfl) | (apply rowF_cellU; (repeat (first | exact List.Mem.head _ | apply List.Mem.tail)); assumption) | (apply itm_cell; (repeat (first | exact List.Mem.head _ | apply List.Mem.tail)); assumption; rfl))) ?_
    refine KO.q rfl (q_field fo_63_4 rfl) ?_
    refine KO.loudN rfl (l_store1 ck_3 rfl rfl rfl (by repeat (first | exact Pick.here | apply Pick.there)) (by repeat (first | exact SetAt.here | apply SetAt.there))) ?_
    rintro _ _ ⟨rfl, rfl⟩
    refine KO.done ?_
    repeat (first | refine K.seq ?_ | refine K.skip ?_ | refine K.block ?_ | refine K.inBlock ?_ | refine K.label ?_)
    refine K.region ?_
    refine KO.q rfl (q_field fo_63_5 rfl) ?_
    refine KO.q rfl (q_load1 ck_3 rfl (by first | (apply cell_pv; (repeat (first | exact List.Mem.head _ | apply List.Mem.tail)); rfl) | (apply cell_fv; (repeat (first | exact List.Mem.head _ | apply List.Mem.tail)); rfl) | (apply rowF_cellU; (repeat (first | exact List.Mem.head _ | apply List.Mem.tail)); assumption) | (apply itm_cell; (repeat (first | exact List.Mem.head _ | apply List.Mem.tail)); assumption; rfl))) ?_
    refine KO.q rfl (q_field fo_63_5 rfl) ?_
    refine KO.loudN rfl (l_store1 ck_3 rfl rfl rfl (by repeat (first | exact Pick.here | apply Pick.there)) (by repeat (first | exact SetAt.here | apply SetAt.there))) ?_
    rintro _ _ ⟨rfl, rfl⟩
    refine KO.done ?_
    refine K.region ?_
    refine KO.q rfl (q_move rfl) ?_
    refine KO.q rfl (q_move rfl) ?_
    refine KO.split 24 rfl (fun g24 => ?_) (fun g24 => ?_)
    · refine KO.q rfl (q_field fo_63_4 rfl) ?_
      refine KO.q rfl (q_load1 ck_3 rfl (by first | (apply cell_pv; (repeat (first | exact List.Mem.head _ | apply List.Mem.tail)); rfl) | (apply cell_fv; (repeat (first | exact List.Mem.head _ | apply List.Mem.tail)); rfl) | (apply rowF_cellU; (repeat (first | exact List.Mem.head _ | apply List.Mem.tail)); assumption) | (apply itm_cell; (repeat (first | exact List.Mem.head _ | apply List.Mem.tail)); assumption; rfl))) ?_
      refine KO.q rfl (q_field fo_63_5 rfl) ?_
      refine KO.q rfl (q_load1 ck_3 rfl (by first | (apply cell_pv; (repeat (first | exact List.Mem.head _ | apply List.Mem.tail)); rfl) | (apply cell_fv; (repeat (first | exact List.Mem.head _ | apply List.Mem.tail)); rfl) | (apply rowF_cellU; (repeat (first | exact List.Mem.head _ | apply List.Mem.tail)); assumption) | (apply itm_cell; (repeat (first | exact List.Mem.head _ | apply List.Mem.tail)); assumption; rfl))) ?_
      refine KO.loud rfl (OpL.callG rfl (by repeat (first | exact Give.nil | (apply Give.perI; (repeat (first | exact List.Mem.head _ | apply List.Mem.tail))) | (apply Give.own; (repeat (first | exact Pick.here | apply Pick.there))))) (ref_kind _ _)) ?_
      rintro _ _ ⟨_, ⟨rfl, rfl⟩, rfl⟩
      refine KO.q rfl (q_pickT rfl rfl) ?_
      refine KO.q rfl (q_assign rfl) ?_
      refine KO.done ?_
      repeat (first | refine K.seq ?_ | refine K.skip ?_ | refine K.block ?_ | refine K.inBlock ?_ | refine K.label ?_)
      refine K.region ?_
      refine KO.q rfl (q_move rfl) ?_
      refine KO.q rfl (q_move rfl) ?_
      refine KO.split 110 rfl (fun g110 => ?_) (fun g110 => ?_)
      · refine KO.q rfl (q_as_eff (q_loadN ck_63 rfl rfl (by first | (apply cells_pv; (repeat (first | exact List.Mem.head _ | apply List.Mem.tail))) | (apply cells_fv; (repeat (first | exact List.Mem.head _ | apply List.Mem.tail))))) (by rfl)) ?_
        refine KO.q rfl (q_loadN ck_63 rfl rfl (by first | (apply cells_pv; (repeat (first | exact List.Mem.head _ | apply List.Mem.tail))) | (apply cells_fv; (repeat (first | exact List.Mem.head _ | apply List.Mem.tail))))) ?_
        refine KO.q rfl (q_recEGs Try.underlying63 eff_hp eff_hg rfl rfl (eff_eqD _ _ Try.underlying63)) ?_
        refine KO.q rfl (q_pickT rfl rfl) ?_
        refine KO.q rfl (q_assign rfl) ?_
        refine KO.done ?_
        refine K.ret (fn := Try.f46) Try.func46 (fun a w hk hs => res1 Try.results46 hk rfl) (fun w hs => ?_)
        first | (exfalso; omega) | exact ⟨_, [], rfl, ⟨by (try simp only [rw_right_nil] at *); simp [Eff.right, Eff.rightK, Eff.named, effId, *], rfl⟩, hs.fit (by repeat (first | exact Give.nil | (apply Give.perI; (repeat (first | exact List.Mem.head _ | apply List.Mem.tail))) | (apply Give.own; (repeat (first | exact Pick.here | apply Pick.there))))) (by repeat (first | exact Drop.refl | apply Drop.skip))⟩
      · refine KO.skip rfl ?_
        refine KO.skip rfl ?_
        refine KO.skip rfl ?_
        refine KO.q rfl (q_pickF rfl rfl) ?_
        refine KO.q rfl (q_assign rfl) ?_
        refine KO.done ?_
        refine K.ret (fn := Try.f46) Try.func46 (fun a w hk hs => res1 Try.results46 hk rfl) (fun w hs => ?_)
        first | (exfalso; omega) | exact ⟨_, [], rfl, ⟨by (try simp only [rw_right_nil] at *); simp [Eff.right, Eff.rightK, Eff.named, effId, *], rfl⟩, hs.fit (by repeat (first | exact Give.nil | (apply Give.perI; (repeat (first | exact List.Mem.head _ | apply List.Mem.tail))) | (apply Give.own; (repeat (first | exact Pick.here | apply Pick.there))))) (by repeat (first | exact Drop.refl | apply Drop.skip))⟩
    · refine KO.skip rfl ?_
      refine KO.skip rfl ?_
      refine KO.skip rfl ?_
      refine KO.skip rfl ?_
      refine KO.skip rfl ?_
      refine KO.q rfl (q_pickF rfl rfl) ?_
      refine KO.q rfl (q_assign rfl) ?_
      refine KO.done ?_
      repeat (first | refine K.seq ?_ | refine K.skip ?_ | refine K.block ?_ | refine K.inBlock ?_ | refine K.label ?_)
      refine K.region ?_
      refine KO.q rfl (q_move rfl) ?_
      refine KO.q rfl (q_move rfl) ?_
      refine KO.skip rfl ?_
      refine KO.skip rfl ?_
      refine KO.skip rfl ?_
      refine KO.q rfl (q_pickF rfl rfl) ?_
      refine KO.q rfl (q_assign rfl) ?_
      refine KO.done ?_
      refine K.ret (fn := Try.f46) Try.func46 (fun a w hk hs => res1 Try.results46 hk rfl) (fun w hs => ?_)
      first | (exfalso; omega) | exact ⟨_, [], rfl, ⟨by (try simp only [rw_right_nil] at *); simp [Eff.right, Eff.rightK, Eff.named, effId, *], rfl⟩, hs.fit (by repeat (first | exact Give.nil | (apply Give.perI; (repeat (first | exact List.Mem.head _ | apply List.Mem.tail))) | (apply Give.own; (repeat (first | exact Pick.here | apply Pick.there))))) (by repeat (first | exact Drop.refl | apply Drop.skip))⟩
  · repeat (first | refine K.seq ?_ | refine K.skip ?_ | refine K.block ?_ | refine K.inBlock ?_ | refine K.label ?_)
    refine K.region ?_
    refine KO.q rfl (q_eq rfl rfl) ?_
    refine KO.q rfl (q_assign rfl) ?_
    refine KO.done ?_
    refine K.dcond (s := 31) rfl (fun g31 => ?_) (fun g31 => ?_)
    · repeat (first | refine K.seq ?_ | refine K.skip ?_ | refine K.block ?_ | refine K.inBlock ?_ | refine K.label ?_)
      refine K.region ?_
      refine KO.q rfl (q_field fo_63_2 rfl) ?_
      refine KO.q rfl (q_load1 ck_9 rfl (by first | (apply cell_pv; (repeat (first | exact List.Mem.head _ | apply List.Mem.tail)); rfl) | (apply cell_fv; (repeat (first | exact List.Mem.head _ | apply List.Mem.tail)); rfl) | (apply rowF_cellU; (repeat (first | exact List.Mem.head _ | apply List.Mem.tail)); assumption) | (apply itm_cell; (repeat (first | exact List.Mem.head _ | apply List.Mem.tail)); assumption; rfl))) ?_
      refine KO.q rfl (q_field fo_63_2 rfl) ?_
      refine KO.loudN rfl (l_store1 ck_9 rfl rfl rfl (by repeat (first | exact Pick.here | apply Pick.there)) (by repeat (first | exact SetAt.here | apply SetAt.there))) ?_
      rintro _ _ ⟨rfl, rfl⟩
      refine KO.done ?_
      repeat (first | refine K.seq ?_ | refine K.skip ?_ | refine K.block ?_ | refine K.inBlock ?_ | refine K.label ?_)
      refine K.region ?_
      refine KO.q rfl (q_field fo_63_3 rfl) ?_
      refine KO.q rfl (q_load1 ck_9 rfl (by first | (apply cell_pv; (repeat (first | exact List.Mem.head _ | apply List.Mem.tail)); rfl) | (apply cell_fv; (repeat (first | exact List.Mem.head _ | apply List.Mem.tail)); rfl) | (apply rowF_cellU; (repeat (first | exact List.Mem.head _ | apply List.Mem.tail)); assumption) | (apply itm_cell; (repeat (first | exact List.Mem.head _ | apply List.Mem.tail)); assumption; rfl))) ?_
      refine KO.q rfl (q_field fo_63_3 rfl) ?_
      refine KO.loudN rfl (l_store1 ck_9 rfl rfl rfl (by repeat (first | exact Pick.here | apply Pick.there)) (by repeat (first | exact SetAt.here | apply SetAt.there))) ?_
      rintro _ _ ⟨rfl, rfl⟩
      refine KO.done ?_
      refine K.region ?_
      refine KO.q rfl (q_move rfl) ?_
      refine KO.q rfl (q_move rfl) ?_
      refine KO.split 40 rfl (fun g40 => ?_) (fun g40 => ?_)
      · refine KO.q rfl (q_field fo_63_2 rfl) ?_
        refine KO.q rfl (q_load1 ck_9 rfl (by first | (apply cell_pv; (repeat (first | exact List.Mem.head _ | apply List.Mem.tail)); rfl) | (apply cell_fv; (repeat (first | exact List.Mem.head _ | apply List.Mem.tail)); rfl) | (apply rowF_cellU; (repeat (first | exact List.Mem.head _ | apply List.Mem.tail)); assumption) | (apply itm_cell; (repeat (first | exact List.Mem.head _ | apply List.Mem.tail)); assumption; rfl))) ?_
        refine KO.q rfl (q_field fo_63_3 rfl) ?_
        refine KO.q rfl (q_load1 ck_9 rfl (by first | (apply cell_pv; (repeat (first | exact List.Mem.head _ | apply List.Mem.tail)); rfl) | (apply cell_fv; (repeat (first | exact List.Mem.head _ | apply List.Mem.tail)); rfl) | (apply rowF_cellU; (repeat (first | exact List.Mem.head _ | apply List.Mem.tail)); assumption) | (apply itm_cell; (repeat (first | exact List.Mem.head _ | apply List.Mem.tail)); assumption; rfl))) ?_
        refine KO.q rfl (q_as_rw (q_build st_103 rfl (by repeat (first | exact Fill.nil | (apply Fill.cons; rfl; rfl; rfl) | exact SetN.nil | apply SetN.cons | exact SetAt.here | apply SetAt.there))) (by rfl)) ?_
        refine KO.loud rfl (OpL.callG rfl (by repeat (first | exact Give.nil | (apply Give.perI; (repeat (first | exact List.Mem.head _ | apply List.Mem.tail))) | (apply Give.own; (repeat (first | exact Pick.here | apply Pick.there))))) (ref_RightRow _)) ?_
        rintro _ _ ⟨_, ⟨rfl, rfl⟩, rfl⟩
        refine KO.q rfl (q_pickT rfl rfl) ?_
        refine KO.q rfl (q_assign rfl) ?_
        refine KO.done ?_
        repeat (first | refine K.seq ?_ | refine K.skip ?_ | refine K.block ?_ | refine K.inBlock ?_ | refine K.label ?_)
        refine K.region ?_
        refine KO.q rfl (q_move rfl) ?_
        refine KO.q rfl (q_move rfl) ?_
        refine KO.split 110 rfl (fun g110 => ?_) (fun g110 => ?_)
        · refine KO.q rfl (q_as_eff (q_loadN ck_63 rfl rfl (by first | (apply cells_pv; (repeat (first | exact List.Mem.head _ | apply List.Mem.tail))) | (apply cells_fv; (repeat (first | exact List.Mem.head _ | apply List.Mem.tail))))) (by rfl)) ?_
          refine KO.q rfl (q_loadN ck_63 rfl rfl (by first | (apply cells_pv; (repeat (first | exact List.Mem.head _ | apply List.Mem.tail))) | (apply cells_fv; (repeat (first | exact List.Mem.head _ | apply List.Mem.tail))))) ?_
          refine KO.q rfl (q_recEGs Try.underlying63 eff_hp eff_hg rfl rfl (eff_eqD _ _ Try.underlying63)) ?_
          refine KO.q rfl (q_pickT rfl rfl) ?_
          refine KO.q rfl (q_assign rfl) ?_
          refine KO.done ?_
          refine K.ret (fn := Try.f46) Try.func46 (fun a w hk hs => res1 Try.results46 hk rfl) (fun w hs => ?_)
          first | (exfalso; omega) | exact ⟨_, [], rfl, ⟨by (try simp only [rw_right_nil] at *); simp [Eff.right, Eff.rightK, Eff.named, effId, *], rfl⟩, hs.fit (by repeat (first | exact Give.nil | (apply Give.perI; (repeat (first | exact List.Mem.head _ | apply List.Mem.tail))) | (apply Give.own; (repeat (first | exact Pick.here | apply Pick.there))))) (by repeat (first | exact Drop.refl | apply Drop.skip))⟩
        · refine KO.skip rfl ?_
          refine KO.skip rfl ?_
          refine KO.skip rfl ?_
          refine KO.q rfl (q_pickF rfl rfl) ?_
          refine KO.q rfl (q_assign rfl) ?_
          refine KO.done ?_
          refine K.ret (fn := Try.f46) Try.func46 (fun a w hk hs => res1 Try.results46 hk rfl) (fun w hs => ?_)
          first | (exfalso; omega) | exact ⟨_, [], rfl, ⟨by (try simp only [rw_right_nil] at *); simp [Eff.right, Eff.rightK, Eff.named, effId, *], rfl⟩, hs.fit (by repeat (first | exact Give.nil | (apply Give.perI; (repeat (first | exact List.Mem.head _ | apply List.Mem.tail))) | (apply Give.own; (repeat (first | exact Pick.here | apply Pick.there))))) (by repeat (first | exact Drop.refl | apply Drop.skip))⟩
      · refine KO.skip rfl ?_
        refine KO.skip rfl ?_
        refine KO.skip rfl ?_
        refine KO.skip rfl ?_
        refine KO.skip rfl ?_
        refine KO.skip rfl ?_
        refine KO.q rfl (q_pickF rfl rfl) ?_
        refine KO.q rfl (q_assign rfl) ?_
        refine KO.done ?_
        repeat (first | refine K.seq ?_ | refine K.skip ?_ | refine K.block ?_ | refine K.inBlock ?_ | refine K.label ?_)
        refine K.region ?_
        refine KO.q rfl (q_move rfl) ?_
        refine KO.q rfl (q_move rfl) ?_
        refine KO.skip rfl ?_
        refine KO.skip rfl ?_
        refine KO.skip rfl ?_
        refine KO.q rfl (q_pickF rfl rfl) ?_
        refine KO.q rfl (q_assign rfl) ?_
        refine KO.done ?_
        refine K.ret (fn := Try.f46) Try.func46 (fun a w hk hs => res1 Try.results46 hk rfl) (fun w hs => ?_)
        first | (exfalso; omega) | exact ⟨_, [], rfl, ⟨by (try simp only [rw_right_nil] at *); simp [Eff.right, Eff.rightK, Eff.named, effId, *], rfl⟩, hs.fit (by repeat (first | exact Give.nil | (apply Give.perI; (repeat (first | exact List.Mem.head _ | apply List.Mem.tail))) | (apply Give.own; (repeat (first | exact Pick.here | apply Pick.there))))) (by repeat (first | exact Drop.refl | apply Drop.skip))⟩
    · repeat (first | refine K.seq ?_ | refine K.skip ?_ | refine K.block ?_ | refine K.inBlock ?_ | refine K.label ?_)
      refine K.region ?_
      refine KO.q rfl (q_eq rfl rfl) ?_
      refine KO.q rfl (q_assign rfl) ?_
      refine KO.done ?_
      refine K.dcond (s := 48) rfl (fun g48 => ?_) (fun g48 => ?_)
      · repeat (first | refine K.seq ?_ | refine K.skip ?_ | refine K.block ?_ | refine K.inBlock ?_ | refine K.label ?_)
        refine K.region ?_
        refine KO.q rfl (q_field fo_63_2 rfl) ?_
        refine KO.q rfl (q_load1 ck_9 rfl (by first | (apply cell_pv; (repeat (first | exact List.Mem.head _ | apply List.Mem.tail)); rfl) | (apply cell_fv; (repeat (first | exact List.Mem.head _ | apply List.Mem.tail)); rfl) | (apply rowF_cellU; (repeat (first | exact List.Mem.head _ | apply List.Mem.tail)); assumption) | (apply itm_cell; (repeat (first | exact List.Mem.head _ | apply List.Mem.tail)); assumption; rfl))) ?_
        refine KO.q rfl (q_field fo_63_2 rfl) ?_
        refine KO.loudN rfl (l_store1 ck_9 rfl rfl rfl (by repeat (first | exact Pick.here | apply Pick.there)) (by repeat (first | exact SetAt.here | apply SetAt.there))) ?_
        rintro _ _ ⟨rfl, rfl⟩
        refine KO.done ?_
        refine K.region ?_
        refine KO.q rfl (q_move rfl) ?_
        refine KO.q rfl (q_move rfl) ?_
        refine KO.split 54 rfl (fun g54 => ?_) (fun g54 => ?_)
        · refine KO.q rfl (q_field fo_63_2 rfl) ?_
          refine KO.q rfl (q_load1 ck_9 rfl (by first | (apply cell_pv; (repeat (first | exact List.Mem.head _ | apply List.Mem.tail)); rfl) | (apply cell_fv; (repeat (first | exact List.Mem.head _ | apply List.Mem.tail)); rfl) | (apply rowF_cellU; (repeat (first | exact List.Mem.head _ | apply List.Mem.tail)); assumption) | (apply itm_cell; (repeat (first | exact List.Mem.head _ | apply List.Mem.tail)); assumption; rfl))) ?_
          refine KO.q rfl (q_as_rw (q_build st_103 rfl (by repeat (first | exact Fill.nil | (apply Fill.cons; rfl; rfl; rfl) | exact SetN.nil | apply SetN.cons | exact SetAt.here | apply SetAt.there))) (by rfl)) ?_
          refine KO.loud rfl (OpL.callG rfl (by repeat (first | exact Give.nil | (apply Give.perI; (repeat (first | exact List.Mem.head _ | apply List.Mem.tail))) | (apply Give.own; (repeat (first | exact Pick.here | apply Pick.there))))) (ref_RightRow _)) ?_
          rintro _ _ ⟨_, ⟨rfl, rfl⟩, rfl⟩
          refine KO.q rfl (q_pickT rfl rfl) ?_
          refine KO.q rfl (q_assign rfl) ?_
          refine KO.done ?_
          repeat (first | refine K.seq ?_ | refine K.skip ?_ | refine K.block ?_ | refine K.inBlock ?_ | refine K.label ?_)
          refine K.region ?_
          refine KO.q rfl (q_move rfl) ?_
          refine KO.q rfl (q_move rfl) ?_
          refine KO.split 110 rfl (fun g110 => ?_) (fun g110 => ?_)
          · refine KO.q rfl (q_as_eff (q_loadN ck_63 rfl rfl (by first | (apply cells_pv; (repeat (first | exact List.Mem.head _ | apply List.Mem.tail))) | (apply cells_fv; (repeat (first | exact List.Mem.head _ | apply List.Mem.tail))))) (by rfl)) ?_
            refine KO.q rfl (q_loadN ck_63 rfl rfl (by first | (apply cells_pv; (repeat (first | exact List.Mem.head _ | apply List.Mem.tail))) | (apply cells_fv; (repeat (first | exact List.Mem.head _ | apply List.Mem.tail))))) ?_
            refine KO.q rfl (q_recEGs Try.underlying63 eff_hp eff_hg rfl rfl (eff_eqD _ _ Try.underlying63)) ?_
            refine KO.q rfl (q_pickT rfl rfl) ?_
            refine KO.q rfl (q_assign rfl) ?_
            refine KO.done ?_
            refine K.ret (fn := Try.f46) Try.func46 (fun a w hk hs => res1 Try.results46 hk rfl) (fun w hs => ?_)
            first | (exfalso; omega) | exact ⟨_, [], rfl, ⟨by (try simp only [rw_right_nil] at *); simp [Eff.right, Eff.rightK, Eff.named, effId, *], rfl⟩, hs.fit (by repeat (first | exact Give.nil | (apply Give.perI; (repeat (first | exact List.Mem.head _ | apply List.Mem.tail))) | (apply Give.own; (repeat (first | exact Pick.here | apply Pick.there))))) (by repeat (first | exact Drop.refl | apply Drop.skip))⟩
          · refine KO.skip rfl ?_
            refine KO.skip rfl ?_
            refine KO.skip rfl ?_
            refine KO.q rfl (q_pickF rfl rfl) ?_
            refine KO.q rfl (q_assign rfl) ?_
            refine KO.done ?_
            refine K.ret (fn := Try.f46) Try.func46 (fun a w hk hs => res1 Try.results46 hk rfl) (fun w hs => ?_)
            first | (exfalso; omega) | exact ⟨_, [], rfl, ⟨by (try simp only [rw_right_nil] at *); simp [Eff.right, Eff.rightK, Eff.named, effId, *], rfl⟩, hs.fit (by repeat (first | exact Give.nil | (apply Give.perI; (repeat (first | exact List.Mem.head _ | apply List.Mem.tail))) | (apply Give.own; (repeat (first | exact Pick.here | apply Pick.there))))) (by repeat (first | exact Drop.refl | apply Drop.skip))⟩
        · refine KO.skip rfl ?_
          refine KO.skip rfl ?_
          refine KO.skip rfl ?_
          refine KO.skip rfl ?_
          refine KO.q rfl (q_pickF rfl rfl) ?_
          refine KO.q rfl (q_assign rfl) ?_
          refine KO.done ?_
          repeat (first | refine K.seq ?_ | refine K.skip ?_ | refine K.block ?_ | refine K.inBlock ?_ | refine K.label ?_)
          refine K.region ?_
          refine KO.q rfl (q_move rfl) ?_
          refine KO.q rfl (q_move rfl) ?_
          refine KO.skip rfl ?_
          refine KO.skip rfl ?_
          refine KO.skip rfl ?_
          refine KO.q rfl (q_pickF rfl rfl) ?_
          refine KO.q rfl (q_assign rfl) ?_
          refine KO.done ?_
          refine K.ret (fn := Try.f46) Try.func46 (fun a w hk hs => res1 Try.results46 hk rfl) (fun w hs => ?_)
          first | (exfalso; omega) | exact ⟨_, [], rfl, ⟨by (try simp only [rw_right_nil] at *); simp [Eff.right, Eff.rightK, Eff.named, effId, *], rfl⟩, hs.fit (by repeat (first | exact Give.nil | (apply Give.perI; (repeat (first | exact List.Mem.head _ | apply List.Mem.tail))) | (apply Give.own; (repeat (first | exact Pick.here | apply Pick.there))))) (by repeat (first | exact Drop.refl | apply Drop.skip))⟩
      · repeat (first | refine K.seq ?_ | refine K.skip ?_ | refine K.block ?_ | refine K.inBlock ?_ | refine K.label ?_)
        refine K.region ?_
        refine KO.q rfl (q_eq rfl rfl) ?_
        refine KO.q rfl (q_assign rfl) ?_
        refine KO.done ?_
        refine K.dcond (s := 60) rfl (fun g60 => ?_) (fun g60 => ?_)
        · repeat (first | refine K.seq ?_ | refine K.skip ?_ | refine K.block ?_ | refine K.inBlock ?_ | refine K.label ?_)
          refine K.region ?_
          refine KO.q rfl (q_field fo_63_7 rfl) ?_
          refine KO.q rfl (q_ldPS sub_eff_msg msg_sz ck_24 rfl (by repeat (first | exact List.Mem.head _ | apply List.Mem.tail))) ?_
          refine KO.q rfl (q_field fo_63_7 rfl) ?_
          refine KO.loudN rfl (l_storeN ck_24 rfl rfl rfl (msg_one _) (by repeat (first | exact Pick.here | apply Pick.there)) (by repeat (first | exact SetN.nil | apply SetN.cons | exact SetAt.here | apply SetAt.there))) ?_
          rintro _ _ ⟨rfl, rfl⟩
          refine KO.done ?_
          refine K.region ?_
          refine KO.q rfl (q_move rfl) ?_
          refine KO.q rfl (q_move rfl) ?_
          refine KO.split 66 rfl (fun g66 => ?_) (fun g66 => ?_)
          · refine KO.q rfl (q_field fo_63_7 rfl) ?_
            refine KO.q rfl (q_ldPS sub_eff_msg msg_sz ck_24 rfl (by repeat (first | exact List.Mem.head _ | apply List.Mem.tail))) ?_
            refine KO.loud rfl (OpL.callG rfl (by repeat (first | exact Give.nil | (apply Give.perI; (repeat (first | exact List.Mem.head _ | apply List.Mem.tail))) | (apply Give.own; (repeat (first | exact Pick.here | apply Pick.there))))) (ref_Right _)) ?_
            rintro _ _ ⟨_, ⟨rfl, rfl⟩, rfl⟩
            refine KO.q rfl (q_pickT rfl rfl) ?_
            refine KO.q rfl (q_assign rfl) ?_
            refine KO.done ?_
            repeat (first | refine K.seq ?_ | refine K.skip ?_ | refine K.block ?_ | refine K.inBlock ?_ | refine K.label ?_)
            refine K.region ?_
            refine KO.q rfl (q_move rfl) ?_
            refine KO.q rfl (q_move rfl) ?_
            refine KO.split 110 rfl (fun g110 => ?_) (fun g110 => ?_)
            · refine KO.q rfl (q_as_eff (q_loadN ck_63 rfl rfl (by first | (apply cells_pv; (repeat (first | exact List.Mem.head _ | apply List.Mem.tail))) | (apply cells_fv; (repeat (first | exact List.Mem.head _ | apply List.Mem.tail))))) (by rfl)) ?_
              refine KO.q rfl (q_loadN ck_63 rfl rfl (by first | (apply cells_pv; (repeat (first | exact List.Mem.head _ | apply List.Mem.tail))) | (apply cells_fv; (repeat (first | exact List.Mem.head _ | apply List.Mem.tail))))) ?_
              refine KO.q rfl (q_recEGs Try.underlying63 eff_hp eff_hg rfl rfl (eff_eqD _ _ Try.underlying63)) ?_
              refine KO.q rfl (q_pickT rfl rfl) ?_
              refine KO.q rfl (q_assign rfl) ?_
              refine KO.done ?_
              refine K.ret (fn := Try.f46) Try.func46 (fun a w hk hs => res1 Try.results46 hk rfl) (fun w hs => ?_)
              first | (exfalso; omega) | exact ⟨_, [], rfl, ⟨by (try simp only [rw_right_nil] at *); simp [Eff.right, Eff.rightK, Eff.named, effId, *], rfl⟩, hs.fit (by repeat (first | exact Give.nil | (apply Give.perI; (repeat (first | exact List.Mem.head _ | apply List.Mem.tail))) | (apply Give.own; (repeat (first | exact Pick.here | apply Pick.there))))) (by repeat (first | exact Drop.refl | apply Drop.skip))⟩
            · refine KO.skip rfl ?_
              refine KO.skip rfl ?_
              refine KO.skip rfl ?_
              refine KO.q rfl (q_pickF rfl rfl) ?_
              refine KO.q rfl (q_assign rfl) ?_
              refine KO.done ?_
              refine K.ret (fn := Try.f46) Try.func46 (fun a w hk hs => res1 Try.results46 hk rfl) (fun w hs => ?_)
              first | (exfalso; omega) | exact ⟨_, [], rfl, ⟨by (try simp only [rw_right_nil] at *); simp [Eff.right, Eff.rightK, Eff.named, effId, *], rfl⟩, hs.fit (by repeat (first | exact Give.nil | (apply Give.perI; (repeat (first | exact List.Mem.head _ | apply List.Mem.tail))) | (apply Give.own; (repeat (first | exact Pick.here | apply Pick.there))))) (by repeat (first | exact Drop.refl | apply Drop.skip))⟩
          · refine KO.skip rfl ?_
            refine KO.skip rfl ?_
            refine KO.skip rfl ?_
            refine KO.q rfl (q_pickF rfl rfl) ?_
            refine KO.q rfl (q_assign rfl) ?_
            refine KO.done ?_
            repeat (first | refine K.seq ?_ | refine K.skip ?_ | refine K.block ?_ | refine K.inBlock ?_ | refine K.label ?_)
            refine K.region ?_
            refine KO.q rfl (q_move rfl) ?_
            refine KO.q rfl (q_move rfl) ?_
            refine KO.skip rfl ?_
            refine KO.skip rfl ?_
            refine KO.skip rfl ?_
            refine KO.q rfl (q_pickF rfl rfl) ?_
            refine KO.q rfl (q_assign rfl) ?_
            refine KO.done ?_
            refine K.ret (fn := Try.f46) Try.func46 (fun a w hk hs => res1 Try.results46 hk rfl) (fun w hs => ?_)
            first | (exfalso; omega) | exact ⟨_, [], rfl, ⟨by (try simp only [rw_right_nil] at *); simp [Eff.right, Eff.rightK, Eff.named, effId, *], rfl⟩, hs.fit (by repeat (first | exact Give.nil | (apply Give.perI; (repeat (first | exact List.Mem.head _ | apply List.Mem.tail))) | (apply Give.own; (repeat (first | exact Pick.here | apply Pick.there))))) (by repeat (first | exact Drop.refl | apply Drop.skip))⟩
        · repeat (first | refine K.seq ?_ | refine K.skip ?_ | refine K.block ?_ | refine K.inBlock ?_ | refine K.label ?_)
          refine K.region ?_
          refine KO.q rfl (q_eq rfl rfl) ?_
          refine KO.q rfl (q_assign rfl) ?_
          refine KO.done ?_
          refine K.dcond (s := 71) rfl (fun g71 => ?_) (fun g71 => ?_)
          · repeat (first | refine K.seq ?_ | refine K.skip ?_ | refine K.block ?_ | refine K.inBlock ?_ | refine K.label ?_)
            refine K.yes rfl ?_
            repeat (first | refine K.seq ?_ | refine K.skip ?_ | refine K.block ?_ | refine K.inBlock ?_ | refine K.label ?_)
            refine K.region ?_
            refine KO.q rfl (q_field fo_63_4 rfl) ?_
            refine KO.q rfl (q_load1 ck_3 rfl (by first | (apply cell_pv; (repeat (first | exact List.Mem.head _ | apply List.Mem.tail)); rfl) | (apply cell_fv; (repeat (first | exact List.Mem.head _ | apply List.Mem.tail)); rfl) | (apply rowF_cellU; (repeat (first | exact List.Mem.head _ | apply List.Mem.tail)); assumption) | (apply itm_cell; (repeat (first | exact List.Mem.head _ | apply List.Mem.tail)); assumption; rfl))) ?_
            refine KO.q rfl (q_field fo_63_4 rfl) ?_
            refine KO.loudN rfl (l_store1 ck_3 rfl rfl rfl (by repeat (first | exact Pick.here | apply Pick.there)) (by repeat (first | exact SetAt.here | apply SetAt.there))) ?_
            rintro _ _ ⟨rfl, rfl⟩
            refine KO.done ?_
            repeat (first | refine K.seq ?_ | refine K.skip ?_ | refine K.block ?_ | refine K.inBlock ?_ | refine K.label ?_)
            refine K.region ?_
            refine KO.q rfl (q_field fo_63_0 rfl) ?_
            refine KO.q rfl (q_load1 ck_3 rfl (by first | (apply cell_pv; (repeat (first | exact List.Mem.head _ | apply List.Mem.tail)); rfl) | (apply cell_fv; (repeat (first | exact List.Mem.head _ | apply List.Mem.tail)); rfl) | (apply rowF_cellU; (repeat (first | exact List.Mem.head _ | apply List.Mem.tail)); assumption) | (apply itm_cell; (repeat (first | exact List.Mem.head _ | apply List.Mem.tail)); assumption; rfl))) ?_
            refine KO.q rfl (q_eq rfl rfl) ?_
            refine KO.done ?_
            refine K.dcond (s := 80) rfl (fun g80 => ?_) (fun g80 => ?_)
            · refine K.region ?_
              refine KO.q rfl (q_field fo_63_6 rfl) ?_
              refine KO.q rfl (q_load1 ck_4 rfl (by first | (apply cell_pv; (repeat (first | exact List.Mem.head _ | apply List.Mem.tail)); rfl) | (apply cell_fv; (repeat (first | exact List.Mem.head _ | apply List.Mem.tail)); rfl) | (apply rowF_cellU; (repeat (first | exact List.Mem.head _ | apply List.Mem.tail)); assumption) | (apply itm_cell; (repeat (first | exact List.Mem.head _ | apply List.Mem.tail)); assumption; rfl))) ?_
              refine KO.q rfl (q_field fo_63_6 rfl) ?_
              refine KO.loudN rfl (l_store1 ck_4 rfl rfl rfl (by repeat (first | exact Pick.here | apply Pick.there)) (by repeat (first | exact SetAt.here | apply SetAt.there))) ?_
              rintro _ _ ⟨rfl, rfl⟩
              refine KO.done ?_
              refine K.region ?_
              refine KO.q rfl (q_move rfl) ?_
              refine KO.q rfl (q_move rfl) ?_
              refine KO.split 85 rfl (fun g85 => ?_) (fun g85 => ?_)
              · refine KO.q rfl (q_field fo_63_4 rfl) ?_
                refine KO.q rfl (q_load1 ck_3 rfl (by first | (apply cell_pv; (repeat (first | exact List.Mem.head _ | apply List.Mem.tail)); rfl) | (apply cell_fv; (repeat (first | exact List.Mem.head _ | apply List.Mem.tail)); rfl) | (apply rowF_cellU; (repeat (first | exact List.Mem.head _ | apply List.Mem.tail)); assumption) | (apply itm_cell; (repeat (first | exact List.Mem.head _ | apply List.Mem.tail)); assumption; rfl))) ?_
                refine KO.q rfl (q_ge rfl rfl) ?_
                refine KO.q rfl (q_pickT rfl rfl) ?_
                refine KO.q rfl (q_move rfl) ?_
                refine KO.dsplit 90 rfl (fun g90 => ?_) (fun g90 => ?_)
                · refine KO.q rfl (q_field fo_63_4 rfl) ?_
                  refine KO.q rfl (q_load1 ck_3 rfl (by first | (apply cell_pv; (repeat (first | exact List.Mem.head _ | apply List.Mem.tail)); rfl) | (apply cell_fv; (repeat (first | exact List.Mem.head _ | apply List.Mem.tail)); rfl) | (apply rowF_cellU; (repeat (first | exact List.Mem.head _ | apply List.Mem.tail)); assumption) | (apply itm_cell; (repeat (first | exact List.Mem.head _ | apply List.Mem.tail)); assumption; rfl))) ?_
                  refine KO.q rfl (q_le rfl rfl) ?_
                  refine KO.q rfl (q_pickT rfl rfl) ?_
                  refine KO.q rfl (q_assign rfl) ?_
                  refine KO.done ?_
                  repeat (first | refine K.seq ?_ | refine K.skip ?_ | refine K.block ?_ | refine K.inBlock ?_ | refine K.label ?_)
                  refine K.region ?_
                  refine KO.q rfl (q_move rfl) ?_
                  refine KO.q rfl (q_move rfl) ?_
                  refine KO.dsplit 110 rfl (fun g110 => ?_) (fun g110 => ?_)
                  · refine KO.q rfl (q_as_eff (q_loadN ck_63 rfl rfl (by first | (apply cells_pv; (repeat (first | exact List.Mem.head _ | apply List.Mem.tail))) | (apply cells_fv; (repeat (first | exact List.Mem.head _ | apply List.Mem.tail))))) (by rfl)) ?_
                    refine KO.q rfl (q_loadN ck_63 rfl rfl (by first | (apply cells_pv; (repeat (first | exact List.Mem.head _ | apply List.Mem.tail))) | (apply cells_fv; (repeat (first | exact List.Mem.head _ | apply List.Mem.tail))))) ?_
                    refine KO.q rfl (q_recEGs Try.underlying63 eff_hp eff_hg rfl rfl (eff_eqD _ _ Try.underlying63)) ?_
                    refine KO.q rfl (q_pickT rfl rfl) ?_
                    refine KO.q rfl (q_assign rfl) ?_
                    refine KO.done ?_
                    refine K.ret (fn := Try.f46) Try.func46 (fun a w hk hs => res1 Try.results46 hk rfl) (fun w hs => ?_)
                    first | (exfalso; omega) | exact ⟨_, [], rfl, ⟨by (try simp only [rw_right_nil] at *); simp [Eff.right, Eff.rightK, Eff.named, effId, *], rfl⟩, hs.fit (by repeat (first | exact Give.nil | (apply Give.perI; (repeat (first | exact List.Mem.head _ | apply List.Mem.tail))) | (apply Give.own; (repeat (first | exact Pick.here | apply Pick.there))))) (by repeat (first | exact Drop.refl | apply Drop.skip))⟩
                  · refine KO.skip rfl ?_
                    refine KO.skip rfl ?_
                    refine KO.skip rfl ?_
                    refine KO.q rfl (q_pickF rfl rfl) ?_
                    refine KO.q rfl (q_assign rfl) ?_
                    refine KO.done ?_
                    refine K.ret (fn := Try.f46) Try.func46 (fun a w hk hs => res1 Try.results46 hk rfl) (fun w hs => ?_)
                    first | (exfalso; omega) | exact ⟨_, [], rfl, ⟨by (try simp only [rw_right_nil] at *); simp [Eff.right, Eff.rightK, Eff.named, effId, *], rfl⟩, hs.fit (by repeat (first | exact Give.nil | (apply Give.perI; (repeat (first | exact List.Mem.head _ | apply List.Mem.tail))) | (apply Give.own; (repeat (first | exact Pick.here | apply Pick.there))))) (by repeat (first | exact Drop.refl | apply Drop.skip))⟩
                · refine KO.skip rfl ?_
                  refine KO.skip rfl ?_
                  refine KO.skip rfl ?_
                  refine KO.q rfl (q_pickF rfl rfl) ?_
                  refine KO.q rfl (q_assign rfl) ?_
                  refine KO.done ?_
                  repeat (first | refine K.seq ?_ | refine K.skip ?_ | refine K.block ?_ | refine K.inBlock ?_ | refine K.label ?_)
                  refine K.region ?_
                  refine KO.q rfl (q_move rfl) ?_
                  refine KO.q rfl (q_move rfl) ?_
                  refine KO.skip rfl ?_
                  refine KO.skip rfl ?_
                  refine KO.skip rfl ?_
                  refine KO.q rfl (q_pickF rfl rfl) ?_
                  refine KO.q rfl (q_assign rfl) ?_
                  refine KO.done ?_
                  refine K.ret (fn := Try.f46) Try.func46 (fun a w hk hs => res1 Try.results46 hk rfl) (fun w hs => ?_)
                  first | (exfalso; omega) | exact ⟨_, [], rfl, ⟨by (try simp only [rw_right_nil] at *); simp [Eff.right, Eff.rightK, Eff.named, effId, *], rfl⟩, hs.fit (by repeat (first | exact Give.nil | (apply Give.perI; (repeat (first | exact List.Mem.head _ | apply List.Mem.tail))) | (apply Give.own; (repeat (first | exact Pick.here | apply Pick.there))))) (by repeat (first | exact Drop.refl | apply Drop.skip))⟩
              · refine KO.skip rfl ?_
                refine KO.skip rfl ?_
                refine KO.skip rfl ?_
                refine KO.q rfl (q_pickF rfl rfl) ?_
                refine KO.q rfl (q_move rfl) ?_
                refine KO.skip rfl ?_
                refine KO.skip rfl ?_
                refine KO.skip rfl ?_
                refine KO.q rfl (q_pickF rfl rfl) ?_
                refine KO.q rfl (q_assign rfl) ?_
                refine KO.done ?_
                repeat (first | refine K.seq ?_ | refine K.skip ?_ | refine K.block ?_ | refine K.inBlock ?_ | refine K.label ?_)
                refine K.region ?_
                refine KO.q rfl (q_move rfl) ?_
                refine KO.q rfl (q_move rfl) ?_
                refine KO.skip rfl ?_
                refine KO.skip rfl ?_
                refine KO.skip rfl ?_
                refine KO.q rfl (q_pickF rfl rfl) ?_
                refine KO.q rfl (q_assign rfl) ?_
                refine KO.done ?_
                refine K.ret (fn := Try.f46) Try.func46 (fun a w hk hs => res1 Try.results46 hk rfl) (fun w hs => ?_)
                first | (exfalso; omega) | exact ⟨_, [], rfl, ⟨by (try simp only [rw_right_nil] at *); simp [Eff.right, Eff.rightK, Eff.named, effId, *], rfl⟩, hs.fit (by repeat (first | exact Give.nil | (apply Give.perI; (repeat (first | exact List.Mem.head _ | apply List.Mem.tail))) | (apply Give.own; (repeat (first | exact Pick.here | apply Pick.there))))) (by repeat (first | exact Drop.refl | apply Drop.skip))⟩
            · repeat (first | refine K.seq ?_ | refine K.skip ?_ | refine K.block ?_ | refine K.inBlock ?_ | refine K.label ?_)
              refine K.region ?_
              refine KO.q rfl (q_move rfl) ?_
              refine KO.q rfl (q_move rfl) ?_
              refine KO.split 85 rfl (fun g85 => ?_) (fun g85 => ?_)
              · refine KO.q rfl (q_field fo_63_4 rfl) ?_
                refine KO.q rfl (q_load1 ck_3 rfl (by first | (apply cell_pv; (repeat (first | exact List.Mem.head _ | apply List.Mem.tail)); rfl) | (apply cell_fv; (repeat (first | exact List.Mem.head _ | apply List.Mem.tail)); rfl) | (apply rowF_cellU; (repeat (first | exact List.Mem.head _ | apply List.Mem.tail)); assumption) | (apply itm_cell; (repeat (first | exact List.Mem.head _ | apply List.Mem.tail)); assumption; rfl))) ?_
                refine KO.q rfl (q_ge rfl rfl) ?_
                refine KO.q rfl (q_pickT rfl rfl) ?_
                refine KO.q rfl (q_move rfl) ?_
                refine KO.dsplit 90 rfl (fun g90 => ?_) (fun g90 => ?_)
                · refine KO.q rfl (q_field fo_63_4 rfl) ?_
                  refine KO.q rfl (q_load1 ck_3 rfl (by first | (apply cell_pv; (repeat (first | exact List.Mem.head _ | apply List.Mem.tail)); rfl) | (apply cell_fv; (repeat (first | exact List.Mem.head _ | apply List.Mem.tail)); rfl) | (apply rowF_cellU; (repeat (first | exact List.Mem.head _ | apply List.Mem.tail)); assumption) | (apply itm_cell; (repeat (first | exact List.Mem.head _ | apply List.Mem.tail)); assumption; rfl))) ?_
                  refine KO.q rfl (q_le rfl rfl) ?_
                  refine KO.q rfl (q_pickT rfl rfl) ?_
                  refine KO.q rfl (q_assign rfl) ?_
                  refine KO.done ?_
                  repeat (first | refine K.seq ?_ | refine K.skip ?_ | refine K.block ?_ | refine K.inBlock ?_ | refine K.label ?_)
                  refine K.region ?_
                  refine KO.q rfl (q_move rfl) ?_
                  refine KO.q rfl (q_move rfl) ?_
                  refine KO.dsplit 110 rfl (fun g110 => ?_) (fun g110 => ?_)
                  · refine KO.q rfl (q_as_eff (q_loadN ck_63 rfl rfl (by first | (apply cells_pv; (repeat (first | exact List.Mem.head _ | apply List.Mem.tail))) | (apply cells_fv; (repeat (first | exact List.Mem.head _ | apply List.Mem.tail))))) (by rfl)) ?_
                    refine KO.q rfl (q_loadN ck_63 rfl rfl (by first | (apply cells_pv; (repeat (first | exact List.Mem.head _ | apply List.Mem.tail))) | (apply cells_fv; (repeat (first | exact List.Mem.head _ | apply List.Mem.tail))))) ?_
                    refine KO.q rfl (q_recEGs Try.underlying63 eff_hp eff_hg rfl rfl (eff_eqD _ _ Try.underlying63)) ?_
                    refine KO.q rfl (q_pickT rfl rfl) ?_
                    refine KO.q rfl (q_assign rfl) ?_
                    refine KO.done ?_
                    refine K.ret (fn := Try.f46) Try.func46 (fun a w hk hs => res1 Try.results46 hk rfl) (fun w hs => ?_)
                    first | (exfalso; omega) | exact ⟨_, [], rfl, ⟨by (try simp only [rw_right_nil] at *); simp [Eff.right, Eff.rightK, Eff.named, effId, *], rfl⟩, hs.fit (by repeat (first | exact Give.nil | (apply Give.perI; (repeat (first | exact List.Mem.head _ | apply List.Mem.tail))) | (apply Give.own; (repeat (first | exact Pick.here | apply Pick.there))))) (by repeat (first | exact Drop.refl | apply Drop.skip))⟩
                  · refine KO.skip rfl ?_
                    refine KO.skip rfl ?_
                    refine KO.skip rfl ?_
                    refine KO.q rfl (q_pickF rfl rfl) ?_
                    refine KO.q rfl (q_assign rfl) ?_
                    refine KO.done ?_
                    refine K.ret (fn := Try.f46) Try.func46 (fun a w hk hs => res1 Try.results46 hk rfl) (fun w hs => ?_)
                    first | (exfalso; omega) | exact ⟨_, [], rfl, ⟨by (try simp only [rw_right_nil] at *); simp [Eff.right, Eff.rightK, Eff.named, effId, *], rfl⟩, hs.fit (by repeat (first | exact Give.nil | (apply Give.perI; (repeat (first | exact List.Mem.head _ | apply List.Mem.tail))) | (apply Give.own; (repeat (first | exact Pick.here | apply Pick.there))))) (by repeat (first | exact Drop.refl | apply Drop.skip))⟩
                · refine KO.skip rfl ?_
                  refine KO.skip rfl ?_
                  refine KO.skip rfl ?_
                  refine KO.q rfl (q_pickF rfl rfl) ?_
                  refine KO.q rfl (q_assign rfl) ?_
                  refine KO.done ?_
                  repeat (first | refine K.seq ?_ | refine K.skip ?_ | refine K.block ?_ | refine K.inBlock ?_ | refine K.label ?_)
                  refine K.region ?_
                  refine KO.q rfl (q_move rfl) ?_
                  refine KO.q rfl (q_move rfl) ?_
                  refine KO.skip rfl ?_
                  refine KO.skip rfl ?_
                  refine KO.skip rfl ?_
                  refine KO.q rfl (q_pickF rfl rfl) ?_
                  refine KO.q rfl (q_assign rfl) ?_
                  refine KO.done ?_
                  refine K.ret (fn := Try.f46) Try.func46 (fun a w hk hs => res1 Try.results46 hk rfl) (fun w hs => ?_)
                  first | (exfalso; omega) | exact ⟨_, [], rfl, ⟨by (try simp only [rw_right_nil] at *); simp [Eff.right, Eff.rightK, Eff.named, effId, *], rfl⟩, hs.fit (by repeat (first | exact Give.nil | (apply Give.perI; (repeat (first | exact List.Mem.head _ | apply List.Mem.tail))) | (apply Give.own; (repeat (first | exact Pick.here | apply Pick.there))))) (by repeat (first | exact Drop.refl | apply Drop.skip))⟩
              · refine KO.skip rfl ?_
                refine KO.skip rfl ?_
                refine KO.skip rfl ?_
                refine KO.q rfl (q_pickF rfl rfl) ?_
                refine KO.q rfl (q_move rfl) ?_
                refine KO.skip rfl ?_
                refine KO.skip rfl ?_
                refine KO.skip rfl ?_
                refine KO.q rfl (q_pickF rfl rfl) ?_
                refine KO.q rfl (q_assign rfl) ?_
                refine KO.done ?_
                repeat (first | refine K.seq ?_ | refine K.skip ?_ | refine K.block ?_ | refine K.inBlock ?_ | refine K.label ?_)
                refine K.region ?_
                refine KO.q rfl (q_move rfl) ?_
                refine KO.q rfl (q_move rfl) ?_
                refine KO.skip rfl ?_
                refine KO.skip rfl ?_
                refine KO.skip rfl ?_
                refine KO.q rfl (q_pickF rfl rfl) ?_
                refine KO.q rfl (q_assign rfl) ?_
                refine KO.done ?_
                refine K.ret (fn := Try.f46) Try.func46 (fun a w hk hs => res1 Try.results46 hk rfl) (fun w hs => ?_)
                first | (exfalso; omega) | exact ⟨_, [], rfl, ⟨by (try simp only [rw_right_nil] at *); simp [Eff.right, Eff.rightK, Eff.named, effId, *], rfl⟩, hs.fit (by repeat (first | exact Give.nil | (apply Give.perI; (repeat (first | exact List.Mem.head _ | apply List.Mem.tail))) | (apply Give.own; (repeat (first | exact Pick.here | apply Pick.there))))) (by repeat (first | exact Drop.refl | apply Drop.skip))⟩
          · repeat (first | refine K.seq ?_ | refine K.skip ?_ | refine K.block ?_ | refine K.inBlock ?_ | refine K.label ?_)
            refine K.region ?_
            refine KO.q rfl (q_eq rfl rfl) ?_
            refine KO.q rfl (q_assign rfl) ?_
            refine KO.done ?_
            refine K.dcond (s := 71) rfl (fun g71 => ?_) (fun g71 => ?_)
            · repeat (first | refine K.seq ?_ | refine K.skip ?_ | refine K.block ?_ | refine K.inBlock ?_ | refine K.label ?_)
              refine K.yes rfl ?_
              repeat (first | refine K.seq ?_ | refine K.skip ?_ | refine K.block ?_ | refine K.inBlock ?_ | refine K.label ?_)
              refine K.region ?_
              refine KO.q rfl (q_field fo_63_4 rfl) ?_
              refine KO.q rfl (q_load1 ck_3 rfl (by first | (apply cell_pv; (repeat (first | exact List.Mem.head _ | apply List.Mem.tail)); rfl) | (apply cell_fv; (repeat (first | exact List.Mem.head _ | apply List.Mem.tail)); rfl) | (apply rowF_cellU; (repeat (first | exact List.Mem.head _ | apply List.Mem.tail)); assumption) | (apply itm_cell; (repeat (first | exact List.Mem.head _ | apply List.Mem.tail)); assumption; rfl))) ?_
              refine KO.q rfl (q_field fo_63_4 rfl) ?_
              refine KO.loudN rfl (l_store1 ck_3 rfl rfl rfl (by repeat (first | exact Pick.here | apply Pick.there)) (by repeat (first | exact SetAt.here | apply SetAt.there))) ?_
              rintro _ _ ⟨rfl, rfl⟩
              refine KO.done ?_
              repeat (first | refine K.seq ?_ | refine K.skip ?_ | refine K.block ?_ | refine K.inBlock ?_ | refine K.label ?_)
              refine K.region ?_
              refine KO.q rfl (q_field fo_63_0 rfl) ?_
              refine KO.q rfl (q_load1 ck_3 rfl (by first | (apply cell_pv; (repeat (first | exact List.Mem.head _ | apply List.Mem.tail)); rfl) | (apply cell_fv; (repeat (first | exact List.Mem.head _ | apply List.Mem.tail)); rfl) | (apply rowF_cellU; (repeat (first | exact List.Mem.head _ | apply List.Mem.tail)); assumption) | (apply itm_cell; (repeat (first | exact List.Mem.head _ | apply List.Mem.tail)); assumption; rfl))) ?_
              refine KO.q rfl (q_eq rfl rfl) ?_
              refine KO.done ?_
              refine K.dcond (s := 80) rfl (fun g80 => ?_) (fun g80 => ?_)
              · refine K.region ?_
                refine KO.q rfl (q_field fo_63_6 rfl) ?_
                refine KO.q rfl (q_load1 ck_4 rfl (by first | (apply cell_pv; (repeat (first | exact List.Mem.head _ | apply List.Mem.tail)); rfl) | (apply cell_fv; (repeat (first | exact List.Mem.head _ | apply List.Mem.tail)); rfl) | (apply rowF_cellU; (repeat (first | exact List.Mem.head _ | apply List.Mem.tail)); assumption) | (apply itm_cell; (repeat (first | exact List.Mem.head _ | apply List.Mem.tail)); assumption; rfl))) ?_
                refine KO.q rfl (q_field fo_63_6 rfl) ?_
                refine KO.loudN rfl (l_store1 ck_4 rfl rfl rfl (by repeat (first | exact Pick.here | apply Pick.there)) (by repeat (first | exact SetAt.here | apply SetAt.there))) ?_
                rintro _ _ ⟨rfl, rfl⟩
                refine KO.done ?_
                refine K.region ?_
                refine KO.q rfl (q_move rfl) ?_
                refine KO.q rfl (q_move rfl) ?_
                refine KO.split 85 rfl (fun g85 => ?_) (fun g85 => ?_)
                · refine KO.q rfl (q_field fo_63_4 rfl) ?_
                  refine KO.q rfl (q_load1 ck_3 rfl (by first | (apply cell_pv; (repeat (first | exact List.Mem.head _ | apply List.Mem.tail)); rfl) | (apply cell_fv; (repeat (first | exact List.Mem.head _ | apply List.Mem.tail)); rfl) | (apply rowF_cellU; (repeat (first | exact List.Mem.head _ | apply List.Mem.tail)); assumption) | (apply itm_cell; (repeat (first | exact List.Mem.head _ | apply List.Mem.tail)); assumption; rfl))) ?_
                  refine KO.q rfl (q_ge rfl rfl) ?_
                  refine KO.q rfl (q_pickT rfl rfl) ?_
                  refine KO.q rfl (q_move rfl) ?_
                  refine KO.dsplit 90 rfl (fun g90 => ?_) (fun g90 => ?_)
                  · refine KO.q rfl (q_field fo_63_4 rfl) ?_
                    refine KO.q rfl (q_load1 ck_3 rfl (by first | (apply cell_pv; (repeat (first | exact List.Mem.head _ | apply List.Mem.tail)); rfl) | (apply cell_fv; (repeat (first | exact List.Mem.head _ | apply List.Mem.tail)); rfl) | (apply rowF_cellU; (repeat (first | exact List.Mem.head _ | apply List.Mem.tail)); assumption) | (apply itm_cell; (repeat (first | exact List.Mem.head _ | apply List.Mem.tail)); assumption; rfl))) ?_
                    refine KO.q rfl (q_le rfl rfl) ?_
                    refine KO.q rfl (q_pickT rfl rfl) ?_
                    refine KO.q rfl (q_assign rfl) ?_
                    refine KO.done ?_
                    repeat (first | refine K.seq ?_ | refine K.skip ?_ | refine K.block ?_ | refine K.inBlock ?_ | refine K.label ?_)
                    refine K.region ?_
                    refine KO.q rfl (q_move rfl) ?_
                    refine KO.q rfl (q_move rfl) ?_
                    refine KO.dsplit 110 rfl (fun g110 => ?_) (fun g110 => ?_)
                    · refine KO.q rfl (q_as_eff (q_loadN ck_63 rfl rfl (by first | (apply cells_pv; (repeat (first | exact List.Mem.head _ | apply List.Mem.tail))) | (apply cells_fv; (repeat (first | exact List.Mem.head _ | apply List.Mem.tail))))) (by rfl)) ?_
                      refine KO.q rfl (q_loadN ck_63 rfl rfl (by first | (apply cells_pv; (repeat (first | exact List.Mem.head _ | apply List.Mem.tail))) | (apply cells_fv; (repeat (first | exact List.Mem.head _ | apply List.Mem.tail))))) ?_
                      refine KO.q rfl (q_recEGs Try.underlying63 eff_hp eff_hg rfl rfl (eff_eqD _ _ Try.underlying63)) ?_
                      refine KO.q rfl (q_pickT rfl rfl) ?_
                      refine KO.q rfl (q_assign rfl) ?_
                      refine KO.done ?_
                      refine K.ret (fn := Try.f46) Try.func46 (fun a w hk hs => res1 Try.results46 hk rfl) (fun w hs => ?_)
                      first | (exfalso; omega) | exact ⟨_, [], rfl, ⟨by (try simp only [rw_right_nil] at *); simp [Eff.right, Eff.rightK, Eff.named, effId, *], rfl⟩, hs.fit (by repeat (first | exact Give.nil | (apply Give.perI; (repeat (first | exact List.Mem.head _ | apply List.Mem.tail))) | (apply Give.own; (repeat (first | exact Pick.here | apply Pick.there))))) (by repeat (first | exact Drop.refl | apply Drop.skip))⟩
                    · refine KO.skip rfl ?_
                      refine KO.skip rfl ?_
                      refine KO.skip rfl ?_
                      refine KO.q rfl (q_pickF rfl rfl) ?_
                      refine KO.q rfl (q_assign rfl) ?_
                      refine KO.done ?_
                      refine K.ret (fn := Try.f46) Try.func46 (fun a w hk hs => res1 Try.results46 hk rfl) (fun w hs => ?_)
                      first | (exfalso; omega) | exact ⟨_, [], rfl, ⟨by (try simp only [rw_right_nil] at *); simp [Eff.right, Eff.rightK, Eff.named, effId, *], rfl⟩, hs.fit (by repeat (first | exact Give.nil | (apply Give.perI; (repeat (first | exact List.Mem.head _ | apply List.Mem.tail))) | (apply Give.own; (repeat (first | exact Pick.here | apply Pick.there))))) (by repeat (first | exact Drop.refl | apply Drop.skip))⟩
                  · refine KO.skip rfl ?_
                    refine KO.skip rfl ?_
                    refine KO.skip rfl ?_
                    refine KO.q rfl (q_pickF rfl rfl) ?_
                    refine KO.q rfl (q_assign rfl) ?_
                    refine KO.done ?_
                    repeat (first | refine K.seq ?_ | refine K.skip ?_ | refine K.block ?_ | refine K.inBlock ?_ | refine K.label ?_)
                    refine K.region ?_
                    refine KO.q rfl (q_move rfl) ?_
                    refine KO.q rfl (q_move rfl) ?_
                    refine KO.skip rfl ?_
                    refine KO.skip rfl ?_
                    refine KO.skip rfl ?_
                    refine KO.q rfl (q_pickF rfl rfl) ?_
                    refine KO.q rfl (q_assign rfl) ?_
                    refine KO.done ?_
                    refine K.ret (fn := Try.f46) Try.func46 (fun a w hk hs => res1 Try.results46 hk rfl) (fun w hs => ?_)
                    first | (exfalso; omega) | exact ⟨_, [], rfl, ⟨by (try simp only [rw_right_nil] at *); simp [Eff.right, Eff.rightK, Eff.named, effId, *], rfl⟩, hs.fit (by repeat (first | exact Give.nil | (apply Give.perI; (repeat (first | exact List.Mem.head _ | apply List.Mem.tail))) | (apply Give.own; (repeat (first | exact Pick.here | apply Pick.there))))) (by repeat (first | exact Drop.refl | apply Drop.skip))⟩
                · refine KO.skip rfl ?_
                  refine KO.skip rfl ?_
                  refine KO.skip rfl ?_
                  refine KO.q rfl (q_pickF rfl rfl) ?_
                  refine KO.q rfl (q_move rfl) ?_
                  refine KO.skip rfl ?_
                  refine KO.skip rfl ?_
                  refine KO.skip rfl ?_
                  refine KO.q rfl (q_pickF rfl rfl) ?_
                  refine KO.q rfl (q_assign rfl) ?_
                  refine KO.done ?_
                  repeat (first | refine K.seq ?_ | refine K.skip ?_ | refine K.block ?_ | refine K.inBlock ?_ | refine K.label ?_)
                  refine K.region ?_
                  refine KO.q rfl (q_move rfl) ?_
                  refine KO.q rfl (q_move rfl) ?_
                  refine KO.skip rfl ?_
                  refine KO.skip rfl ?_
                  refine KO.skip rfl ?_
                  refine KO.q rfl (q_pickF rfl rfl) ?_
                  refine KO.q rfl (q_assign rfl) ?_
                  refine KO.done ?_
                  refine K.ret (fn := Try.f46) Try.func46 (fun a w hk hs => res1 Try.results46 hk rfl) (fun w hs => ?_)
                  first | (exfalso; omega) | exact ⟨_, [], rfl, ⟨by (try simp only [rw_right_nil] at *); simp [Eff.right, Eff.rightK, Eff.named, effId, *], rfl⟩, hs.fit (by repeat (first | exact Give.nil | (apply Give.perI; (repeat (first | exact List.Mem.head _ | apply List.Mem.tail))) | (apply Give.own; (repeat (first | exact Pick.here | apply Pick.there))))) (by repeat (first | exact Drop.refl | apply Drop.skip))⟩
              · repeat (first | refine K.seq ?_ | refine K.skip ?_ | refine K.block ?_ | refine K.inBlock ?_ | refine K.label ?_)
                refine K.region ?_
                refine KO.q rfl (q_move rfl) ?_
                refine KO.q rfl (q_move rfl) ?_
                refine KO.split 85 rfl (fun g85 => ?_) (fun g85 => ?_)
                · refine KO.q rfl (q_field fo_63_4 rfl) ?_
                  refine KO.q rfl (q_load1 ck_3 rfl (by first | (apply cell_pv; (repeat (first | exact List.Mem.head _ | apply List.Mem.tail)); rfl) | (apply cell_fv; (repeat (first | exact List.Mem.head _ | apply List.Mem.tail)); rfl) | (apply rowF_cellU; (repeat (first | exact List.Mem.head _ | apply List.Mem.tail)); assumption) | (apply itm_cell; (repeat (first | exact List.Mem.head _ | apply List.Mem.tail)); assumption; rfl))) ?_
                  refine KO.q rfl (q_ge rfl rfl) ?_
                  refine KO.q rfl (q_pickT rfl rfl) ?_
                  refine KO.q rfl (q_move rfl) ?_
                  refine KO.dsplit 90 rfl (fun g90 => ?_) (fun g90 => ?_)
                  · refine KO.q rfl (q_field fo_63_4 rfl) ?_
                    refine KO.q rfl (q_load1 ck_3 rfl (by first | (apply cell_pv; (repeat (first | exact List.Mem.head _ | apply List.Mem.tail)); rfl) | (apply cell_fv; (repeat (first | exact List.Mem.head _ | apply List.Mem.tail)); rfl) | (apply rowF_cellU; (repeat (first | exact List.Mem.head _ | apply List.Mem.tail)); assumption) | (apply itm_cell; (repeat (first | exact List.Mem.head _ | apply List.Mem.tail)); assumption; rfl))) ?_
                    refine KO.q rfl (q_le rfl rfl) ?_
                    refine KO.q rfl (q_pickT rfl rfl) ?_
                    refine KO.q rfl (q_assign rfl) ?_
                    refine KO.done ?_
                    repeat (first | refine K.seq ?_ | refine K.skip ?_ | refine K.block ?_ | refine K.inBlock ?_ | refine K.label ?_)
                    refine K.region ?_
                    refine KO.q rfl (q_move rfl) ?_
                    refine KO.q rfl (q_move rfl) ?_
                    refine KO.dsplit 110 rfl (fun g110 => ?_) (fun g110 => ?_)
                    · refine KO.q rfl (q_as_eff (q_loadN ck_63 rfl rfl (by first | (apply cells_pv; (repeat (first | exact List.Mem.head _ | apply List.Mem.tail))) | (apply cells_fv; (repeat (first | exact List.Mem.head _ | apply List.Mem.tail))))) (by rfl)) ?_
                      refine KO.q rfl (q_loadN ck_63 rfl rfl (by first | (apply cells_pv; (repeat (first | exact List.Mem.head _ | apply List.Mem.tail))) | (apply cells_fv; (repeat (first | exact List.Mem.head _ | apply List.Mem.tail))))) ?_
                      refine KO.q rfl (q_recEGs Try.underlying63 eff_hp eff_hg rfl rfl (eff_eqD _ _ Try.underlying63)) ?_
                      refine KO.q rfl (q_pickT rfl rfl) ?_
                      refine KO.q rfl (q_assign rfl) ?_
                      refine KO.done ?_
                      refine K.ret (fn := Try.f46) Try.func46 (fun a w hk hs => res1 Try.results46 hk rfl) (fun w hs => ?_)
                      first | (exfalso; omega) | exact ⟨_, [], rfl, ⟨by (try simp only [rw_right_nil] at *); simp [Eff.right, Eff.rightK, Eff.named, effId, *], rfl⟩, hs.fit (by repeat (first | exact Give.nil | (apply Give.perI; (repeat (first | exact List.Mem.head _ | apply List.Mem.tail))) | (apply Give.own; (repeat (first | exact Pick.here | apply Pick.there))))) (by repeat (first | exact Drop.refl | apply Drop.skip))⟩
                    · refine KO.skip rfl ?_
                      refine KO.skip rfl ?_
                      refine KO.skip rfl ?_
                      refine KO.q rfl (q_pickF rfl rfl) ?_
                      refine KO.q rfl (q_assign rfl) ?_
                      refine KO.done ?_
                      refine K.ret (fn := Try.f46) Try.func46 (fun a w hk hs => res1 Try.results46 hk rfl) (fun w hs => ?_)
                      first | (exfalso; omega) | exact ⟨_, [], rfl, ⟨by (try simp only [rw_right_nil] at *); simp [Eff.right, Eff.rightK, Eff.named, effId, *], rfl⟩, hs.fit (by repeat (first | exact Give.nil | (apply Give.perI; (repeat (first | exact List.Mem.head _ | apply List.Mem.tail))) | (apply Give.own; (repeat (first | exact Pick.here | apply Pick.there))))) (by repeat (first | exact Drop.refl | apply Drop.skip))⟩
                  · refine KO.skip rfl ?_
                    refine KO.skip rfl ?_
                    refine KO.skip rfl ?_
                    refine KO.q rfl (q_pickF rfl rfl) ?_
                    refine KO.q rfl (q_assign rfl) ?_
                    refine KO.done ?_
                    repeat (first | refine K.seq ?_ | refine K.skip ?_ | refine K.block ?_ | refine K.inBlock ?_ | refine K.label ?_)
                    refine K.region ?_
                    refine KO.q rfl (q_move rfl) ?_
                    refine KO.q rfl (q_move rfl) ?_
                    refine KO.skip rfl ?_
                    refine KO.skip rfl ?_
                    refine KO.skip rfl ?_
                    refine KO.q rfl (q_pickF rfl rfl) ?_
                    refine KO.q rfl (q_assign rfl) ?_
                    refine KO.done ?_
                    refine K.ret (fn := Try.f46) Try.func46 (fun a w hk hs => res1 Try.results46 hk rfl) (fun w hs => ?_)
                    first | (exfalso; omega) | exact ⟨_, [], rfl, ⟨by (try simp only [rw_right_nil] at *); simp [Eff.right, Eff.rightK, Eff.named, effId, *], rfl⟩, hs.fit (by repeat (first | exact Give.nil | (apply Give.perI; (repeat (first | exact List.Mem.head _ | apply List.Mem.tail))) | (apply Give.own; (repeat (first | exact Pick.here | apply Pick.there))))) (by repeat (first | exact Drop.refl | apply Drop.skip))⟩
                · refine KO.skip rfl ?_
                  refine KO.skip rfl ?_
                  refine KO.skip rfl ?_
                  refine KO.q rfl (q_pickF rfl rfl) ?_
                  refine KO.q rfl (q_move rfl) ?_
                  refine KO.skip rfl ?_
                  refine KO.skip rfl ?_
                  refine KO.skip rfl ?_
                  refine KO.q rfl (q_pickF rfl rfl) ?_
                  refine KO.q rfl (q_assign rfl) ?_
                  refine KO.done ?_
                  repeat (first | refine K.seq ?_ | refine K.skip ?_ | refine K.block ?_ | refine K.inBlock ?_ | refine K.label ?_)
                  refine K.region ?_
                  refine KO.q rfl (q_move rfl) ?_
                  refine KO.q rfl (q_move rfl) ?_
                  refine KO.skip rfl ?_
                  refine KO.skip rfl ?_
                  refine KO.skip rfl ?_
                  refine KO.q rfl (q_pickF rfl rfl) ?_
                  refine KO.q rfl (q_assign rfl) ?_
                  refine KO.done ?_
                  refine K.ret (fn := Try.f46) Try.func46 (fun a w hk hs => res1 Try.results46 hk rfl) (fun w hs => ?_)
                  first | (exfalso; omega) | exact ⟨_, [], rfl, ⟨by (try simp only [rw_right_nil] at *); simp [Eff.right, Eff.rightK, Eff.named, effId, *], rfl⟩, hs.fit (by repeat (first | exact Give.nil | (apply Give.perI; (repeat (first | exact List.Mem.head _ | apply List.Mem.tail))) | (apply Give.own; (repeat (first | exact Pick.here | apply Pick.there))))) (by repeat (first | exact Drop.refl | apply Drop.skip))⟩
            · refine K.region ?_
              refine KO.q rfl (q_eq rfl rfl) ?_
              refine KO.q rfl (q_assign rfl) ?_
              refine KO.done ?_
              refine K.dcond (s := 71) rfl (fun g71 => ?_) (fun g71 => ?_)
              · repeat (first | refine K.seq ?_ | refine K.skip ?_ | refine K.block ?_ | refine K.inBlock ?_ | refine K.label ?_)
                refine K.region ?_
                refine KO.q rfl (q_field fo_63_4 rfl) ?_
                refine KO.q rfl (q_load1 ck_3 rfl (by first | (apply cell_pv; (repeat (first | exact List.Mem.head _ | apply List.Mem.tail)); rfl) | (apply cell_fv; (repeat (first | exact List.Mem.head _ | apply List.Mem.tail)); rfl) | (apply rowF_cellU; (repeat (first | exact List.Mem.head _ | apply List.Mem.tail)); assumption) | (apply itm_cell; (repeat (first | exact List.Mem.head _ | apply List.Mem.tail)); assumption; rfl))) ?_
                refine KO.q rfl (q_field fo_63_4 rfl) ?_
                refine KO.loudN rfl (l_store1 ck_3 rfl rfl rfl (by repeat (first | exact Pick.here | apply Pick.there)) (by repeat (first | exact SetAt.here | apply SetAt.there))) ?_
                rintro _ _ ⟨rfl, rfl⟩
                refine KO.done ?_
                repeat (first | refine K.seq ?_ | refine K.skip ?_ | refine K.block ?_ | refine K.inBlock ?_ | refine K.label ?_)
                refine K.region ?_
                refine KO.q rfl (q_field fo_63_0 rfl) ?_
                refine KO.q rfl (q_load1 ck_3 rfl (by first | (apply cell_pv; (repeat (first | exact List.Mem.head _ | apply List.Mem.tail)); rfl) | (apply cell_fv; (repeat (first | exact List.Mem.head _ | apply List.Mem.tail)); rfl) | (apply rowF_cellU; (repeat (first | exact List.Mem.head _ | apply List.Mem.tail)); assumption) | (apply itm_cell; (repeat (first | exact List.Mem.head _ | apply List.Mem.tail)); assumption; rfl))) ?_
                refine KO.q rfl (q_eq rfl rfl) ?_
                refine KO.done ?_
                refine K.dcond (s := 80) rfl (fun g80 => ?_) (fun g80 => ?_)
                · refine K.region ?_
                  refine KO.q rfl (q_field fo_63_6 rfl) ?_
                  refine KO.q rfl (q_load1 ck_4 rfl (by first | (apply cell_pv; (repeat (first | exact List.Mem.head _ | apply List.Mem.tail)); rfl) | (apply cell_fv; (repeat (first | exact List.Mem.head _ | apply List.Mem.tail)); rfl) | (apply rowF_cellU; (repeat (first | exact List.Mem.head _ | apply List.Mem.tail)); assumption) | (apply itm_cell; (repeat (first | exact List.Mem.head _ | apply List.Mem.tail)); assumption; rfl))) ?_
                  refine KO.q rfl (q_field fo_63_6 rfl) ?_
                  refine KO.loudN rfl (l_store1 ck_4 rfl rfl rfl (by repeat (first | exact Pick.here | apply Pick.there)) (by repeat (first | exact SetAt.here | apply SetAt.there))) ?_
                  rintro _ _ ⟨rfl, rfl⟩
                  refine KO.done ?_
                  refine K.region ?_
                  refine KO.q rfl (q_move rfl) ?_
                  refine KO.q rfl (q_move rfl) ?_
                  refine KO.split 85 rfl (fun g85 => ?_) (fun g85 => ?_)
                  · refine KO.q rfl (q_field fo_63_4 rfl) ?_
                    refine KO.q rfl (q_load1 ck_3 rfl (by first | (apply cell_pv; (repeat (first | exact List.Mem.head _ | apply List.Mem.tail)); rfl) | (apply cell_fv; (repeat (first | exact List.Mem.head _ | apply List.Mem.tail)); rfl) | (apply rowF_cellU; (repeat (first | exact List.Mem.head _ | apply List.Mem.tail)); assumption) | (apply itm_cell; (repeat (first | exact List.Mem.head _ | apply List.Mem.tail)); assumption; rfl))) ?_
                    refine KO.q rfl (q_ge rfl rfl) ?_
                    refine KO.q rfl (q_pickT rfl rfl) ?_
                    refine KO.q rfl (q_move rfl) ?_
                    refine KO.dsplit 90 rfl (fun g90 => ?_) (fun g90 => ?_)
                    · refine KO.q rfl (q_field fo_63_4 rfl) ?_
                      refine KO.q rfl (q_load1 ck_3 rfl (by first | (apply cell_pv; (repeat (first | exact List.Mem.head _ | apply List.Mem.tail)); rfl) | (apply cell_fv; (repeat (first | exact List.Mem.head _ | apply List.Mem.tail)); rfl) | (apply rowF_cellU; (repeat (first | exact List.Mem.head _ | apply List.Mem.tail)); assumption) | (apply itm_cell; (repeat (first | exact List.Mem.head _ | apply List.Mem.tail)); assumption; rfl))) ?_
                      refine KO.q rfl (q_le rfl rfl) ?_
                      refine KO.q rfl (q_pickT rfl rfl) ?_
                      refine KO.q rfl (q_assign rfl) ?_
                      refine KO.done ?_
                      repeat (first | refine K.seq ?_ | refine K.skip ?_ | refine K.block ?_ | refine K.inBlock ?_ | refine K.label ?_)
                      refine K.region ?_
                      refine KO.q rfl (q_move rfl) ?_
                      refine KO.q rfl (q_move rfl) ?_
                      refine KO.dsplit 110 rfl (fun g110 => ?_) (fun g110 => ?_)
                      · refine KO.q rfl (q_as_eff (q_loadN ck_63 rfl rfl (by first | (apply cells_pv; (repeat (first | exact List.Mem.head _ | apply List.Mem.tail))) | (apply cells_fv; (repeat (first | exact List.Mem.head _ | apply List.Mem.tail))))) (by rfl)) ?_
                        refine KO.q rfl (q_loadN ck_63 rfl rfl (by first | (apply cells_pv; (repeat (first | exact List.Mem.head _ | apply List.Mem.tail))) | (apply cells_fv; (repeat (first | exact List.Mem.head _ | apply List.Mem.tail))))) ?_
                        refine KO.q rfl (q_recEGs Try.underlying63 eff_hp eff_hg rfl rfl (eff_eqD _ _ Try.underlying63)) ?_
                        refine KO.q rfl (q_pickT rfl rfl) ?_
                        refine KO.q rfl (q_assign rfl) ?_
                        refine KO.done ?_
                        refine K.ret (fn := Try.f46) Try.func46 (fun a w hk hs => res1 Try.results46 hk rfl) (fun w hs => ?_)
                        first | (exfalso; omega) | exact ⟨_, [], rfl, ⟨by (try simp only [rw_right_nil] at *); simp [Eff.right, Eff.rightK, Eff.named, effId, *], rfl⟩, hs.fit (by repeat (first | exact Give.nil | (apply Give.perI; (repeat (first | exact List.Mem.head _ | apply List.Mem.tail))) | (apply Give.own; (repeat (first | exact Pick.here | apply Pick.there))))) (by repeat (first | exact Drop.refl | apply Drop.skip))⟩
                      · refine KO.skip rfl ?_
                        refine KO.skip rfl ?_
                        refine KO.skip rfl ?_
                        refine KO.q rfl (q_pickF rfl rfl) ?_
                        refine KO.q rfl (q_assign rfl) ?_
                        refine KO.done ?_
                        refine K.ret (fn := Try.f46) Try.func46 (fun a w hk hs => res1 Try.results46 hk rfl) (fun w hs => ?_)
                        first | (exfalso; omega) | exact ⟨_, [], rfl, ⟨by (try simp only [rw_right_nil] at *); simp [Eff.right, Eff.rightK, Eff.named, effId, *], rfl⟩, hs.fit (by repeat (first | exact Give.nil | (apply Give.perI; (repeat (first | exact List.Mem.head _ | apply List.Mem.tail))) | (apply Give.own; (repeat (first | exact Pick.here | apply Pick.there))))) (by repeat (first | exact Drop.refl | apply Drop.skip))⟩
                    · refine KO.skip rfl ?_
                      refine KO.skip rfl ?_
                      refine KO.skip rfl ?_
                      refine KO.q rfl (q_pickF rfl rfl) ?_
                      refine KO.q rfl (q_assign rfl) ?_
                      refine KO.done ?_
                      repeat (first | refine K.seq ?_ | refine K.skip ?_ | refine K.block ?_ | refine K.inBlock ?_ | refine K.label ?_)
                      refine K.region ?_
                      refine KO.q rfl (q_move rfl) ?_
                      refine KO.q rfl (q_move rfl) ?_
                      refine KO.skip rfl ?_
                      refine KO.skip rfl ?_
                      refine KO.skip rfl ?_
                      refine KO.q rfl (q_pickF rfl rfl) ?_
                      refine KO.q rfl (q_assign rfl) ?_
                      refine KO.done ?_
                      refine K.ret (fn := Try.f46) Try.func46 (fun a w hk hs => res1 Try.results46 hk rfl) (fun w hs => ?_)
                      first | (exfalso; omega) | exact ⟨_, [], rfl, ⟨by (try simp only [rw_right_nil] at *); simp [Eff.right, Eff.rightK, Eff.named, effId, *], rfl⟩, hs.fit (by repeat (first | exact Give.nil | (apply Give.perI; (repeat (first | exact List.Mem.head _ | apply List.Mem.tail))) | (apply Give.own; (repeat (first | exact Pick.here | apply Pick.there))))) (by repeat (first | exact Drop.refl | apply Drop.skip))⟩
                  · refine KO.skip rfl ?_
                    refine KO.skip rfl ?_
                    refine KO.skip rfl ?_
                    refine KO.q rfl (q_pickF rfl rfl) ?_
                    refine KO.q rfl (q_move rfl) ?_
                    refine KO.skip rfl ?_
                    refine KO.skip rfl ?_
                    refine KO.skip rfl ?_
                    refine KO.q rfl (q_pickF rfl rfl) ?_
                    refine KO.q rfl (q_assign rfl) ?_
                    refine KO.done ?_
                    repeat (first | refine K.seq ?_ | refine K.skip ?_ | refine K.block ?_ | refine K.inBlock ?_ | refine K.label ?_)
                    refine K.region ?_
                    refine KO.q rfl (q_move rfl) ?_
                    refine KO.q rfl (q_move rfl) ?_
                    refine KO.skip rfl ?_
                    refine KO.skip rfl ?_
                    refine KO.skip rfl ?_
                    refine KO.q rfl (q_pickF rfl rfl) ?_
                    refine KO.q rfl (q_assign rfl) ?_
                    refine KO.done ?_
                    refine K.ret (fn := Try.f46) Try.func46 (fun a w hk hs => res1 Try.results46 hk rfl) (fun w hs => ?_)
                    first | (exfalso; omega) | exact ⟨_, [], rfl, ⟨by (try simp only [rw_right_nil] at *); simp [Eff.right, Eff.rightK, Eff.named, effId, *], rfl⟩, hs.fit (by repeat (first | exact Give.nil | (apply Give.perI; (repeat (first | exact List.Mem.head _ | apply List.Mem.tail))) | (apply Give.own; (repeat (first | exact Pick.here | apply Pick.there))))) (by repeat (first | exact Drop.refl | apply Drop.skip))⟩
                · repeat (first | refine K.seq ?_ | refine K.skip ?_ | refine K.block ?_ | refine K.inBlock ?_ | refine K.label ?_)
                  refine K.region ?_
                  refine KO.q rfl (q_move rfl) ?_
                  refine KO.q rfl (q_move rfl) ?_
                  refine KO.split 85 rfl (fun g85 => ?_) (fun g85 => ?_)
                  · refine KO.q rfl (q_field fo_63_4 rfl) ?_
                    refine KO.q rfl (q_load1 ck_3 rfl (by first | (apply cell_pv; (repeat (first | exact List.Mem.head _ | apply List.Mem.tail)); rfl) | (apply cell_fv; (repeat (first | exact List.Mem.head _ | apply List.Mem.tail)); rfl) | (apply rowF_cellU; (repeat (first | exact List.Mem.head _ | apply List.Mem.tail)); assumption) | (apply itm_cell; (repeat (first | exact List.Mem.head _ | apply List.Mem.tail)); assumption; rfl))) ?_
                    refine KO.q rfl (q_ge rfl rfl) ?_
                    refine KO.q rfl (q_pickT rfl rfl) ?_
                    refine KO.q rfl (q_move rfl) ?_
                    refine KO.dsplit 90 rfl (fun g90 => ?_) (fun g90 => ?_)
                    · refine KO.q rfl (q_field fo_63_4 rfl) ?_
                      refine KO.q rfl (q_load1 ck_3 rfl (by first | (apply cell_pv; (repeat (first | exact List.Mem.head _ | apply List.Mem.tail)); rfl) | (apply cell_fv; (repeat (first | exact List.Mem.head _ | apply List.Mem.tail)); rfl) | (apply rowF_cellU; (repeat (first | exact List.Mem.head _ | apply List.Mem.tail)); assumption) | (apply itm_cell; (repeat (first | exact List.Mem.head _ | apply List.Mem.tail)); assumption; rfl))) ?_
                      refine KO.q rfl (q_le rfl rfl) ?_
                      refine KO.q rfl (q_pickT rfl rfl) ?_
                      refine KO.q rfl (q_assign rfl) ?_
                      refine KO.done ?_
                      repeat (first | refine K.seq ?_ | refine K.skip ?_ | refine K.block ?_ | refine K.inBlock ?_ | refine K.label ?_)
                      refine K.region ?_
                      refine KO.q rfl (q_move rfl) ?_
                      refine KO.q rfl (q_move rfl) ?_
                      refine KO.dsplit 110 rfl (fun g110 => ?_) (fun g110 => ?_)
                      · refine KO.q rfl (q_as_eff (q_loadN ck_63 rfl rfl (by first | (apply cells_pv; (repeat (first | exact List.Mem.head _ | apply List.Mem.tail))) | (apply cells_fv; (repeat (first | exact List.Mem.head _ | apply List.Mem.tail))))) (by rfl)) ?_
                        refine KO.q rfl (q_loadN ck_63 rfl rfl (by first | (apply cells_pv; (repeat (first | exact List.Mem.head _ | apply List.Mem.tail))) | (apply cells_fv; (repeat (first | exact List.Mem.head _ | apply List.Mem.tail))))) ?_
                        refine KO.q rfl (q_recEGs Try.underlying63 eff_hp eff_hg rfl rfl (eff_eqD _ _ Try.underlying63)) ?_
                        refine KO.q rfl (q_pickT rfl rfl) ?_
                        refine KO.q rfl (q_assign rfl) ?_
                        refine KO.done ?_
                        refine K.ret (fn := Try.f46) Try.func46 (fun a w hk hs => res1 Try.results46 hk rfl) (fun w hs => ?_)
                        first | (exfalso; omega) | exact ⟨_, [], rfl, ⟨by (try simp only [rw_right_nil] at *); simp [Eff.right, Eff.rightK, Eff.named, effId, *], rfl⟩, hs.fit (by repeat (first | exact Give.nil | (apply Give.perI; (repeat (first | exact List.Mem.head _ | apply List.Mem.tail))) | (apply Give.own; (repeat (first | exact Pick.here | apply Pick.there))))) (by repeat (first | exact Drop.refl | apply Drop.skip))⟩
                      · refine KO.skip rfl ?_
                        refine KO.skip rfl ?_
                        refine KO.skip rfl ?_
                        refine KO.q rfl (q_pickF rfl rfl) ?_
                        refine KO.q rfl (q_assign rfl) ?_
                        refine KO.done ?_
                        refine K.ret (fn := Try.f46) Try.func46 (fun a w hk hs => res1 Try.results46 hk rfl) (fun w hs => ?_)
                        first | (exfalso; omega) | exact ⟨_, [], rfl, ⟨by (try simp only [rw_right_nil] at *); simp [Eff.right, Eff.rightK, Eff.named, effId, *], rfl⟩, hs.fit (by repeat (first | exact Give.nil | (apply Give.perI; (repeat (first | exact List.Mem.head _ | apply List.Mem.tail))) | (apply Give.own; (repeat (first | exact Pick.here | apply Pick.there))))) (by repeat (first | exact Drop.refl | apply Drop.skip))⟩
                    · refine KO.skip rfl ?_
                      refine KO.skip rfl ?_
                      refine KO.skip rfl ?_
                      refine KO.q rfl (q_pickF rfl rfl) ?_
                      refine KO.q rfl (q_assign rfl) ?_
                      refine KO.done ?_
                      repeat (first | refine K.seq ?_ | refine K.skip ?_ | refine K.block ?_ | refine K.inBlock ?_ | refine K.label ?_)
                      refine K.region ?_
                      refine KO.q rfl (q_move rfl) ?_
                      refine KO.q rfl (q_move rfl) ?_
                      refine KO.skip rfl ?_
                      refine KO.skip rfl ?_
                      refine KO.skip rfl ?_
                      refine KO.q rfl (q_pickF rfl rfl) ?_
                      refine KO.q rfl (q_assign rfl) ?_
                      refine KO.done ?_
                      refine K.ret (fn := Try.f46) Try.func46 (fun a w hk hs => res1 Try.results46 hk rfl) (fun w hs => ?_)
                      first | (exfalso; omega) | exact ⟨_, [], rfl, ⟨by (try simp only [rw_right_nil] at *); simp [Eff.right, Eff.rightK, Eff.named, effId, *], rfl⟩, hs.fit (by repeat (first | exact Give.nil | (apply Give.perI; (repeat (first | exact List.Mem.head _ | apply List.Mem.tail))) | (apply Give.own; (repeat (first | exact Pick.here | apply Pick.there))))) (by repeat (first | exact Drop.refl | apply Drop.skip))⟩
                  · refine KO.skip rfl ?_
                    refine KO.skip rfl ?_
                    refine KO.skip rfl ?_
                    refine KO.q rfl (q_pickF rfl rfl) ?_
                    refine KO.q rfl (q_move rfl) ?_
                    refine KO.skip rfl ?_
                    refine KO.skip rfl ?_
                    refine KO.skip rfl ?_
                    refine KO.q rfl (q_pickF rfl rfl) ?_
                    refine KO.q rfl (q_assign rfl) ?_
                    refine KO.done ?_
                    repeat (first | refine K.seq ?_ | refine K.skip ?_ | refine K.block ?_ | refine K.inBlock ?_ | refine K.label ?_)
                    refine K.region ?_
                    refine KO.q rfl (q_move rfl) ?_
                    refine KO.q rfl (q_move rfl) ?_
                    refine KO.skip rfl ?_
                    refine KO.skip rfl ?_
                    refine KO.skip rfl ?_
                    refine KO.q rfl (q_pickF rfl rfl) ?_
                    refine KO.q rfl (q_assign rfl) ?_
                    refine KO.done ?_
                    refine K.ret (fn := Try.f46) Try.func46 (fun a w hk hs => res1 Try.results46 hk rfl) (fun w hs => ?_)
                    first | (exfalso; omega) | exact ⟨_, [], rfl, ⟨by (try simp only [rw_right_nil] at *); simp [Eff.right, Eff.rightK, Eff.named, effId, *], rfl⟩, hs.fit (by repeat (first | exact Give.nil | (apply Give.perI; (repeat (first | exact List.Mem.head _ | apply List.Mem.tail))) | (apply Give.own; (repeat (first | exact Pick.here | apply Pick.there))))) (by repeat (first | exact Drop.refl | apply Drop.skip))⟩
              · repeat (first | refine K.seq ?_ | refine K.skip ?_ | refine K.block ?_ | refine K.inBlock ?_ | refine K.label ?_)
                refine K.region ?_
                refine KO.q rfl (q_eq rfl rfl) ?_
                refine KO.q rfl (q_assign rfl) ?_
                refine KO.done ?_
                refine K.dcond (s := 95) rfl (fun g95 => ?_) (fun g95 => ?_)
                · repeat (first | refine K.seq ?_ | refine K.skip ?_ | refine K.block ?_ | refine K.inBlock ?_ | refine K.label ?_)
                  refine K.region ?_
                  refine KO.q rfl (q_field fo_63_1 rfl) ?_
                  refine KO.loudN rfl (l_store1 ck_9 rfl rfl rfl (by repeat (first | exact Pick.here | apply Pick.there)) (by repeat (first | exact SetAt.here | apply SetAt.there))) ?_
                  rintro _ _ ⟨rfl, rfl⟩
                  refine KO.done ?_
                  repeat (first | refine K.seq ?_ | refine K.skip ?_ | refine K.block ?_ | refine K.inBlock ?_ | refine K.label ?_)
                  refine K.region ?_
                  refine KO.q rfl (q_field fo_63_4 rfl) ?_
                  refine KO.q rfl (q_load1 ck_3 rfl (by first | (apply cell_pv; (repeat (first | exact List.Mem.head _ | apply List.Mem.tail)); rfl) | (apply cell_fv; (repeat (first | exact List.Mem.head _ | apply List.Mem.tail)); rfl) | (apply rowF_cellU; (repeat (first | exact List.Mem.head _ | apply List.Mem.tail)); assumption) | (apply itm_cell; (repeat (first | exact List.Mem.head _ | apply List.Mem.tail)); assumption; rfl))) ?_
                  refine KO.q rfl (q_field fo_63_4 rfl) ?_
                  refine KO.loudN rfl (l_store1 ck_3 rfl rfl rfl (by repeat (first | exact Pick.here | apply Pick.there)) (by repeat (first | exact SetAt.here | apply SetAt.there))) ?_
                  rintro _ _ ⟨rfl, rfl⟩
                  refine KO.done ?_
                  refine K.region ?_
                  refine KO.q rfl (q_field fo_63_4 rfl) ?_
                  refine KO.q rfl (q_load1 ck_3 rfl (by first | (apply cell_pv; (repeat (first | exact List.Mem.head _ | apply List.Mem.tail)); rfl) | (apply cell_fv; (repeat (first | exact List.Mem.head _ | apply List.Mem.tail)); rfl) | (apply rowF_cellU; (repeat (first | exact List.Mem.head _ | apply List.Mem.tail)); assumption) | (apply itm_cell; (repeat (first | exact List.Mem.head _ | apply List.Mem.tail)); assumption; rfl))) ?_
                  refine KO.q rfl (q_ge rfl rfl) ?_
                  refine KO.q rfl (q_move rfl) ?_
                  refine KO.dsplit 104 rfl (fun g104 => ?_) (fun g104 => ?_)
                  · refine KO.q rfl (q_field fo_63_4 rfl) ?_
                    refine KO.q rfl (q_load1 ck_3 rfl (by first | (apply cell_pv; (repeat (first | exact List.Mem.head _ | apply List.Mem.tail)); rfl) | (apply cell_fv; (repeat (first | exact List.Mem.head _ | apply List.Mem.tail)); rfl) | (apply rowF_cellU; (repeat (first | exact List.Mem.head _ | apply List.Mem.tail)); assumption) | (apply itm_cell; (repeat (first | exact List.Mem.head _ | apply List.Mem.tail)); assumption; rfl))) ?_
                    refine KO.q rfl (q_le rfl rfl) ?_
                    refine KO.q rfl (q_pickT rfl rfl) ?_
                    refine KO.q rfl (q_assign rfl) ?_
                    refine KO.done ?_
                    repeat (first | refine K.seq ?_ | refine K.skip ?_ | refine K.block ?_ | refine K.inBlock ?_ | refine K.label ?_)
                    refine K.region ?_
                    refine KO.q rfl (q_move rfl) ?_
                    refine KO.q rfl (q_move rfl) ?_
                    refine KO.dsplit 110 rfl (fun g110 => ?_) (fun g110 => ?_)
                    · refine KO.q rfl (q_as_eff (q_loadN ck_63 rfl rfl (by first | (apply cells_pv; (repeat (first | exact List.Mem.head _ | apply List.Mem.tail))) | (apply cells_fv; (repeat (first | exact List.Mem.head _ | apply List.Mem.tail))))) (by rfl)) ?_
                      refine KO.q rfl (q_loadN ck_63 rfl rfl (by first | (apply cells_pv; (repeat (first | exact List.Mem.head _ | apply List.Mem.tail))) | (apply cells_fv; (repeat (first | exact List.Mem.head _ | apply List.Mem.tail))))) ?_
                      refine KO.q rfl (q_recEGs Try.underlying63 eff_hp eff_hg rfl rfl (eff_eqD _ _ Try.underlying63)) ?_
                      refine KO.q rfl (q_pickT rfl rfl) ?_
                      refine KO.q rfl (q_assign rfl) ?_
                      refine KO.done ?_
                      refine K.ret (fn := Try.f46) Try.func46 (fun a w hk hs => res1 Try.results46 hk rfl) (fun w hs => ?_)
                      first | (exfalso; omega) | exact ⟨_, [], rfl, ⟨by (try simp only [rw_right_nil] at *); simp [Eff.right, Eff.rightK, Eff.named, effId, *], rfl⟩, hs.fit (by repeat (first | exact Give.nil | (apply Give.perI; (repeat (first | exact List.Mem.head _ | apply List.Mem.tail))) | (apply Give.own; (repeat (first | exact Pick.here | apply Pick.there))))) (by repeat (first | exact Drop.refl | apply Drop.skip))⟩
                    · refine KO.skip rfl ?_
                      refine KO.skip rfl ?_
                      refine KO.skip rfl ?_
                      refine KO.q rfl (q_pickF rfl rfl) ?_
                      refine KO.q rfl (q_assign rfl) ?_
                      refine KO.done ?_
                      refine K.ret (fn := Try.f46) Try.func46 (fun a w hk hs => res1 Try.results46 hk rfl) (fun w hs => ?_)
                      first | (exfalso; omega) | exact ⟨_, [], rfl, ⟨by (try simp only [rw_right_nil] at *); simp [Eff.right, Eff.rightK, Eff.named, effId, *], rfl⟩, hs.fit (by repeat (first | exact Give.nil | (apply Give.perI; (repeat (first | exact List.Mem.head _ | apply List.Mem.tail))) | (apply Give.own; (repeat (first | exact Pick.here | apply Pick.there))))) (by repeat (first | exact Drop.refl | apply Drop.skip))⟩
                  · refine KO.skip rfl ?_
                    refine KO.skip rfl ?_
                    refine KO.skip rfl ?_
                    refine KO.q rfl (q_pickF rfl rfl) ?_
                    refine KO.q rfl (q_assign rfl) ?_
                    refine KO.done ?_
                    repeat (first | refine K.seq ?_ | refine K.skip ?_ | refine K.block ?_ | refine K.inBlock ?_ | refine K.label ?_)
                    refine K.region ?_
                    refine KO.q rfl (q_move rfl) ?_
                    refine KO.q rfl (q_move rfl) ?_
                    refine KO.skip rfl ?_
                    refine KO.skip rfl ?_
                    refine KO.skip rfl ?_
                    refine KO.q rfl (q_pickF rfl rfl) ?_
                    refine KO.q rfl (q_assign rfl) ?_
                    refine KO.done ?_
                    refine K.ret (fn := Try.f46) Try.func46 (fun a w hk hs => res1 Try.results46 hk rfl) (fun w hs => ?_)
                    first | (exfalso; omega) | exact ⟨_, [], rfl, ⟨by (try simp only [rw_right_nil] at *); simp [Eff.right, Eff.rightK, Eff.named, effId, *], rfl⟩, hs.fit (by repeat (first | exact Give.nil | (apply Give.perI; (repeat (first | exact List.Mem.head _ | apply List.Mem.tail))) | (apply Give.own; (repeat (first | exact Pick.here | apply Pick.there))))) (by repeat (first | exact Drop.refl | apply Drop.skip))⟩
                · repeat (first | refine K.seq ?_ | refine K.skip ?_ | refine K.block ?_ | refine K.inBlock ?_ | refine K.label ?_)
                  refine K.region ?_
                  refine KO.q rfl (q_assign rfl) ?_
                  refine KO.done ?_
                  refine K.ret (fn := Try.f46) Try.func46 (fun a w hk hs => res1 Try.results46 hk rfl) (fun w hs => ?_)
                  first | (exfalso; omega) | exact ⟨_, [], rfl, ⟨by (try simp only [rw_right_nil] at *); simp [Eff.right, Eff.rightK, Eff.named, effId, *], rfl⟩, hs.fit (by repeat (first | exact Give.nil | (apply Give.perI; (repeat (first | exact List.Mem.head _ | apply List.Mem.tail))) | (apply Give.own; (repeat (first | exact Pick.here | apply Pick.there))))) (by repeat (first | exact Drop.refl | apply Drop.skip))⟩
end Go.Proofs.Ytlellgnklohclaa.L
