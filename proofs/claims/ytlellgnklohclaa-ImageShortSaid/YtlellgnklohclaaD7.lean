/- Walks: postelaw20.ImageBytes, postelaw20.ImageShort. -/
import Derived.Test.YtlellgnklohclaaD6
namespace Go.Proofs.Ytlellgnklohclaa.L
open Go Go.Proofs
attribute [local irreducible] pv fv pt fz RowF RowO rowP old pure_ elA Rd.int Rd.text Rd.flag Rd.msg Rd.rint Rd.rtext Rd.rflag Rd.rmsg
set_option maxRecDepth 100000
set_option linter.unusedSimpArgs false
set_option linter.unusedVariables false
attribute [local irreducible] Rd.eff Rd.reff lsM objM imgRead imgBytes

set_option maxHeartbeats 1600000 in
theorem law_ImageBytes (s : Sz) (hok : s.ok) : Fn Try.prog 14 [.agg s.cells.toArray].toArray (StL s) (fun r post => r = .bool true ∧ post = []) := by
  refine Fn.enter (N := 50) Try.func14 rfl Try.ntmps14 (by kernel_rfl) rfl (fun ρ L => ?_)
  refine K.seq ?_
  refine K.region ?_
  refine KO.loud rfl (l_box rfl rfl) ?_
  rintro _ _ ⟨b1, rfl, rfl⟩
  refine KO.q rfl (q_assign rfl) ?_
  refine KO.done ?_
  refine K.seq ?_
  refine K.region ?_
  refine KO.loud rfl (OpL.callD rfl (h := alive20)) ?_
  rintro _ _ ⟨_, ⟨rfl, rfl⟩, rfl⟩
  refine KO.q rfl (q_assign rfl) ?_
  refine KO.done ?_
  refine K.seq <| K.seq ?_
  refine K.region ?_
  refine KO.q rfl (q_move rfl) ?_
  refine KO.q rfl (q_not rfl) ?_
  refine KO.q rfl (q_move rfl) ?_
  refine KO.q rfl (q_loadN ck_76 rfl rfl (by first | (apply cells_pv; (repeat (first | exact List.Mem.head _ | apply List.Mem.tail))) | (apply cells_fv; (repeat (first | exact List.Mem.head _ | apply List.Mem.tail))))) ?_
  refine KO.loud rfl (OpL.callD rfl (h := few19 _ (by assumption))) ?_
  rintro _ _ ⟨_, ⟨fb2, rfl, hfb2, rfl⟩, rfl⟩
  refine KO.q rfl (q_not rfl) ?_
  refine KO.q rfl (q_pickF rfl rfl) ?_
  refine KO.done ?_
  refine K.bcond (s := 14) rfl (fun g14 => ?_) (fun g14 => ?_)
  · refine K.seq ?_
    refine K.region ?_
    refine KO.q rfl (q_move rfl) ?_
    refine KO.q rfl (q_assign rfl) ?_
    refine KO.done ?_
    refine K.ret (fn := Try.f14) Try.func14 (fun a w hk hs => res1 Try.results14 hk rfl) (fun w hs => ?_)
    refine ⟨_, [], rfl, ⟨?_, rfl⟩, hs.fitD⟩
    first
      | rfl
      | exact congrArg Value.bool (decide_eq_true hle)
  · have hcnt := hfb2 (by simpa using g14)
    have hN : s.cnt s.l.length ≤ 9000000000000000000 := by omega
    have hbl := imgBytes_len hcnt
    refine K.skip <| K.seq ?_
    refine K.region ?_
    refine KO.q rfl (q_loadN ck_76 rfl rfl (by first | (apply cells_pv; (repeat (first | exact List.Mem.head _ | apply List.Mem.tail))) | (apply cells_fv; (repeat (first | exact List.Mem.head _ | apply List.Mem.tail))))) ?_
    refine KO.loud rfl (OpL.callD rfl (h := im_Bytes _ (by assumption) (by assumption))) ?_
    rintro _ _ ⟨_, ⟨q3, c3, rfl, rfl, hc3⟩, rfl⟩
    refine KO.q rfl (q_assign rfl) ?_
    refine KO.done ?_
    refine K.seq <| K.seq ?_
    refine K.drawU (by repeat (first | apply SubL.pers | apply SubL.own (b := b1) | apply SubL.drop | exact SubL.none)) mixed ?_
    refine D.q 0 rfl (by kernel_rfl) (by kernel_rfl) (q_move rfl) (fun _ h => h.subD) ?_
    refine D.q 1 rfl (by kernel_rfl) (by kernel_rfl) (q_bstr Try.underlying25 Try.underlying5 Try.underlying9 rfl isF (by repeat (first | exact List.Mem.head _ | apply List.Mem.tail)) rfl) (fun _ h => h.subD) ?_
    refine D.q 2 rfl (by kernel_rfl) (by kernel_rfl) (q_loadN ck_76 rfl rfl (by first | (apply cells_pv; (repeat (first | exact List.Mem.head _ | apply List.Mem.tail))) | (apply cells_fv; (repeat (first | exact List.Mem.head _ | apply List.Mem.tail))))) (fun _ h => h.subD) ?_
    refine D.all (rs := [3]) (by kernel_rfl) rfl (DAll.cons rfl (by kernel_rfl) (OpL.callD rfl (h := ref_ImageBytes _ (by assumption) (by assumption))) (.inr (by rintro _ _ ⟨_, ⟨q4, c4, rfl, rfl⟩, rfl⟩ w h; exact h.subD)) rfl ?_ DAll.nil)
    rintro _ _ ⟨_, ⟨q4, c4, rfl, rfl⟩, rfl⟩
    refine D.all (rs := [4]) (by kernel_rfl) rfl (DAll.cons rfl (by kernel_rfl) (OpQ.loud (q_bstr Try.underlying25 Try.underlying5 Try.underlying9 rfl isF (by repeat (first | exact List.Mem.head _ | apply List.Mem.tail)) rfl)) (.inr (by rintro _ _ ⟨rfl, rfl⟩ w h; exact h.subD)) rfl ?_ DAll.nil)
    rintro _ _ ⟨rfl, rfl⟩
    refine D.q 5 rfl (by kernel_rfl) (by kernel_rfl) (q_sneF rfl rfl (rfl)) (fun _ h => h.subD) ?_
    refine D.done (by kernel_rfl) ?_
    refine K.no rfl ?_
    refine K.skip <| K.seq <| K.seq ?_
    refine K.region ?_
    refine KO.q rfl (q_loadN ck_76 rfl rfl (by first | (apply cells_pv; (repeat (first | exact List.Mem.head _ | apply List.Mem.tail))) | (apply cells_fv; (repeat (first | exact List.Mem.head _ | apply List.Mem.tail))))) ?_
    refine KO.loud rfl (OpL.callD rfl (h := ref_RightState _ (by assumption) (by assumption))) ?_
    rintro _ _ ⟨_, ⟨rfl, rfl⟩, rfl⟩
    refine KO.q rfl (q_not rfl) ?_
    refine KO.done ?_
    refine K.bcond (s := 26) rfl (fun g26 => ?_) (fun g26 => ?_)
    · refine K.seq ?_
      have hz : imgBytes s.st = [] := by unfold imgBytes; rw [if_neg (by simpa using g26)]
      refine K.region ?_
      refine KO.q rfl (q_move rfl) ?_
      refine KO.q rfl (q_len Try.underlying25 rfl) ?_
      refine KO.q rfl (q_eqT rfl rfl ((by rw [hz]; rfl))) ?_
      refine KO.q rfl (q_assign rfl) ?_
      refine KO.done ?_
      refine K.ret (fn := Try.f14) Try.func14 (fun a w hk hs => res1 Try.results14 hk rfl) (fun w hs => ?_)
      refine ⟨_, [], rfl, ⟨?_, rfl⟩, hs.fitD⟩
      first
        | rfl
        | exact congrArg Value.bool (decide_eq_true hle)
    · refine K.skip <| K.seq ?_
      have hr : s.st.right = true := by simpa using g26
      have hz : imgBytes s.st = s.st.bytes := by unfold imgBytes; rw [if_pos hr]
      have hrd : imgRead (imgBytes s.st) = some s.st := by
        have := imgRead_img hok hr []
        rw [List.append_nil, if_pos rfl] at this
        rw [hz]; exact this
      have hle : ((imgBytes s.st).length : Int) ≤ ((s.st.size : Nat) : Int) := by rw [hz]; exact Int.ofNat_le.2 (bytes_le_size _)
      refine K.region ?_
      refine KO.q rfl (q_move rfl) ?_
      refine KO.loud rfl (OpL.callD rfl (h := im_Read_some _ _ (imgBytes s.st) (by omega) hrd)) ?_
      rintro _ _ ⟨_, ⟨sz2, rfl, rfl, hok2, hfew2, hst2⟩, rfl⟩
      refine KO.q rfl (q_move rfl) ?_
      refine KO.q rfl (q_extract rfl rfl) ?_
      refine KO.q rfl (q_extract rfl rfl) ?_
      refine KO.loud rfl (l_alloc zo_76) ?_
      rintro _ _ ⟨b5, rfl, rfl⟩
      refine KO.loudN rfl (l_storeAll ck_76 rfl rfl ⟨rfl, rfl⟩ (sz_one _) (by repeat (first | exact Pick.here | apply Pick.there))) ?_
      rintro _ _ ⟨rfl, rfl⟩
      refine KO.q rfl (q_assign rfl) ?_
      refine KO.done ?_
      refine K.seq ?_
      refine K.region ?_
      refine KO.q rfl (q_move rfl) ?_
      refine KO.loud rfl (OpL.callD rfl (h := num20 _)) ?_
      rintro _ _ ⟨_, ⟨rfl, rfl⟩, rfl⟩
      refine KO.q rfl (q_eqT rfl rfl (rfl)) ?_
      refine KO.q rfl (q_move rfl) ?_
      refine KO.q rfl (q_loadN ck_76 rfl rfl (by first | (apply cells_pv; (repeat (first | exact List.Mem.head _ | apply List.Mem.tail))) | (apply cells_fv; (repeat (first | exact List.Mem.head _ | apply List.Mem.tail))))) ?_
      refine KO.q rfl (q_loadN ck_76 rfl rfl (by first | (apply cells_pv; (repeat (first | exact List.Mem.head _ | apply List.Mem.tail))) | (apply cells_fv; (repeat (first | exact List.Mem.head _ | apply List.Mem.tail))))) ?_
      refine KO.loud rfl (OpL.callD rfl (h := ref_SameState _ _ (by assumption))) ?_
      rintro _ _ ⟨_, ⟨rfl, rfl⟩, rfl⟩
      refine KO.q rfl (q_pickT rfl rfl) ?_
      refine KO.q rfl (q_move rfl) ?_
      refine KO.split 43 rfl (fun g43 => ?_) (fun g43 => ?_)
      · skip
        refine KO.q rfl (q_move rfl) ?_
        refine KO.q rfl (q_len Try.underlying25 rfl) ?_
        refine KO.q rfl (q_loadN ck_76 rfl rfl (by first | (apply cells_pv; (repeat (first | exact List.Mem.head _ | apply List.Mem.tail))) | (apply cells_fv; (repeat (first | exact List.Mem.head _ | apply List.Mem.tail))))) ?_
        refine KO.loud rfl (OpL.callD rfl (h := ref_Size _ (by assumption) (by assumption))) ?_
        rintro _ _ ⟨_, ⟨rfl, rfl⟩, rfl⟩
        refine KO.q rfl (q_le rfl rfl) ?_
        refine KO.q rfl (q_pickT rfl rfl) ?_
        refine KO.q rfl (q_assign rfl) ?_
        refine KO.done ?_
        refine K.ret (fn := Try.f14) Try.func14 (fun a w hk hs => res1 Try.results14 hk rfl) (fun w hs => ?_)
        refine ⟨_, [], rfl, ⟨?_, rfl⟩, hs.fitD⟩
        first
          | rfl
          | exact congrArg Value.bool (decide_eq_true hle)
      · exact absurd g43 (by rw [decide_eq_true hst2]; simp)
set_option maxHeartbeats 1600000 in
theorem law_ImageShort (s : Sz) (cut : Int) (hok : s.ok) : Fn Try.prog 15 [.agg s.cells.toArray, .int .i64 cut].toArray (StL s) (fun r post => r = .bool true ∧ post = []) := by
  refine Fn.enter (N := 60) Try.func15 rfl Try.ntmps15 (by kernel_rfl) rfl (fun ρ L => ?_)
  refine K.seq ?_
  refine K.region ?_
  refine KO.loud rfl (l_box rfl rfl) ?_
  rintro _ _ ⟨b2, rfl, rfl⟩
  refine KO.q rfl (q_assign rfl) ?_
  refine KO.done ?_
  refine K.seq ?_
  refine K.region ?_
  refine KO.loud rfl (OpL.callD rfl (h := alive20)) ?_
  rintro _ _ ⟨_, ⟨rfl, rfl⟩, rfl⟩
  refine KO.q rfl (q_assign rfl) ?_
  refine KO.done ?_
  refine K.seq <| K.seq ?_
  refine K.region ?_
  refine KO.q rfl (q_move rfl) ?_
  refine KO.q rfl (q_not rfl) ?_
  refine KO.q rfl (q_move rfl) ?_
  refine KO.q rfl (q_loadN ck_76 rfl rfl (by first | (apply cells_pv; (repeat (first | exact List.Mem.head _ | apply List.Mem.tail))) | (apply cells_fv; (repeat (first | exact List.Mem.head _ | apply List.Mem.tail))))) ?_
  refine KO.loud rfl (OpL.callD rfl (h := few19 _ (by assumption))) ?_
  rintro _ _ ⟨_, ⟨fb2, rfl, hfb2, rfl⟩, rfl⟩
  refine KO.q rfl (q_not rfl) ?_
  refine KO.q rfl (q_pickF rfl rfl) ?_
  refine KO.q rfl (q_move rfl) ?_
  refine KO.split 19 rfl (fun g19 => ?_) (fun g19 => ?_)
  · refine KO.skip rfl ?_
    refine KO.skip rfl ?_
    refine KO.skip rfl ?_
    refine KO.q rfl (q_pickT rfl rfl) ?_
    refine KO.q rfl (q_move rfl) ?_
    refine KO.skip rfl ?_
    refine KO.skip rfl ?_
    refine KO.q rfl (q_pickT rfl rfl) ?_
    refine KO.done ?_
    refine K.yes rfl ?_
    refine K.seq ?_
    refine K.region ?_
    refine KO.q rfl (q_move rfl) ?_
    refine KO.q rfl (q_assign rfl) ?_
    refine KO.done ?_
    refine K.ret (fn := Try.f15) Try.func15 (fun a w hk hs => res1 Try.results15 hk rfl) (fun w hs => ?_)
    exact ⟨_, [], rfl, ⟨by first | rfl | simp, rfl⟩, hs.fitD⟩
  · have hcnt := hfb2 (by simpa using g19)
    have hN : s.cnt s.l.length ≤ 9000000000000000000 := by omega
    have hbl := imgBytes_len hcnt
    refine KO.q rfl (q_loadN ck_76 rfl rfl (by first | (apply cells_pv; (repeat (first | exact List.Mem.head _ | apply List.Mem.tail))) | (apply cells_fv; (repeat (first | exact List.Mem.head _ | apply List.Mem.tail))))) ?_
    refine KO.loud rfl (OpL.callD rfl (h := ref_RightState _ (by assumption) (by assumption))) ?_
    rintro _ _ ⟨_, ⟨rfl, rfl⟩, rfl⟩
    refine KO.q rfl (q_not rfl) ?_
    refine KO.q rfl (q_pickF rfl rfl) ?_
    refine KO.q rfl (q_move rfl) ?_
    refine KO.split 24 rfl (fun g24 => ?_) (fun g24 => ?_)
    · refine KO.skip rfl ?_
      refine KO.skip rfl ?_
      refine KO.q rfl (q_pickT rfl rfl) ?_
      refine KO.done ?_
      refine K.yes rfl ?_
      refine K.seq ?_
      refine K.region ?_
      refine KO.q rfl (q_move rfl) ?_
      refine KO.q rfl (q_assign rfl) ?_
      refine KO.done ?_
      refine K.ret (fn := Try.f15) Try.func15 (fun a w hk hs => res1 Try.results15 hk rfl) (fun w hs => ?_)
      exact ⟨_, [], rfl, ⟨by first | rfl | simp, rfl⟩, hs.fitD⟩
    · refine KO.q rfl (q_move rfl) ?_
      refine KO.q rfl (q_lt rfl rfl) ?_
      refine KO.q rfl (q_pickF rfl rfl) ?_
      refine KO.done ?_
      refine K.dcond (s := 27) rfl (fun g27 => ?_) (fun g27 => ?_)
      · refine K.seq ?_
        refine K.region ?_
        refine KO.q rfl (q_move rfl) ?_
        refine KO.q rfl (q_assign rfl) ?_
        refine KO.done ?_
        refine K.ret (fn := Try.f15) Try.func15 (fun a w hk hs => res1 Try.results15 hk rfl) (fun w hs => ?_)
        exact ⟨_, [], rfl, ⟨by first | rfl | simp, rfl⟩, hs.fitD⟩
      · refine K.skip <| K.seq ?_
        have hr : s.st.right = true := by simpa using g24
        have hz : imgBytes s.st = s.st.bytes := by unfold imgBytes; rw [if_pos hr]
        have hrd : ∀ r, imgRead (imgBytes s.st ++ r) = if r = [] then some s.st else none := fun r => by rw [hz]; exact imgRead_img hok hr r
        have hr0 : imgRead (imgBytes s.st) = some s.st := by
          have := hrd []
          rw [List.append_nil, if_pos rfl] at this
          exact this
        have hr1 : imgRead (imgBytes s.st ++ [0]) = none := by rw [hrd, if_neg (by simp)]
        have hne : 16 ≤ (imgBytes s.st).length := by
          rw [hz]; unfold Stt.bytes
          rw [List.length_append, List.length_append, wInt_length, wInt_length]; omega
        generalize hT : imgBytes s.st = B at hbl hr0 hr1 hne
        have hm0 : 0 ≤ cut.tmod (B.length : Int) := Int.tmod_nonneg _ (by omega)
        have hm1 : cut.tmod (B.length : Int) < B.length := Int.tmod_lt_of_pos _ (by omega)
        have htl : (B.take (cut.tmod (B.length : Int)).toNat).length = (cut.tmod (B.length : Int)).toNat := by rw [List.length_take]; omega
        have hrn := imgRead_pre hr0 (cut.tmod (B.length : Int)).toNat (by omega)
        refine K.region ?_
        refine KO.q rfl (q_loadN ck_76 rfl rfl (by first | (apply cells_pv; (repeat (first | exact List.Mem.head _ | apply List.Mem.tail))) | (apply cells_fv; (repeat (first | exact List.Mem.head _ | apply List.Mem.tail))))) ?_
        refine KO.loud rfl (OpL.callD rfl (h := im_Bytes _ (by assumption) (by assumption))) ?_
        rintro _ _ ⟨_, ⟨q4, c4, rfl, rfl, hc4⟩, rfl⟩
        refine KO.q rfl (q_assign rfl) ?_
        refine KO.done ?_
        rw [hT] at hc4 ⊢
        refine K.seq <| K.seq ?_
        refine K.region ?_
        refine KO.q rfl (q_move rfl) ?_
        refine KO.q rfl (q_len Try.underlying25 rfl) ?_
        refine KO.q rfl (q_eqF rfl rfl ((by omega))) ?_
        refine KO.done ?_
        refine K.no rfl ?_
        refine K.skip <| K.seq ?_
        refine K.region ?_
        refine KO.q rfl (q_move rfl) ?_
        refine KO.q rfl (q_move rfl) ?_
        refine KO.q rfl (q_move rfl) ?_
        refine KO.q rfl (q_len Try.underlying25 rfl) ?_
        refine KO.q rfl (q_rem rfl rfl (by first | omega | (simp; omega))) ?_
        refine KO.q rfl (q_cutH se_25 rfl rfl hm0 (by omega)) ?_
        refine KO.st (fun w h => rowF_take (cut.tmod (B.length : Int)).toNat (p := q4) (xs := B) (by repeat (first | exact List.Mem.head _ | apply List.Mem.tail)) h) ?_
        generalize B.take (cut.tmod (B.length : Int)).toNat = T at htl hrn ⊢
        rw [← htl]
        refine KO.loud rfl (OpL.callD rfl (h := im_Read_none _ _ T (by omega) hrn)) ?_
        rintro _ _ ⟨_, ⟨sz1, rfl, rfl, hok1, hfew1⟩, rfl⟩
        refine KO.q rfl (q_move rfl) ?_
        refine KO.q rfl (q_extract rfl rfl) ?_
        refine KO.q rfl (q_extract rfl rfl) ?_
        refine KO.loud rfl (l_alloc zo_76) ?_
        rintro _ _ ⟨b7, rfl, rfl⟩
        refine KO.loudN rfl (l_storeAll ck_76 rfl rfl ⟨rfl, rfl⟩ (sz_one _) (by repeat (first | exact Pick.here | apply Pick.there))) ?_
        rintro _ _ ⟨rfl, rfl⟩
        refine KO.q rfl (q_assign rfl) ?_
        refine KO.done ?_
        refine K.seq ?_
        refine K.st (fun w h => rowO_nil (k := Kd.u8) 5 h) ?_
        refine K.region ?_
        refine KO.q rfl (q_move rfl) ?_
        refine KO.loud rfl (l_append Kd.u8 se_25 Try.underlying25 ⟨_, ze_5, rfl⟩ (by decide) rfl rfl Pick.here (isF (xs := B)) (by repeat (first | exact List.Mem.head _ | apply List.Mem.tail)) rfl rfl (by simp; omega)) ?_
        rintro _ _ ⟨p0, cap0, rfl, rfl⟩
        rw [List.nil_append]
        refine KO.loud rfl (l_slice sz_25_1 rfl (by repeat (first | exact Fill.nil | (apply Fill.cons; rfl; rfl; rfl) | exact SetN.nil | apply SetN.cons | exact SetAt.here | apply SetAt.there))) ?_
        rintro _ _ ⟨b47, rfl, rfl⟩
        refine KO.st (fun w h => pv_rowU [0] rfl h) ?_
        refine KO.loud rfl (l_append Kd.u8 se_25 Try.underlying25 ⟨_, ze_5, rfl⟩ (by decide) rfl rfl (by repeat (first | exact Pick.here | apply Pick.there)) (isF (xs := [0])) (by repeat (first | exact List.Mem.head _ | apply List.Mem.tail)) rfl rfl (by simp; omega)) ?_
        rintro _ _ ⟨p1, cap1, rfl, rfl⟩
        refine KO.st (fun w h => rowO_freeze h) ?_
        refine KO.loud rfl (OpL.callD rfl (h := im_Read_none _ _ (B ++ [0]) (by simp; omega) hr1)) ?_
        rintro _ _ ⟨_, ⟨sz2, rfl, rfl, hok2, hfew2⟩, rfl⟩
        refine KO.q rfl (q_move rfl) ?_
        refine KO.q rfl (q_extract rfl rfl) ?_
        refine KO.q rfl (q_extract rfl rfl) ?_
        refine KO.loud rfl (l_alloc zo_76) ?_
        rintro _ _ ⟨b9, rfl, rfl⟩
        refine KO.loudN rfl (l_storeAll ck_76 rfl rfl ⟨rfl, rfl⟩ (sz_one _) (by repeat (first | exact Pick.here | apply Pick.there))) ?_
        rintro _ _ ⟨rfl, rfl⟩
        refine KO.q rfl (q_assign rfl) ?_
        refine KO.done ?_
        refine K.seq ?_
        refine K.region ?_
        refine KO.q rfl (q_move rfl) ?_
        refine KO.loud rfl (OpL.callD rfl (h := num20 _)) ?_
        rintro _ _ ⟨_, ⟨rfl, rfl⟩, rfl⟩
        refine KO.q rfl (q_eqT rfl rfl (rfl)) ?_
        refine KO.q rfl (q_move rfl) ?_
        refine KO.q rfl (q_move rfl) ?_
        refine KO.loud rfl (OpL.callD rfl (h := num20 _)) ?_
        rintro _ _ ⟨_, ⟨rfl, rfl⟩, rfl⟩
        refine KO.q rfl (q_eqT rfl rfl (rfl)) ?_
        refine KO.q rfl (q_pickT rfl rfl) ?_
        refine KO.q rfl (q_assign rfl) ?_
        refine KO.done ?_
        refine K.ret (fn := Try.f15) Try.func15 (fun a w hk hs => res1 Try.results15 hk rfl) (fun w hs => ?_)
        exact ⟨_, [], rfl, ⟨by first | rfl | simp, rfl⟩, hs.fitD⟩
end Go.Proofs.Ytlellgnklohclaa.L
