/- Walks: texts of any length, written; messages of any texts. -/
import Derived.Test.YtlellgnklohclaaMD
namespace Go.Proofs.Ytlellgnklohclaa.L
open Go Go.Proofs
attribute [local irreducible] pv fv pt fz RowF RowO rowP old pure_ elA
set_option maxRecDepth 100000
set_option linter.unusedSimpArgs false
set_option linter.unusedVariables false

--%call poste/bytes.NewReader := rd_New _ _ _ (by first | omega | (simp; omega)) !! ⟨_, ⟨p#, q#, c#, rfl, rfl, hc#⟩, rfl⟩
--%call (*poste/bytes.Reader).Int := rd_Int _ _ _ _ (by assumption) !! ⟨_, ⟨q#, c#, rfl, rfl, hc#⟩, rfl⟩
--%call (*poste/bytes.Reader).Text := rd_Text _ _ _ _ (by assumption) !! ⟨_, ⟨q#, c#, rfl, rfl, hc#⟩, rfl⟩
--%call (*poste/bytes.Reader).Flag := rd_Flag _ _ _ _ (by assumption) !! ⟨_, ⟨q#, c#, rfl, rfl, hc#⟩, rfl⟩
--%call (*poste/bytes.Reader).Failed := rd_Failed _ _ _ _
--%call (*poste/bytes.Reader).Left := rd_Left _ _ _ _
--%call (*poste/bytes.Reader).Done := rd_Done _ _ _ _
--%call poste/posteref1.NewReader := rf_New _ _ _ !! ⟨_, ⟨p#, rfl, rfl⟩, rfl⟩
--%call (*poste/posteref1.Reader).Int := rf_Int _ _ _ _ (by assumption) !! ⟨_, ⟨q#, c#, rfl, rfl, hc#⟩, rfl⟩
--%call (*poste/posteref1.Reader).Text := rf_Text _ _ _ _ (by assumption) !! ⟨_, ⟨q#, c#, rfl, rfl, hc#⟩, rfl⟩
--%call (*poste/posteref1.Reader).Flag := rf_Flag _ _ _ _ (by assumption) !! ⟨_, ⟨q#, c#, rfl, rfl, hc#⟩, rfl⟩
--%call (*poste/posteref1.Reader).Bad := rf_Bad _ _ _ _
--%call (*poste/posteref1.Reader).Done := rf_Done _ _ _ _
--%call (*poste/bytes.Writer).Int := wr_Int _ _ _ _ _ (by first | omega | (simp [wInt_length, wFlag_length, wText_length]; omega)) !! ⟨_, ⟨q#, c#, rfl, rfl⟩, rfl⟩
--%call (*poste/bytes.Writer).Text := wr_TextA _ _ _ _ _ (by first | omega | (simp [wInt_length, wFlag_length, wText_length]; omega)) !! ⟨_, ⟨q#, c#, rfl, rfl⟩, rfl⟩
--%call (*poste/bytes.Writer).Flag := wr_Flag _ _ _ _ _ (by first | omega | (simp [wInt_length, wFlag_length, wText_length]; omega)) !! ⟨_, ⟨q#, c#, rfl, rfl⟩, rfl⟩
--%call (*poste/bytes.Writer).Bytes := wr_Bytes _ _ _ _ (by first | omega | (simp [wInt_length, wFlag_length, wText_length]; omega)) !! ⟨_, ⟨q#, c#, rfl, rfl, hc#⟩, rfl⟩
--%call (*poste/posteref1.Writer).Int := wf_Int _ _ _ _ _ (by first | omega | (simp [wInt_length, wFlag_length, wText_length]; omega)) !! ⟨_, ⟨q#, c#, rfl, rfl⟩, rfl⟩
--%call (*poste/posteref1.Writer).Text := wf_TextA _ _ _ _ _ (by first | omega | (simp [wInt_length, wFlag_length, wText_length]; omega)) !! ⟨_, ⟨q#, c#, rfl, rfl⟩, rfl⟩
--%call (*poste/posteref1.Writer).Flag := wf_Flag _ _ _ _ _ (by first | omega | (simp [wInt_length, wFlag_length, wText_length]; omega)) !! ⟨_, ⟨q#, c#, rfl, rfl⟩, rfl⟩
--%call poste/message.Write := msg_WriteA _ _ _ _ _ (by first | omega | (simp [wInt_length, wFlag_length, wText_length]; omega)) !! ⟨_, ⟨q#, c#, rfl, rfl⟩, rfl⟩
--%call poste/posteref14.putMsg := ref_putMsgA _ _ _ _ _ (by first | omega | (simp [wInt_length, wFlag_length, wText_length]; omega)) !! ⟨_, ⟨q#, c#, rfl, rfl⟩, rfl⟩
--%call poste/message.Read := msg_Read _ _ _ _ (by assumption) !! ⟨_, ⟨q#, c#, rfl, rfl, hc#⟩, rfl⟩
--%call poste/posteref14.GetMsg := ref_GetMsg _ _ _ _ (by assumption) !! ⟨_, ⟨q#, c#, rfl, rfl, hc#⟩, rfl⟩
theorem wr_TextA (p : Nat) (q : Option Addr) (cap : Nat) (xs : List UInt8) (s : ByteArray) (hb : xs.length ≤ 549755813888) : Fn Try.prog 24 [.pointer (some ⟨p, 0, none⟩), .string s].toArray (WrL p q cap xs)
    (fun r post => ∃ q' cap', r = .tuple #[] ∧ post = WrL p q' cap' (xs ++ wText s)) := by
  have hmin : (if (65535 : Int) < (s.size : Int) then (65535 : Int) else (s.size : Int)) = ((min s.size 65535 : Nat) : Int) := by split <;> omega
  refine Fn.enter (N := 23) Try.func24 rfl Try.ntmps24 (by kernel_rfl) rfl (fun ρ L => ?_)
  repeat (first | refine K.seq ?_ | refine K.skip ?_ | refine K.block ?_ | refine K.inBlock ?_ | refine K.label ?_)
  refine K.region ?_
  refine KO.q rfl (q_move rfl) ?_
  refine KO.q rfl (q_move rfl) ?_
  refine KO.q rfl (q_lenS Try.underlying9 rfl) ?_
  refine KO.q rfl (q_min rfl rfl) ?_
  rw [hmin]
  refine KO.q rfl (q_scutH Try.underlying9 rfl rfl (by first | omega | (simp; omega)) (by first | omega | (simp; omega))) ?_
  refine KO.q rfl (q_assign rfl) ?_
  refine KO.done ?_
  repeat (first | refine K.seq ?_ | refine K.skip ?_ | refine K.block ?_ | refine K.inBlock ?_ | refine K.label ?_)
  have hsz : (s.extract 0 ((min s.size 65535 : Nat) : Int).toNat).size = min s.size 65535 := by simp <;> omega
  repeat (first | refine K.seq ?_ | refine K.skip ?_ | refine K.block ?_ | refine K.inBlock ?_ | refine K.label ?_)
  refine K.region ?_
  refine KO.q rfl (q_move rfl) ?_
  refine KO.q rfl (q_move rfl) ?_
  refine KO.q rfl (q_lenS Try.underlying9 rfl) ?_
  refine KO.q rfl (q_conv Try.underlying87 (by rw [Try.underlying3]; rfl) rfl (wrap_u64 (by omega) (by rw [hsz]; omega))) ?_
  refine KO.loud rfl (OpL.call rfl (wr_number p q cap xs _ 2 (by omega) (by decide) (by decide) (by omega)) (by repeat (first | exact Give.nil | (apply Give.perI; (repeat (first | exact List.Mem.head _ | apply List.Mem.tail))) | (apply Give.own; (repeat (first | exact Pick.here | apply Pick.there)))))) ?_
  rintro _ _ ⟨_, ⟨q', cap', rfl, rfl⟩, rfl⟩
  refine KO.done ?_
  repeat (first | refine K.seq ?_ | refine K.skip ?_ | refine K.block ?_ | refine K.inBlock ?_ | refine K.label ?_)
  have hl2 := leb_length ((s.extract 0 ((min s.size 65535 : Nat) : Int).toNat).size : Int) 2
  repeat (first | refine K.seq ?_ | refine K.skip ?_ | refine K.block ?_ | refine K.inBlock ?_ | refine K.label ?_)
  refine K.region ?_
  refine KO.q rfl (q_move rfl) ?_
  refine KO.q rfl (q_move rfl) ?_
  refine KO.q rfl (q_nilCheck rfl) ?_
  refine KO.q rfl (q_field fo_35_0 rfl) ?_
  refine KO.q rfl (q_load1 ck_25 rfl (by first | (apply cell_pv; (repeat (first | exact List.Mem.head _ | apply List.Mem.tail)); rfl) | (apply cell_fv; (repeat (first | exact List.Mem.head _ | apply List.Mem.tail)); rfl) | (apply rowF_cellU; (repeat (first | exact List.Mem.head _ | apply List.Mem.tail)); assumption) | (apply itm_cell; (repeat (first | exact List.Mem.head _ | apply List.Mem.tail)); assumption; rfl))) ?_
  refine KO.q rfl (q_move rfl) ?_
  refine KO.loud rfl (l_appendS se_25 Try.underlying9 ⟨_, ze_5, rfl⟩ (by decide) rfl rfl (Pick.there Pick.here) rfl (by rw [hsz]; simp [leb_length]; omega)) ?_
  rintro _ _ ⟨q'', cap'', rfl, rfl⟩
  refine KO.q rfl (q_nilCheck rfl) ?_
  refine KO.q rfl (q_field fo_35_0 rfl) ?_
  refine KO.loudN rfl (l_store1 ck_25 rfl rfl rfl (by repeat (first | exact Pick.here | apply Pick.there)) (by repeat (first | exact SetAt.here | apply SetAt.there))) ?_
  rintro _ _ ⟨rfl, rfl⟩
  refine KO.done ?_
  repeat (first | refine K.seq ?_ | refine K.skip ?_ | refine K.block ?_ | refine K.inBlock ?_ | refine K.label ?_)
  refine K.fin (fn := Try.f24) Try.func24 (fun a w hk hs => res0 Try.results24) (fun w hs => ?_)
  have e : xs ++ leb ((s.extract 0 ((min s.size 65535 : Nat) : Int).toNat).size : Int) (2 : Int).toNat ++ bytesOf (s.extract 0 ((min s.size 65535 : Nat) : Int).toNat) = xs ++ wText s := by
    unfold wText
    rw [hsz, List.append_assoc]
    show xs ++ (leb _ 2 ++ _) = _
    congr 2
    have h1 : bytesOf (s.extract 0 ((min s.size 65535 : Nat) : Int).toNat) = (bytesOf s).take (min s.size 65535) := by
      simp [bytesOf]
    rw [h1]
    by_cases h : s.size ≤ 65535
    · rw [Nat.min_eq_left h, List.take_of_length_le (by simp [bytesOf]), List.take_of_length_le (by simp [bytesOf]; exact h)]
    · rw [Nat.min_eq_right (by omega)]
  rw [e] at hs
  exact ⟨_, WrL p q'' cap'' (xs ++ wText s), rfl, ⟨q'', cap'', rfl, rfl⟩, hs.fit (by repeat (first | exact Give.nil | (apply Give.perI; (repeat (first | exact List.Mem.head _ | apply List.Mem.tail))) | (apply Give.own; (repeat (first | exact Pick.here | apply Pick.there))))) (by repeat (first | exact Drop.refl | apply Drop.skip))⟩
theorem wText_cut (s : ByteArray) (h : 65535 < s.size) : wText (s.extract 0 65535) = wText s := by
  have h1 : bytesOf (s.extract 0 65535) = (bytesOf s).take 65535 := by simp [bytesOf]
  have h2 : (s.extract 0 65535).size = 65535 := by simp; omega
  unfold wText
  rw [h1, h2, Nat.min_eq_right (by omega : 65535 ≤ s.size), List.take_take]
  rfl
theorem wf_TextA (p : Nat) (q : Option Addr) (cap : Nat) (xs : List UInt8) (s : ByteArray) (hb : xs.length ≤ 549755813888) : Fn Try.prog 38 [.pointer (some ⟨p, 0, none⟩), .string s].toArray (WfL p q cap xs)
    (fun r post => ∃ q' cap', r = .tuple #[] ∧ post = WfL p q' cap' (xs ++ wText s)) := by
  by_cases hbig : 65535 < s.size
  · rw [← wText_cut s hbig]
    have hz : (s.extract 0 65535).size = 65535 := by simp; omega
    generalize hs' : s.extract 0 65535 = s' at hz ⊢
    have hbw0 := byte_wrap (s'.size : Int) 0 (by omega) (by omega)
    have hbw1 := byte_wrap (s'.size : Int) 1 (by omega) (by omega)
    have hab := and_byteI (s'.size : Int) (by omega) (by omega)
    have h0 : IntKind.u8.wrap (s'.size : Int) = ((byteAt (s'.size : Int) 0).toNat : Int) := by rw [byteAt_toNat, wrap_u8_mod]; simp
    have e : xs ++ [byteAt (s'.size : Int) 0, byteAt (s'.size : Int) 1] ++ bytesOf s' = xs ++ wText s' := by
      unfold wText
      rw [Nat.min_eq_left (by omega), List.take_of_length_le (by rw [bytesOf_length]; omega), List.append_assoc]
      rfl
    refine Fn.enter (N := 35) Try.func38 rfl Try.ntmps38 (by kernel_rfl) rfl (fun ρ L => ?_)
    repeat (first | refine K.seq ?_ | refine K.skip ?_ | refine K.block ?_ | refine K.inBlock ?_ | refine K.label ?_)
    refine K.region ?_
    refine KO.q rfl (q_move rfl) ?_
    refine KO.q rfl (q_lenS Try.underlying9 rfl) ?_
    refine KO.q rfl (q_gt rfl rfl) ?_
    refine KO.done ?_
    repeat (first | refine K.seq ?_ | refine K.skip ?_ | refine K.block ?_ | refine K.inBlock ?_ | refine K.label ?_)
    refine K.dite rfl (fun _ => ?_) (fun h => absurd (by omega) h)
    repeat (first | refine K.seq ?_ | refine K.skip ?_ | refine K.block ?_ | refine K.inBlock ?_ | refine K.label ?_)
    refine K.region ?_
    refine KO.q rfl (q_move rfl) ?_
    refine KO.q rfl (q_scutH Try.underlying9 rfl rfl (by first | omega | (simp; omega)) (by first | omega | (simp; omega))) ?_
    refine KO.q rfl (q_assign rfl) ?_
    refine KO.done ?_
    repeat (first | refine K.seq ?_ | refine K.skip ?_ | refine K.block ?_ | refine K.inBlock ?_ | refine K.label ?_)
    rw [show ((65535 : Int).toNat) = 65535 from rfl, hs']
    repeat (first | refine K.seq ?_ | refine K.skip ?_ | refine K.block ?_ | refine K.inBlock ?_ | refine K.label ?_)
    refine K.region ?_
    refine KO.q rfl (q_move rfl) ?_
    refine KO.q rfl (q_move rfl) ?_
    refine KO.q rfl (q_nilCheck rfl) ?_
    refine KO.q rfl (q_field fo_52_0 rfl) ?_
    refine KO.q rfl (q_load1 ck_25 rfl (by first | (apply cell_pv; (repeat (first | exact List.Mem.head _ | apply List.Mem.tail)); rfl) | (apply cell_fv; (repeat (first | exact List.Mem.head _ | apply List.Mem.tail)); rfl) | (apply rowF_cellU; (repeat (first | exact List.Mem.head _ | apply List.Mem.tail)); assumption) | (apply itm_cell; (repeat (first | exact List.Mem.head _ | apply List.Mem.tail)); assumption; rfl))) ?_
    refine KO.q rfl (q_move rfl) ?_
    refine KO.q rfl (q_lenS Try.underlying9 rfl) ?_
    refine KO.q rfl (q_and rfl rfl) ?_
    refine KO.q rfl (q_convw Try.underlying5 (by rw [Try.underlying3]; rfl) rfl) ?_
    refine KO.q rfl (q_move rfl) ?_
    refine KO.q rfl (q_lenS Try.underlying9 rfl) ?_
    refine KO.q rfl (q_shr rfl rfl (by first | omega | (simp; omega))) ?_
    refine KO.q rfl (q_convw Try.underlying5 (by rw [Try.underlying3]; rfl) rfl) ?_
    refine KO.loud rfl (l_slice sz_25_2 rfl (by repeat (first | exact Fill.nil | (apply Fill.cons; rfl; rfl; rfl) | exact SetN.nil | apply SetN.cons | exact SetAt.here | apply SetAt.there))) ?_
    rintro _ _ ⟨b22, rfl, rfl⟩
    refine KO.st (fun w h => pv_rowU [byteAt (s'.size : Int) 0, byteAt (s'.size : Int) 1] (show [Value.int .u8 _, Value.int .u8 _] = [Value.int .u8 _, Value.int .u8 _] from congr (congrArg List.cons (congrArg (Value.int .u8) (hab.trans h0))) (congrArg (fun z => [Value.int .u8 z]) hbw1)) h) ?_
    refine KO.loud rfl (l_append Kd.u8 se_25 Try.underlying25 ⟨_, ze_5, rfl⟩ (by decide) rfl rfl (by repeat (first | exact Pick.here | apply Pick.there)) isF (List.Mem.head _) rfl rfl (by simp; omega)) ?_
    rintro _ _ ⟨q', cap', rfl, rfl⟩
    refine KO.q rfl (q_nilCheck rfl) ?_
    refine KO.q rfl (q_field fo_52_0 rfl) ?_
    refine KO.loudN rfl (l_store1 ck_25 rfl rfl rfl (by repeat (first | exact Pick.here | apply Pick.there)) (by repeat (first | exact SetAt.here | apply SetAt.there))) ?_
    rintro _ _ ⟨rfl, rfl⟩
    refine KO.done ?_
    repeat (first | refine K.seq ?_ | refine K.skip ?_ | refine K.block ?_ | refine K.inBlock ?_ | refine K.label ?_)
    repeat (first | refine K.seq ?_ | refine K.skip ?_ | refine K.block ?_ | refine K.inBlock ?_ | refine K.label ?_)
    refine K.region ?_
    refine KO.q rfl (q_move rfl) ?_
    refine KO.q rfl (q_move rfl) ?_
    refine KO.q rfl (q_nilCheck rfl) ?_
    refine KO.q rfl (q_field fo_52_0 rfl) ?_
    refine KO.q rfl (q_load1 ck_25 rfl (by first | (apply cell_pv; (repeat (first | exact List.Mem.head _ | apply List.Mem.tail)); rfl) | (apply cell_fv; (repeat (first | exact List.Mem.head _ | apply List.Mem.tail)); rfl) | (apply rowF_cellU; (repeat (first | exact List.Mem.head _ | apply List.Mem.tail)); assumption) | (apply itm_cell; (repeat (first | exact List.Mem.head _ | apply List.Mem.tail)); assumption; rfl))) ?_
    refine KO.q rfl (q_move rfl) ?_
    refine KO.loud rfl (l_appendS se_25 Try.underlying9 ⟨_, ze_5, rfl⟩ (by decide) rfl rfl (by repeat (first | exact Pick.here | apply Pick.there)) rfl (by simp; omega)) ?_
    rintro _ _ ⟨q'', cap'', rfl, rfl⟩
    refine KO.q rfl (q_nilCheck rfl) ?_
    refine KO.q rfl (q_field fo_52_0 rfl) ?_
    refine KO.loudN rfl (l_store1 ck_25 rfl rfl rfl (by repeat (first | exact Pick.here | apply Pick.there)) (by repeat (first | exact SetAt.here | apply SetAt.there))) ?_
    rintro _ _ ⟨rfl, rfl⟩
    refine KO.done ?_
    repeat (first | refine K.seq ?_ | refine K.skip ?_ | refine K.block ?_ | refine K.inBlock ?_ | refine K.label ?_)
    rw [e]
    refine K.fin (fn := Try.f38) Try.func38 (fun a w hk hs => res0 Try.results38) (fun w hs => ?_)
    exact ⟨_, WfL p q'' cap'' (xs ++ wText s'), rfl, ⟨q'', cap'', rfl, rfl⟩, hs.fit (by repeat (first | exact Give.nil | (apply Give.perI; (repeat (first | exact List.Mem.head _ | apply List.Mem.tail))) | (apply Give.own; (repeat (first | exact Pick.here | apply Pick.there))))) (by repeat (first | exact Drop.refl | apply Drop.skip))⟩
  · exact wf_Text p q cap xs s hb (by omega)
theorem Msg.bytes_length (m : Msg) : m.bytes.length ≤ 131100 := by
  unfold Msg.bytes
  simp only [List.length_append, wInt_length, wFlag_length, wText_length]
  omega
theorem msg_WriteA (p : Nat) (q : Option Addr) (cap : Nat) (xs : List UInt8) (m : Msg) (hb : xs.length ≤ 137438953472) : Fn Try.prog 62 [.pointer (some ⟨p, 0, none⟩), .agg m.cells.toArray].toArray (WrL p q cap xs)
    (fun r post => ∃ q' cap', r = .tuple #[] ∧ post = WrL p q' cap' (xs ++ m.bytes)) := by
  refine Fn.enter (N := 28) Try.func62 rfl Try.ntmps62 (by kernel_rfl) rfl (fun ρ L => ?_)
  repeat (first | refine K.seq ?_ | refine K.skip ?_ | refine K.block ?_ | refine K.inBlock ?_ | refine K.label ?_)
  refine K.region ?_
  refine KO.loud rfl (l_box rfl rfl) ?_
  rintro _ _ ⟨b3, rfl, rfl⟩
  refine KO.done ?_
  repeat (first | refine K.seq ?_ | refine K.skip ?_ | refine K.block ?_ | refine K.inBlock ?_ | refine K.label ?_)
  refine K.region ?_
  refine KO.q rfl (q_move rfl) ?_
  refine KO.q rfl (q_field fo_24_0 rfl) ?_
  refine KO.q rfl (q_load1 ck_3 rfl (by first | (apply cell_pv; (repeat (first | exact List.Mem.head _ | apply List.Mem.tail)); rfl) | (apply cell_fv; (repeat (first | exact List.Mem.head _ | apply List.Mem.tail)); rfl) | (apply rowF_cellU; (repeat (first | exact List.Mem.head _ | apply List.Mem.tail)); assumption) | (apply itm_cell; (repeat (first | exact List.Mem.head _ | apply List.Mem.tail)); assumption; rfl))) ?_
  refine KO.loud rfl (OpL.callG rfl (by repeat (first | exact Give.nil | (apply Give.perI; (repeat (first | exact List.Mem.head _ | apply List.Mem.tail))) | (apply Give.own; (repeat (first | exact Pick.here | apply Pick.there))))) (wr_Int _ _ _ _ _ (by first | omega | (simp [wInt_length, wFlag_length, wText_length]; omega)))) ?_
  rintro _ _ ⟨_, ⟨q1, c1, rfl, rfl⟩, rfl⟩
  refine KO.done ?_
  repeat (first | refine K.seq ?_ | refine K.skip ?_ | refine K.block ?_ | refine K.inBlock ?_ | refine K.label ?_)
  refine K.region ?_
  refine KO.q rfl (q_move rfl) ?_
  refine KO.q rfl (q_field fo_24_1 rfl) ?_
  refine KO.q rfl (q_load1 ck_3 rfl (by first | (apply cell_pv; (repeat (first | exact List.Mem.head _ | apply List.Mem.tail)); rfl) | (apply cell_fv; (repeat (first | exact List.Mem.head _ | apply List.Mem.tail)); rfl) | (apply rowF_cellU; (repeat (first | exact List.Mem.head _ | apply List.Mem.tail)); assumption) | (apply itm_cell; (repeat (first | exact List.Mem.head _ | apply List.Mem.tail)); assumption; rfl))) ?_
  refine KO.loud rfl (OpL.callG rfl (by repeat (first | exact Give.nil | (apply Give.perI; (repeat (first | exact List.Mem.head _ | apply List.Mem.tail))) | (apply Give.own; (repeat (first | exact Pick.here | apply Pick.there))))) (wr_Int _ _ _ _ _ (by first | omega | (simp [wInt_length, wFlag_length, wText_length]; omega)))) ?_
  rintro _ _ ⟨_, ⟨q2, c2, rfl, rfl⟩, rfl⟩
  refine KO.done ?_
  repeat (first | refine K.seq ?_ | refine K.skip ?_ | refine K.block ?_ | refine K.inBlock ?_ | refine K.label ?_)
  refine K.region ?_
  refine KO.q rfl (q_move rfl) ?_
  refine KO.q rfl (q_field fo_24_2 rfl) ?_
  refine KO.q rfl (q_load1 ck_3 rfl (by first | (apply cell_pv; (repeat (first | exact List.Mem.head _ | apply List.Mem.tail)); rfl) | (apply cell_fv; (repeat (first | exact List.Mem.head _ | apply List.Mem.tail)); rfl) | (apply rowF_cellU; (repeat (first | exact List.Mem.head _ | apply List.Mem.tail)); assumption) | (apply itm_cell; (repeat (first | exact List.Mem.head _ | apply List.Mem.tail)); assumption; rfl))) ?_
  refine KO.loud rfl (OpL.callG rfl (by repeat (first | exact Give.nil | (apply Give.perI; (repeat (first | exact List.Mem.head _ | apply List.Mem.tail))) | (apply Give.own; (repeat (first | exact Pick.here | apply Pick.there))))) (wr_Int _ _ _ _ _ (by first | omega | (simp [wInt_length, wFlag_length, wText_length]; omega)))) ?_
  rintro _ _ ⟨_, ⟨q3, c3, rfl, rfl⟩, rfl⟩
  refine KO.done ?_
  repeat (first | refine K.seq ?_ | refine K.skip ?_ | refine K.block ?_ | refine K.inBlock ?_ | refine K.label ?_)
  refine K.region ?_
  refine KO.q rfl (q_move rfl) ?_
  refine KO.q rfl (q_field fo_24_3 rfl) ?_
  refine KO.q rfl (q_load1 ck_4 rfl (by first | (apply cell_pv; (repeat (first | exact List.Mem.head _ | apply List.Mem.tail)); rfl) | (apply cell_fv; (repeat (first | exact List.Mem.head _ | apply List.Mem.tail)); rfl) | (apply rowF_cellU; (repeat (first | exact List.Mem.head _ | apply List.Mem.tail)); assumption) | (apply itm_cell; (repeat (first | exact List.Mem.head _ | apply List.Mem.tail)); assumption; rfl))) ?_
  refine KO.loud rfl (OpL.callG rfl (by repeat (first | exact Give.nil | (apply Give.perI; (repeat (first | exact List.Mem.head _ | apply List.Mem.tail))) | (apply Give.own; (repeat (first | exact Pick.here | apply Pick.there))))) (wr_Flag _ _ _ _ _ (by first | omega | (simp [wInt_length, wFlag_length, wText_length]; omega)))) ?_
  rintro _ _ ⟨_, ⟨q4, c4, rfl, rfl⟩, rfl⟩
  refine KO.done ?_
  repeat (first | refine K.seq ?_ | refine K.skip ?_ | refine K.block ?_ | refine K.inBlock ?_ | refine K.label ?_)
  refine K.region ?_
  refine KO.q rfl (q_move rfl) ?_
  refine KO.q rfl (q_field fo_24_4 rfl) ?_
  refine KO.q rfl (q_load1 ck_9 rfl (by first | (apply cell_pv; (repeat (first | exact List.Mem.head _ | apply List.Mem.tail)); rfl) | (apply cell_fv; (repeat (first | exact List.Mem.head _ | apply List.Mem.tail)); rfl) | (apply rowF_cellU; (repeat (first | exact List.Mem.head _ | apply List.Mem.tail)); assumption) | (apply itm_cell; (repeat (first | exact List.Mem.head _ | apply List.Mem.tail)); assumption; rfl))) ?_
  refine KO.loud rfl (OpL.callG rfl (by repeat (first | exact Give.nil | (apply Give.perI; (repeat (first | exact List.Mem.head _ | apply List.Mem.tail))) | (apply Give.own; (repeat (first | exact Pick.here | apply Pick.there))))) (wr_TextA _ _ _ _ _ (by first | omega | (simp [wInt_length, wFlag_length, wText_length]; omega)))) ?_
  rintro _ _ ⟨_, ⟨q5, c5, rfl, rfl⟩, rfl⟩
  refine KO.done ?_
  refine K.region ?_
  refine KO.q rfl (q_move rfl) ?_
  refine KO.q rfl (q_field fo_24_5 rfl) ?_
  refine KO.q rfl (q_load1 ck_9 rfl (by first | (apply cell_pv; (repeat (first | exact List.Mem.head _ | apply List.Mem.tail)); rfl) | (apply cell_fv; (repeat (first | exact List.Mem.head _ | apply List.Mem.tail)); rfl) | (apply rowF_cellU; (repeat (first | exact List.Mem.head _ | apply List.Mem.tail)); assumption) | (apply itm_cell; (repeat (first | exact List.Mem.head _ | apply List.Mem.tail)); assumption; rfl))) ?_
  refine KO.loud rfl (OpL.callG rfl (by repeat (first | exact Give.nil | (apply Give.perI; (repeat (first | exact List.Mem.head _ | apply List.Mem.tail))) | (apply Give.own; (repeat (first | exact Pick.here | apply Pick.there))))) (wr_TextA _ _ _ _ _ (by first | omega | (simp [wInt_length, wFlag_length, wText_length]; omega)))) ?_
  rintro _ _ ⟨_, ⟨q6, c6, rfl, rfl⟩, rfl⟩
  refine KO.done ?_
  refine K.fin (fn := Try.f62) Try.func62 (fun a w hk hs => res0 Try.results62) (fun w hs => ?_)
  refine ⟨_, WrL p q6 c6 (xs ++ m.bytes), rfl, ⟨q6, c6, rfl, rfl⟩, ?_⟩
  have e : xs ++ wInt m.id ++ wInt m.pri ++ wInt m.retry ++ wFlag m.claimed ++ wText m.corr ++ wText m.body = xs ++ m.bytes := by simp [Msg.bytes]
  rw [e] at hs
  exact hs.fit (by repeat (first | exact Give.nil | (apply Give.perI; (repeat (first | exact List.Mem.head _ | apply List.Mem.tail))) | (apply Give.own; (repeat (first | exact Pick.here | apply Pick.there))))) (by repeat (first | exact Drop.refl | apply Drop.skip))
theorem ref_putMsgA (p : Nat) (q : Option Addr) (cap : Nat) (xs : List UInt8) (m : Msg) (hb : xs.length ≤ 137438953472) : Fn Try.prog 63 [.pointer (some ⟨p, 0, none⟩), .agg m.cells.toArray].toArray (WfL p q cap xs)
    (fun r post => ∃ q' cap', r = .tuple #[] ∧ post = WfL p q' cap' (xs ++ m.bytes)) := by
  refine Fn.enter (N := 28) Try.func63 rfl Try.ntmps63 (by kernel_rfl) rfl (fun ρ L => ?_)
  repeat (first | refine K.seq ?_ | refine K.skip ?_ | refine K.block ?_ | refine K.inBlock ?_ | refine K.label ?_)
  refine K.region ?_
  refine KO.loud rfl (l_box rfl rfl) ?_
  rintro _ _ ⟨b3, rfl, rfl⟩
  refine KO.done ?_
  repeat (first | refine K.seq ?_ | refine K.skip ?_ | refine K.block ?_ | refine K.inBlock ?_ | refine K.label ?_)
  refine K.region ?_
  refine KO.q rfl (q_move rfl) ?_
  refine KO.q rfl (q_field fo_24_0 rfl) ?_
  refine KO.q rfl (q_load1 ck_3 rfl (by first | (apply cell_pv; (repeat (first | exact List.Mem.head _ | apply List.Mem.tail)); rfl) | (apply cell_fv; (repeat (first | exact List.Mem.head _ | apply List.Mem.tail)); rfl) | (apply rowF_cellU; (repeat (first | exact List.Mem.head _ | apply List.Mem.tail)); assumption) | (apply itm_cell; (repeat (first | exact List.Mem.head _ | apply List.Mem.tail)); assumption; rfl))) ?_
  refine KO.loud rfl (OpL.callG rfl (by repeat (first | exact Give.nil | (apply Give.perI; (repeat (first | exact List.Mem.head _ | apply List.Mem.tail))) | (apply Give.own; (repeat (first | exact Pick.here | apply Pick.there))))) (wf_Int _ _ _ _ _ (by first | omega | (simp [wInt_length, wFlag_length, wText_length]; omega)))) ?_
  rintro _ _ ⟨_, ⟨q1, c1, rfl, rfl⟩, rfl⟩
  refine KO.done ?_
  repeat (first | refine K.seq ?_ | refine K.skip ?_ | refine K.block ?_ | refine K.inBlock ?_ | refine K.label ?_)
  refine K.region ?_
  refine KO.q rfl (q_move rfl) ?_
  refine KO.q rfl (q_field fo_24_1 rfl) ?_
  refine KO.q rfl (q_load1 ck_3 rfl (by first | (apply cell_pv; (repeat (first | exact List.Mem.head _ | apply List.Mem.tail)); rfl) | (apply cell_fv; (repeat (first | exact List.Mem.head _ | apply List.Mem.tail)); rfl) | (apply rowF_cellU; (repeat (first | exact List.Mem.head _ | apply List.Mem.tail)); assumption) | (apply itm_cell; (repeat (first | exact List.Mem.head _ | apply List.Mem.tail)); assumption; rfl))) ?_
  refine KO.loud rfl (OpL.callG rfl (by repeat (first | exact Give.nil | (apply Give.perI; (repeat (first | exact List.Mem.head _ | apply List.Mem.tail))) | (apply Give.own; (repeat (first | exact Pick.here | apply Pick.there))))) (wf_Int _ _ _ _ _ (by first | omega | (simp [wInt_length, wFlag_length, wText_length]; omega)))) ?_
  rintro _ _ ⟨_, ⟨q2, c2, rfl, rfl⟩, rfl⟩
  refine KO.done ?_
  repeat (first | refine K.seq ?_ | refine K.skip ?_ | refine K.block ?_ | refine K.inBlock ?_ | refine K.label ?_)
  refine K.region ?_
  refine KO.q rfl (q_move rfl) ?_
  refine KO.q rfl (q_field fo_24_2 rfl) ?_
  refine KO.q rfl (q_load1 ck_3 rfl (by first | (apply cell_pv; (repeat (first | exact List.Mem.head _ | apply List.Mem.tail)); rfl) | (apply cell_fv; (repeat (first | exact List.Mem.head _ | apply List.Mem.tail)); rfl) | (apply rowF_cellU; (repeat (first | exact List.Mem.head _ | apply List.Mem.tail)); assumption) | (apply itm_cell; (repeat (first | exact List.Mem.head _ | apply List.Mem.tail)); assumption; rfl))) ?_
  refine KO.loud rfl (OpL.callG rfl (by repeat (first | exact Give.nil | (apply Give.perI; (repeat (first | exact List.Mem.head _ | apply List.Mem.tail))) | (apply Give.own; (repeat (first | exact Pick.here | apply Pick.there))))) (wf_Int _ _ _ _ _ (by first | omega | (simp [wInt_length, wFlag_length, wText_length]; omega)))) ?_
  rintro _ _ ⟨_, ⟨q3, c3, rfl, rfl⟩, rfl⟩
  refine KO.done ?_
  repeat (first | refine K.seq ?_ | refine K.skip ?_ | refine K.block ?_ | refine K.inBlock ?_ | refine K.label ?_)
  refine K.region ?_
  refine KO.q rfl (q_move rfl) ?_
  refine KO.q rfl (q_field fo_24_3 rfl) ?_
  refine KO.q rfl (q_load1 ck_4 rfl (by first | (apply cell_pv; (repeat (first | exact List.Mem.head _ | apply List.Mem.tail)); rfl) | (apply cell_fv; (repeat (first | exact List.Mem.head _ | apply List.Mem.tail)); rfl) | (apply rowF_cellU; (repeat (first | exact List.Mem.head _ | apply List.Mem.tail)); assumption) | (apply itm_cell; (repeat (first | exact List.Mem.head _ | apply List.Mem.tail)); assumption; rfl))) ?_
  refine KO.loud rfl (OpL.callG rfl (by repeat (first | exact Give.nil | (apply Give.perI; (repeat (first | exact List.Mem.head _ | apply List.Mem.tail))) | (apply Give.own; (repeat (first | exact Pick.here | apply Pick.there))))) (wf_Flag _ _ _ _ _ (by first | omega | (simp [wInt_length, wFlag_length, wText_length]; omega)))) ?_
  rintro _ _ ⟨_, ⟨q4, c4, rfl, rfl⟩, rfl⟩
  refine KO.done ?_
  repeat (first | refine K.seq ?_ | refine K.skip ?_ | refine K.block ?_ | refine K.inBlock ?_ | refine K.label ?_)
  refine K.region ?_
  refine KO.q rfl (q_move rfl) ?_
  refine KO.q rfl (q_field fo_24_4 rfl) ?_
  refine KO.q rfl (q_load1 ck_9 rfl (by first | (apply cell_pv; (repeat (first | exact List.Mem.head _ | apply List.Mem.tail)); rfl) | (apply cell_fv; (repeat (first | exact List.Mem.head _ | apply List.Mem.tail)); rfl) | (apply rowF_cellU; (repeat (first | exact List.Mem.head _ | apply List.Mem.tail)); assumption) | (apply itm_cell; (repeat (first | exact List.Mem.head _ | apply List.Mem.tail)); assumption; rfl))) ?_
  refine KO.loud rfl (OpL.callG rfl (by repeat (first | exact Give.nil | (apply Give.perI; (repeat (first | exact List.Mem.head _ | apply List.Mem.tail))) | (apply Give.own; (repeat (first | exact Pick.here | apply Pick.there))))) (wf_TextA _ _ _ _ _ (by first | omega | (simp [wInt_length, wFlag_length, wText_length]; omega)))) ?_
  rintro _ _ ⟨_, ⟨q5, c5, rfl, rfl⟩, rfl⟩
  refine KO.done ?_
  refine K.region ?_
  refine KO.q rfl (q_move rfl) ?_
  refine KO.q rfl (q_field fo_24_5 rfl) ?_
  refine KO.q rfl (q_load1 ck_9 rfl (by first | (apply cell_pv; (repeat (first | exact List.Mem.head _ | apply List.Mem.tail)); rfl) | (apply cell_fv; (repeat (first | exact List.Mem.head _ | apply List.Mem.tail)); rfl) | (apply rowF_cellU; (repeat (first | exact List.Mem.head _ | apply List.Mem.tail)); assumption) | (apply itm_cell; (repeat (first | exact List.Mem.head _ | apply List.Mem.tail)); assumption; rfl))) ?_
  refine KO.loud rfl (OpL.callG rfl (by repeat (first | exact Give.nil | (apply Give.perI; (repeat (first | exact List.Mem.head _ | apply List.Mem.tail))) | (apply Give.own; (repeat (first | exact Pick.here | apply Pick.there))))) (wf_TextA _ _ _ _ _ (by first | omega | (simp [wInt_length, wFlag_length, wText_length]; omega)))) ?_
  rintro _ _ ⟨_, ⟨q6, c6, rfl, rfl⟩, rfl⟩
  refine KO.done ?_
  refine K.fin (fn := Try.f63) Try.func63 (fun a w hk hs => res0 Try.results63) (fun w hs => ?_)
  refine ⟨_, WfL p q6 c6 (xs ++ m.bytes), rfl, ⟨q6, c6, rfl, rfl⟩, ?_⟩
  have e : xs ++ wInt m.id ++ wInt m.pri ++ wInt m.retry ++ wFlag m.claimed ++ wText m.corr ++ wText m.body = xs ++ m.bytes := by simp [Msg.bytes]
  rw [e] at hs
  exact hs.fit (by repeat (first | exact Give.nil | (apply Give.perI; (repeat (first | exact List.Mem.head _ | apply List.Mem.tail))) | (apply Give.own; (repeat (first | exact Pick.here | apply Pick.there))))) (by repeat (first | exact Drop.refl | apply Drop.skip))
end Go.Proofs.Ytlellgnklohclaa.L
