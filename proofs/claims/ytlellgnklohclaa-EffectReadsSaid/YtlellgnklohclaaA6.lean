/- Walks: postelaw2.alive, BytesLong, BytesShort. -/
import Derived.Test.YtlellgnklohclaaA5
import Derived.Test.YtlellgnklohclaaBytes2
namespace Go.Proofs.Ytlellgnklohclaa.L
open Go Go.Proofs
attribute [local irreducible] pv fv pt fz RowF RowO rowP old pure_
set_option maxRecDepth 100000
set_option linter.unusedSimpArgs false
set_option linter.unusedVariables false

theorem alive2 : Fn Try.prog 23 [].toArray [] (fun r post => r = .bool true ∧ post = []) := by
  refine Fn.enter (N := 29) Try.func23 rfl Try.ntmps23 (by kernel_rfl) rfl (fun ρ L => ?_)
  repeat (first | refine K.seq ?_ | refine K.skip ?_ | refine K.block ?_ | refine K.inBlock ?_ | refine K.label ?_)
  refine K.region ?_
  refine KO.q rfl (q_assign rfl) ?_
  refine KO.done ?_
  repeat (first | refine K.seq ?_ | refine K.skip ?_ | refine K.block ?_ | refine K.inBlock ?_ | refine K.label ?_)
  repeat (first | refine K.seq ?_ | refine K.skip ?_ | refine K.block ?_ | refine K.inBlock ?_ | refine K.label ?_)
  refine K.region ?_
  refine KO.q rfl (q_build st_35 rfl (by repeat (first | exact Fill.nil | (apply Fill.cons; rfl; rfl; rfl) | exact SetN.nil | apply SetN.cons | exact SetAt.here | apply SetAt.there))) ?_
  refine KO.loud rfl (l_box rfl rfl) ?_
  rintro _ _ ⟨b5, rfl, rfl⟩
  refine KO.q rfl (q_assign rfl) ?_
  refine KO.done ?_
  repeat (first | refine K.seq ?_ | refine K.skip ?_ | refine K.block ?_ | refine K.inBlock ?_ | refine K.label ?_)
  refine K.st (fun w h => rowO_nil (k := Kd.u8) 5 h) ?_
  repeat (first | refine K.seq ?_ | refine K.skip ?_ | refine K.block ?_ | refine K.inBlock ?_ | refine K.label ?_)
  refine K.region ?_
  refine KO.q rfl (q_move rfl) ?_
  refine KO.loud rfl (OpL.call rfl (wr_Bytes b5 none 0 [] (by simp)) (by repeat (first | exact Give.nil | (apply Give.perI; (repeat (first | exact List.Mem.head _ | apply List.Mem.tail))) | (apply Give.own; (repeat (first | exact Pick.here | apply Pick.there)))))) ?_
  rintro _ _ ⟨_, ⟨q1, cap1, rfl, rfl, h1⟩, rfl⟩
  refine KO.q rfl (q_len Try.underlying25 rfl) ?_
  refine KO.q rfl (q_assign rfl) ?_
  refine KO.done ?_
  repeat (first | refine K.seq ?_ | refine K.skip ?_ | refine K.block ?_ | refine K.inBlock ?_ | refine K.label ?_)
  repeat (first | refine K.seq ?_ | refine K.skip ?_ | refine K.block ?_ | refine K.inBlock ?_ | refine K.label ?_)
  refine K.region ?_
  refine KO.q rfl (q_move rfl) ?_
  refine KO.loud rfl (OpL.call rfl (wr_Int b5 none 0 [] 5 (by simp)) (by repeat (first | exact Give.nil | (apply Give.perI; (repeat (first | exact List.Mem.head _ | apply List.Mem.tail))) | (apply Give.own; (repeat (first | exact Pick.here | apply Pick.there)))))) ?_
  rintro _ _ ⟨_, ⟨q2, cap2, rfl, rfl⟩, rfl⟩
  refine KO.done ?_
  repeat (first | refine K.seq ?_ | refine K.skip ?_ | refine K.block ?_ | refine K.inBlock ?_ | refine K.label ?_)
  repeat (first | refine K.seq ?_ | refine K.skip ?_ | refine K.block ?_ | refine K.inBlock ?_ | refine K.label ?_)
  refine K.region ?_
  refine KO.q rfl (q_move rfl) ?_
  refine KO.loud rfl (OpL.call rfl (wr_Bytes b5 q2 cap2 ([] ++ wInt 5) (by decide)) (by repeat (first | exact Give.nil | (apply Give.perI; (repeat (first | exact List.Mem.head _ | apply List.Mem.tail))) | (apply Give.own; (repeat (first | exact Pick.here | apply Pick.there)))))) ?_
  rintro _ _ ⟨_, ⟨q3, cap3, rfl, rfl, h3⟩, rfl⟩
  refine KO.loud rfl (OpL.call rfl (rd_New q3 cap3 ([] ++ wInt 5) (by decide)) (by repeat (first | exact Give.nil | (apply Give.perI; (repeat (first | exact List.Mem.head _ | apply List.Mem.tail))) | (apply Give.own; (repeat (first | exact Pick.here | apply Pick.there)))))) ?_
  rintro _ _ ⟨_, ⟨p4, q4, cap4, rfl, rfl, h4⟩, rfl⟩
  refine KO.q rfl (q_assign rfl) ?_
  refine KO.done ?_
  repeat (first | refine K.seq ?_ | refine K.skip ?_ | refine K.block ?_ | refine K.inBlock ?_ | refine K.label ?_)
  have e : Rd.int ⟨[] ++ wInt 5, false⟩ = (5, ⟨[], false⟩) := Rd.int_app (by decide) (by decide) []
  repeat (first | refine K.seq ?_ | refine K.skip ?_ | refine K.block ?_ | refine K.inBlock ?_ | refine K.label ?_)
  refine K.region ?_
  refine KO.q rfl (q_move rfl) ?_
  refine KO.q rfl (q_eq rfl rfl) ?_
  refine KO.q rfl (q_move rfl) ?_
  refine KO.q rfl (q_move rfl) ?_
  refine KO.q rfl (q_pnn Try.underlying38 rfl rfl) ?_
  refine KO.q rfl (q_pickT rfl rfl) ?_
  refine KO.q rfl (q_move rfl) ?_
  refine KO.q rfl (q_move rfl) ?_
  refine KO.loud rfl (OpL.call rfl (rd_Int p4 q4 cap4 ⟨[] ++ wInt 5, false⟩ h4) (by repeat (first | exact Give.nil | (apply Give.perI; (repeat (first | exact List.Mem.head _ | apply List.Mem.tail))) | (apply Give.own; (repeat (first | exact Pick.here | apply Pick.there)))))) ?_
  rintro _ _ ⟨_, ⟨q5, cap5, rfl, rfl, h5⟩, rfl⟩
  rw [e]
  refine KO.q rfl (q_eq rfl rfl) ?_
  refine KO.q rfl (q_pickT rfl rfl) ?_
  refine KO.q rfl (q_move rfl) ?_
  refine KO.q rfl (q_move rfl) ?_
  refine KO.loud rfl (OpL.call rfl (rd_Done p4 q5 cap5 ⟨[], false⟩) (by repeat (first | exact Give.nil | (apply Give.perI; (repeat (first | exact List.Mem.head _ | apply List.Mem.tail))) | (apply Give.own; (repeat (first | exact Pick.here | apply Pick.there)))))) ?_
  rintro _ _ ⟨_, ⟨rfl, rfl⟩, rfl⟩
  refine KO.q rfl (q_pickT rfl rfl) ?_
  refine KO.q rfl (q_assign rfl) ?_
  refine KO.done ?_
  repeat (first | refine K.seq ?_ | refine K.skip ?_ | refine K.block ?_ | refine K.inBlock ?_ | refine K.label ?_)
  refine K.ret (fn := Try.f23) Try.func23 (fun a w hk hs => res1 Try.results23 hk rfl) (fun w hs => ?_)
  exact ⟨_, [], rfl, ⟨rfl, rfl⟩, hs.fit (by repeat (first | exact Give.nil | (apply Give.perI; (repeat (first | exact List.Mem.head _ | apply List.Mem.tail))) | (apply Give.own; (repeat (first | exact Pick.here | apply Pick.there))))) (by repeat (first | exact Drop.refl | apply Drop.skip))⟩
theorem law_BytesLong (n : Int) (hn0 : -9223372036854775808 ≤ n) (hn1 : n ≤ 9223372036854775807) : Fn Try.prog 5 [.int .i64 n].toArray [] (fun r post => r = .bool true ∧ post = []) := by
  by_cases hout : n < 0 ∨ 70000 < n
  · refine Fn.enter (N := 50) Try.func5 rfl Try.ntmps5 (by kernel_rfl) rfl (fun ρ L => ?_)
    repeat (first | refine K.seq ?_ | refine K.skip ?_ | refine K.block ?_ | refine K.inBlock ?_ | refine K.label ?_)
    refine K.region ?_
    refine KO.q rfl (q_assign rfl) ?_
    refine KO.done ?_
    repeat (first | refine K.seq ?_ | refine K.skip ?_ | refine K.block ?_ | refine K.inBlock ?_ | refine K.label ?_)
    repeat (first | refine K.seq ?_ | refine K.skip ?_ | refine K.block ?_ | refine K.inBlock ?_ | refine K.label ?_)
    refine K.region ?_
    refine KO.loud rfl (OpL.call rfl alive2 (by repeat (first | exact Give.nil | (apply Give.perI; (repeat (first | exact List.Mem.head _ | apply List.Mem.tail))) | (apply Give.own; (repeat (first | exact Pick.here | apply Pick.there)))))) ?_
    rintro _ _ ⟨_, ⟨rfl, rfl⟩, rfl⟩
    refine KO.q rfl (q_assign rfl) ?_
    refine KO.done ?_
    repeat (first | refine K.seq ?_ | refine K.skip ?_ | refine K.block ?_ | refine K.inBlock ?_ | refine K.label ?_)
    repeat (first | refine K.seq ?_ | refine K.skip ?_ | refine K.block ?_ | refine K.inBlock ?_ | refine K.label ?_)
    refine K.region ?_
    refine KO.q rfl (q_move rfl) ?_
    refine KO.q rfl (q_not rfl) ?_
    refine KO.q rfl (q_move rfl) ?_
    refine KO.q rfl (q_move rfl) ?_
    refine KO.q rfl (q_lt rfl rfl) ?_
    by_cases h0 : n < 0
    · refine KO.q rfl (q_pickF rfl rfl) ?_
      refine KO.q rfl (q_move rfl) ?_
      refine KO.split 14 rfl (fun _ => ?_) (fun hh => absurd h0 (of_decide_eq_false hh))
      refine KO.skip rfl ?_
      refine KO.skip rfl ?_
      refine KO.q rfl (q_pickT rfl rfl) ?_
      refine KO.done ?_
      repeat (first | refine K.seq ?_ | refine K.skip ?_ | refine K.block ?_ | refine K.inBlock ?_ | refine K.label ?_)
      refine K.yes rfl ?_
      repeat (first | refine K.seq ?_ | refine K.skip ?_ | refine K.block ?_ | refine K.inBlock ?_ | refine K.label ?_)
      refine K.region ?_
      refine KO.q rfl (q_move rfl) ?_
      refine KO.q rfl (q_assign rfl) ?_
      refine KO.done ?_
      repeat (first | refine K.seq ?_ | refine K.skip ?_ | refine K.block ?_ | refine K.inBlock ?_ | refine K.label ?_)
      refine K.ret (fn := Try.f5) Try.func5 (fun a w hk hs => res1 Try.results5 hk rfl) (fun w hs => ?_)
      exact ⟨_, [], rfl, ⟨rfl, rfl⟩, hs⟩
    · have h1 : 70000 < n := by omega
      refine KO.q rfl (q_pickF rfl rfl) ?_
      refine KO.q rfl (q_move rfl) ?_
      refine KO.split 14 rfl (fun hh => absurd (of_decide_eq_true hh) h0) (fun _ => ?_)
      refine KO.q rfl (q_move rfl) ?_
      refine KO.q rfl (q_gt rfl rfl) ?_
      refine KO.q rfl (q_pickF rfl rfl) ?_
      refine KO.done ?_
      repeat (first | refine K.seq ?_ | refine K.skip ?_ | refine K.block ?_ | refine K.inBlock ?_ | refine K.label ?_)
      refine K.dite rfl (fun _ => ?_) (fun hh => absurd h1 hh)
      repeat (first | refine K.seq ?_ | refine K.skip ?_ | refine K.block ?_ | refine K.inBlock ?_ | refine K.label ?_)
      refine K.region ?_
      refine KO.q rfl (q_move rfl) ?_
      refine KO.q rfl (q_assign rfl) ?_
      refine KO.done ?_
      repeat (first | refine K.seq ?_ | refine K.skip ?_ | refine K.block ?_ | refine K.inBlock ?_ | refine K.label ?_)
      refine K.ret (fn := Try.f5) Try.func5 (fun a w hk hs => res1 Try.results5 hk rfl) (fun w hs => ?_)
      exact ⟨_, [], rfl, ⟨rfl, rfl⟩, hs⟩
  · have h0 : ¬ n < 0 := by omega
    have h1 : ¬ 70000 < n := by omega
    obtain ⟨m, rfl⟩ := Int.eq_ofNat_of_zero_le (a := n) (by omega)
    clear hout
    refine Fn.enter (N := 50) Try.func5 rfl Try.ntmps5 (by kernel_rfl) rfl (fun ρ L => ?_)
    repeat (first | refine K.seq ?_ | refine K.skip ?_ | refine K.block ?_ | refine K.inBlock ?_ | refine K.label ?_)
    refine K.region ?_
    refine KO.q rfl (q_assign rfl) ?_
    refine KO.done ?_
    repeat (first | refine K.seq ?_ | refine K.skip ?_ | refine K.block ?_ | refine K.inBlock ?_ | refine K.label ?_)
    repeat (first | refine K.seq ?_ | refine K.skip ?_ | refine K.block ?_ | refine K.inBlock ?_ | refine K.label ?_)
    refine K.region ?_
    refine KO.loud rfl (OpL.call rfl alive2 (by repeat (first | exact Give.nil | (apply Give.perI; (repeat (first | exact List.Mem.head _ | apply List.Mem.tail))) | (apply Give.own; (repeat (first | exact Pick.here | apply Pick.there)))))) ?_
    rintro _ _ ⟨_, ⟨rfl, rfl⟩, rfl⟩
    refine KO.q rfl (q_assign rfl) ?_
    refine KO.done ?_
    repeat (first | refine K.seq ?_ | refine K.skip ?_ | refine K.block ?_ | refine K.inBlock ?_ | refine K.label ?_)
    repeat (first | refine K.seq ?_ | refine K.skip ?_ | refine K.block ?_ | refine K.inBlock ?_ | refine K.label ?_)
    refine K.region ?_
    refine KO.q rfl (q_move rfl) ?_
    refine KO.q rfl (q_not rfl) ?_
    refine KO.q rfl (q_move rfl) ?_
    refine KO.q rfl (q_move rfl) ?_
    refine KO.q rfl (q_lt rfl rfl) ?_
    refine KO.q rfl (q_pickF rfl rfl) ?_
    refine KO.q rfl (q_move rfl) ?_
    refine KO.split 14 rfl (fun hh => absurd (of_decide_eq_true hh) h0) (fun _ => ?_)
    refine KO.q rfl (q_move rfl) ?_
    refine KO.q rfl (q_gt rfl rfl) ?_
    refine KO.q rfl (q_pickF rfl rfl) ?_
    refine KO.done ?_
    repeat (first | refine K.seq ?_ | refine K.skip ?_ | refine K.block ?_ | refine K.inBlock ?_ | refine K.label ?_)
    refine K.dite rfl (fun hh => absurd hh h1) (fun _ => ?_)
    repeat (first | refine K.seq ?_ | refine K.skip ?_ | refine K.block ?_ | refine K.inBlock ?_ | refine K.label ?_)
    refine K.region ?_
    refine KO.q rfl (q_build st_35 rfl (by repeat (first | exact Fill.nil | (apply Fill.cons; rfl; rfl; rfl) | exact SetN.nil | apply SetN.cons | exact SetAt.here | apply SetAt.there))) ?_
    refine KO.loud rfl (l_box rfl rfl) ?_
    rintro _ _ ⟨b20, rfl, rfl⟩
    refine KO.q rfl (q_assign rfl) ?_
    refine KO.done ?_
    repeat (first | refine K.seq ?_ | refine K.skip ?_ | refine K.block ?_ | refine K.inBlock ?_ | refine K.label ?_)
    refine K.st (fun w h => rowO_nil (k := Kd.u8) 5 h) ?_
    have hz : (List.replicate m (0 : UInt8)).length = m := List.length_replicate
    repeat (first | refine K.seq ?_ | refine K.skip ?_ | refine K.block ?_ | refine K.inBlock ?_ | refine K.label ?_)
    refine K.region ?_
    refine KO.q rfl (q_move rfl) ?_
    refine KO.q rfl (q_move rfl) ?_
    refine KO.loud rfl (l_make Kd.u8 (0 : UInt8) se_25 ze_5 rfl (fun g => rfl) rfl rfl (by omega) (by omega)) ?_
    rintro _ _ ⟨q0, rfl, rfl⟩
    refine KO.q rfl (q_bstr Try.underlying25 Try.underlying5 Try.underlying9 rfl isO (List.Mem.head _) hz.symm) ?_
    have hsz : (⟨(List.replicate m (0 : UInt8)).toArray⟩ : ByteArray).size = m := by simp [ByteArray.size]
    generalize (⟨(List.replicate m (0 : UInt8)).toArray⟩ : ByteArray) = S at hsz ⊢
    subst hsz
    refine KO.loud rfl (OpL.call rfl (wr_Text b20 none 0 [] S (by simp) (by omega)) (by repeat (first | exact Give.nil | (apply Give.perI; (repeat (first | exact List.Mem.head _ | apply List.Mem.tail))) | (apply Give.own; (repeat (first | exact Pick.here | apply Pick.there)))))) ?_
    rintro _ _ ⟨_, ⟨q1, cap1, rfl, rfl⟩, rfl⟩
    refine KO.done ?_
    repeat (first | refine K.seq ?_ | refine K.skip ?_ | refine K.block ?_ | refine K.inBlock ?_ | refine K.label ?_)
    have hl1 := wText_length S
    repeat (first | refine K.seq ?_ | refine K.skip ?_ | refine K.block ?_ | refine K.inBlock ?_ | refine K.label ?_)
    refine K.region ?_
    refine KO.q rfl (q_move rfl) ?_
    refine KO.loud rfl (OpL.call rfl (wr_Int b20 q1 cap1 ([] ++ wText S) 7 (by simp; omega)) (by repeat (first | exact Give.nil | (apply Give.perI; (repeat (first | exact List.Mem.head _ | apply List.Mem.tail))) | (apply Give.own; (repeat (first | exact Pick.here | apply Pick.there)))))) ?_
    rintro _ _ ⟨_, ⟨q2, cap2, rfl, rfl⟩, rfl⟩
    refine KO.done ?_
    repeat (first | refine K.seq ?_ | refine K.skip ?_ | refine K.block ?_ | refine K.inBlock ?_ | refine K.label ?_)
    have hl2 := wInt_length 7
    have hl : ([] ++ wText S ++ wInt 7).length ≤ 1099511627776 := by simp; omega
    repeat (first | refine K.seq ?_ | refine K.skip ?_ | refine K.block ?_ | refine K.inBlock ?_ | refine K.label ?_)
    refine K.region ?_
    refine KO.q rfl (q_move rfl) ?_
    refine KO.loud rfl (OpL.call rfl (wr_Bytes b20 q2 cap2 ([] ++ wText S ++ wInt 7) hl) (by repeat (first | exact Give.nil | (apply Give.perI; (repeat (first | exact List.Mem.head _ | apply List.Mem.tail))) | (apply Give.own; (repeat (first | exact Pick.here | apply Pick.there)))))) ?_
    rintro _ _ ⟨_, ⟨q3, cap3, rfl, rfl, h3⟩, rfl⟩
    refine KO.loud rfl (OpL.call rfl (rd_New q3 cap3 ([] ++ wText S ++ wInt 7) hl) (by repeat (first | exact Give.nil | (apply Give.perI; (repeat (first | exact List.Mem.head _ | apply List.Mem.tail))) | (apply Give.own; (repeat (first | exact Pick.here | apply Pick.there)))))) ?_
    rintro _ _ ⟨_, ⟨p4, q4, cap4, rfl, rfl, h4⟩, rfl⟩
    refine KO.q rfl (q_assign rfl) ?_
    refine KO.done ?_
    repeat (first | refine K.seq ?_ | refine K.skip ?_ | refine K.block ?_ | refine K.inBlock ?_ | refine K.label ?_)
    repeat (first | refine K.seq ?_ | refine K.skip ?_ | refine K.block ?_ | refine K.inBlock ?_ | refine K.label ?_)
    refine K.region ?_
    refine KO.q rfl (q_move rfl) ?_
    refine KO.q rfl (q_pnil Try.underlying38 rfl rfl) ?_
    refine KO.done ?_
    repeat (first | refine K.seq ?_ | refine K.skip ?_ | refine K.block ?_ | refine K.inBlock ?_ | refine K.label ?_)
    refine K.no rfl ?_
    repeat (first | refine K.seq ?_ | refine K.skip ?_ | refine K.block ?_ | refine K.inBlock ?_ | refine K.label ?_)
    refine K.region ?_
    refine KO.q rfl (q_move rfl) ?_
    refine KO.q rfl (q_assign rfl) ?_
    refine KO.done ?_
    repeat (first | refine K.seq ?_ | refine K.skip ?_ | refine K.block ?_ | refine K.inBlock ?_ | refine K.label ?_)
    have ht : Rd.text ⟨[] ++ wText S ++ wInt 7, false⟩ = (⟨((bytesOf S).take 65535).toArray⟩, ⟨wInt 7 ++ [], false⟩) := by
      rw [List.nil_append, Rd.text_app, List.append_nil]
    have hi : Rd.int ⟨wInt 7 ++ [], false⟩ = (7, ⟨[], false⟩) := Rd.int_app (by decide) (by decide) []
    have hts : ((⟨((bytesOf S).take 65535).toArray⟩ : ByteArray).size : Int) = if 65535 < (S.size : Int) then 65535 else (S.size : Int) := by
      have : (⟨((bytesOf S).take 65535).toArray⟩ : ByteArray).size = min 65535 S.size := by
        show ((bytesOf S).take 65535).toArray.size = _
        rw [List.size_toArray, List.length_take, bytesOf_length]
      rw [this]; split <;> omega
    repeat (first | refine K.seq ?_ | refine K.skip ?_ | refine K.block ?_ | refine K.inBlock ?_ | refine K.label ?_)
    refine K.region ?_
    refine KO.q rfl (q_move rfl) ?_
    refine KO.q rfl (q_gt rfl rfl) ?_
    refine KO.done ?_
    repeat (first | refine K.seq ?_ | refine K.skip ?_ | refine K.block ?_ | refine K.inBlock ?_ | refine K.label ?_)
    refine K.dite rfl (fun hh => ?_) (fun hh => ?_)
    all_goals repeat (first | refine K.seq ?_ | refine K.skip ?_ | refine K.block ?_ | refine K.inBlock ?_ | refine K.label ?_)
    · rw [if_pos hh] at hts
      repeat (first | refine K.seq ?_ | refine K.skip ?_ | refine K.block ?_ | refine K.inBlock ?_ | refine K.label ?_)
      refine K.region ?_
      refine KO.q rfl (q_assign rfl) ?_
      refine KO.done ?_
      repeat (first | refine K.seq ?_ | refine K.skip ?_ | refine K.block ?_ | refine K.inBlock ?_ | refine K.label ?_)
      repeat (first | refine K.seq ?_ | refine K.skip ?_ | refine K.block ?_ | refine K.inBlock ?_ | refine K.label ?_)
      refine K.region ?_
      refine KO.q rfl (q_move rfl) ?_
      refine KO.loud rfl (OpL.call rfl (rd_Text p4 q4 cap4 ⟨[] ++ wText S ++ wInt 7, false⟩ h4) (by repeat (first | exact Give.nil | (apply Give.perI; (repeat (first | exact List.Mem.head _ | apply List.Mem.tail))) | (apply Give.own; (repeat (first | exact Pick.here | apply Pick.there)))))) ?_
      rintro _ _ ⟨_, ⟨q5, cap5, rfl, rfl, h5⟩, rfl⟩
      rw [ht] at h5 ⊢
      refine KO.q rfl (q_lenS Try.underlying9 rfl) ?_
      refine KO.q rfl (q_move rfl) ?_
      refine KO.q rfl (q_eq rfl rfl) ?_
      refine KO.q rfl (q_move rfl) ?_
      refine KO.split 41 rfl (fun _ => ?_) (fun hh => absurd hts (of_decide_eq_false hh))
      refine KO.q rfl (q_move rfl) ?_
      refine KO.loud rfl (OpL.call rfl (rd_Int p4 q5 cap5 ⟨wInt 7 ++ [], false⟩ h5) (by repeat (first | exact Give.nil | (apply Give.perI; (repeat (first | exact List.Mem.head _ | apply List.Mem.tail))) | (apply Give.own; (repeat (first | exact Pick.here | apply Pick.there)))))) ?_
      rintro _ _ ⟨_, ⟨q6, cap6, rfl, rfl, h6⟩, rfl⟩
      rw [hi] at h6 ⊢
      refine KO.q rfl (q_eq rfl rfl) ?_
      refine KO.q rfl (q_pickT rfl rfl) ?_
      refine KO.q rfl (q_move rfl) ?_
      refine KO.q rfl (q_move rfl) ?_
      refine KO.loud rfl (OpL.call rfl (rd_Done p4 q6 cap6 ⟨[], false⟩) (by repeat (first | exact Give.nil | (apply Give.perI; (repeat (first | exact List.Mem.head _ | apply List.Mem.tail))) | (apply Give.own; (repeat (first | exact Pick.here | apply Pick.there)))))) ?_
      rintro _ _ ⟨_, ⟨rfl, rfl⟩, rfl⟩
      refine KO.q rfl (q_pickT rfl rfl) ?_
      refine KO.q rfl (q_assign rfl) ?_
      refine KO.done ?_
      repeat (first | refine K.seq ?_ | refine K.skip ?_ | refine K.block ?_ | refine K.inBlock ?_ | refine K.label ?_)
      refine K.ret (fn := Try.f5) Try.func5 (fun a w hk hs => res1 Try.results5 hk rfl) (fun w hs => ?_)
      exact ⟨_, [], rfl, ⟨rfl, rfl⟩, hs.fit (by repeat (first | exact Give.nil | (apply Give.perI; (repeat (first | exact List.Mem.head _ | apply List.Mem.tail))) | (apply Give.own; (repeat (first | exact Pick.here | apply Pick.there))))) (by repeat (first | exact Drop.refl | apply Drop.skip))⟩
    · rw [if_neg hh] at hts
      repeat (first | refine K.seq ?_ | refine K.skip ?_ | refine K.block ?_ | refine K.inBlock ?_ | refine K.label ?_)
      refine K.region ?_
      refine KO.q rfl (q_move rfl) ?_
      refine KO.loud rfl (OpL.call rfl (rd_Text p4 q4 cap4 ⟨[] ++ wText S ++ wInt 7, false⟩ h4) (by repeat (first | exact Give.nil | (apply Give.perI; (repeat (first | exact List.Mem.head _ | apply List.Mem.tail))) | (apply Give.own; (repeat (first | exact Pick.here | apply Pick.there)))))) ?_
      rintro _ _ ⟨_, ⟨q5, cap5, rfl, rfl, h5⟩, rfl⟩
      rw [ht] at h5 ⊢
      refine KO.q rfl (q_lenS Try.underlying9 rfl) ?_
      refine KO.q rfl (q_move rfl) ?_
      refine KO.q rfl (q_eq rfl rfl) ?_
      refine KO.q rfl (q_move rfl) ?_
      refine KO.split 41 rfl (fun _ => ?_) (fun hh => absurd hts (of_decide_eq_false hh))
      refine KO.q rfl (q_move rfl) ?_
      refine KO.loud rfl (OpL.call rfl (rd_Int p4 q5 cap5 ⟨wInt 7 ++ [], false⟩ h5) (by repeat (first | exact Give.nil | (apply Give.perI; (repeat (first | exact List.Mem.head _ | apply List.Mem.tail))) | (apply Give.own; (repeat (first | exact Pick.here | apply Pick.there)))))) ?_
      rintro _ _ ⟨_, ⟨q6, cap6, rfl, rfl, h6⟩, rfl⟩
      rw [hi] at h6 ⊢
      refine KO.q rfl (q_eq rfl rfl) ?_
      refine KO.q rfl (q_pickT rfl rfl) ?_
      refine KO.q rfl (q_move rfl) ?_
      refine KO.q rfl (q_move rfl) ?_
      refine KO.loud rfl (OpL.call rfl (rd_Done p4 q6 cap6 ⟨[], false⟩) (by repeat (first | exact Give.nil | (apply Give.perI; (repeat (first | exact List.Mem.head _ | apply List.Mem.tail))) | (apply Give.own; (repeat (first | exact Pick.here | apply Pick.there)))))) ?_
      rintro _ _ ⟨_, ⟨rfl, rfl⟩, rfl⟩
      refine KO.q rfl (q_pickT rfl rfl) ?_
      refine KO.q rfl (q_assign rfl) ?_
      refine KO.done ?_
      repeat (first | refine K.seq ?_ | refine K.skip ?_ | refine K.block ?_ | refine K.inBlock ?_ | refine K.label ?_)
      refine K.ret (fn := Try.f5) Try.func5 (fun a w hk hs => res1 Try.results5 hk rfl) (fun w hs => ?_)
      exact ⟨_, [], rfl, ⟨rfl, rfl⟩, hs.fit (by repeat (first | exact Give.nil | (apply Give.perI; (repeat (first | exact List.Mem.head _ | apply List.Mem.tail))) | (apply Give.own; (repeat (first | exact Pick.here | apply Pick.there))))) (by repeat (first | exact Drop.refl | apply Drop.skip))⟩
end Go.Proofs.Ytlellgnklohclaa.L
