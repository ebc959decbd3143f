/- Walks: the document's own reader. Walks: the document's own writer. -/
import Derived.Test.YtlellgnklohclaaWB
import Derived.Test.YtlellgnklohclaaPA
import Derived.Test.YtlellgnklohclaaLC
/-! Walks: the document's own reader. -/
namespace Go.Proofs.Ytlellgnklohclaa.L
open Go Go.Proofs
attribute [local irreducible] pv fv pt fz RowF RowO rowP old pure_
set_option maxRecDepth 100000
set_option linter.unusedSimpArgs false
set_option linter.unusedVariables false

abbrev RfL (p : Nat) (q : Option Addr) (cap : Nat) (s : Rd) : List HP := [pv p 95 [.slice q s.bs.length cap, .bool s.f], RowF Kd.u8 q s.bs]
theorem rf_New (q : Option Addr) (cap : Nat) (xs : List UInt8) : Fn Try.prog 31 [.slice q xs.length cap].toArray [RowF Kd.u8 q xs]
    (fun r post => ∃ p, r = .pointer (some ⟨p, 0, none⟩) ∧ post = RfL p q cap ⟨xs, false⟩) := by
  refine Fn.enter (N := 6) Try.func31 rfl Try.ntmps31 (by kernel_rfl) rfl (fun ρ L => ?_)
  repeat (first | refine K.seq ?_ | refine K.skip ?_ | refine K.block ?_ | refine K.inBlock ?_ | refine K.label ?_)
  refine K.region ?_
  refine KO.q rfl (q_assign rfl) ?_
  refine KO.done ?_
  repeat (first | refine K.seq ?_ | refine K.skip ?_ | refine K.block ?_ | refine K.inBlock ?_ | refine K.label ?_)
  repeat (first | refine K.seq ?_ | refine K.skip ?_ | refine K.block ?_ | refine K.inBlock ?_ | refine K.label ?_)
  refine K.region ?_
  refine KO.q rfl (q_move rfl) ?_
  refine KO.q rfl (q_build st_95 rfl (by repeat (first | exact Fill.nil | (apply Fill.cons; rfl; rfl; rfl) | exact SetN.nil | apply SetN.cons | exact SetAt.here | apply SetAt.there))) ?_
  refine KO.loud rfl (l_box rfl rfl) ?_
  rintro _ _ ⟨b5, rfl, rfl⟩
  refine KO.q rfl (q_assign rfl) ?_
  refine KO.done ?_
  repeat (first | refine K.seq ?_ | refine K.skip ?_ | refine K.block ?_ | refine K.inBlock ?_ | refine K.label ?_)
  refine K.ret (fn := Try.f31) Try.func31 (fun a w hk hs => res1 Try.results31 hk rfl) (fun w hs => ?_)
  exact ⟨_, RfL b5 q cap ⟨xs, false⟩, rfl, ⟨_, rfl, rfl⟩, hs.fitD⟩
theorem rf_take_bad (p : Nat) (q : Option Addr) (cap : Nat) (s : Rd) (n : Int) (hb : s.f = true ∨ (s.bs.length : Int) < n) : Fn Try.prog 70 [.pointer (some ⟨p, 0, none⟩), .int .i64 n].toArray (RfL p q cap s) (fun r post => r = .slice none 0 0 ∧ post = RfL p q cap ⟨s.bs, true⟩) := by
  obtain ⟨bs, f⟩ := s
  cases f with
  | true =>
    refine Fn.enter (N := 38) Try.func70 rfl Try.ntmps70 (by kernel_rfl) rfl (fun ρ L => ?_)
    repeat (first | refine K.seq ?_ | refine K.skip ?_ | refine K.block ?_ | refine K.inBlock ?_ | refine K.label ?_)
    refine K.region ?_
    refine KO.q rfl (q_assign rfl) ?_
    refine KO.done ?_
    repeat (first | refine K.seq ?_ | refine K.skip ?_ | refine K.block ?_ | refine K.inBlock ?_ | refine K.label ?_)
    repeat (first | refine K.seq ?_ | refine K.skip ?_ | refine K.block ?_ | refine K.inBlock ?_ | refine K.label ?_)
    refine K.region ?_
    refine KO.q rfl (q_move rfl) ?_
    refine KO.q rfl (q_nilCheck rfl) ?_
    refine KO.q rfl (q_field fo_95_1 rfl) ?_
    refine KO.q rfl (q_load1D ck_4 rfl) ?_
    refine KO.q rfl (q_move rfl) ?_
    refine KO.skip rfl ?_
    refine KO.skip rfl ?_
    refine KO.skip rfl ?_
    refine KO.skip rfl ?_
    refine KO.skip rfl ?_
    refine KO.skip rfl ?_
    refine KO.skip rfl ?_
    refine KO.q rfl (q_pickT rfl rfl) ?_
    refine KO.done ?_
    repeat (first | refine K.seq ?_ | refine K.skip ?_ | refine K.block ?_ | refine K.inBlock ?_ | refine K.label ?_)
    refine K.yes rfl ?_
    repeat (first | refine K.seq ?_ | refine K.skip ?_ | refine K.block ?_ | refine K.inBlock ?_ | refine K.label ?_)
    refine K.region ?_
    refine KO.q rfl (q_move rfl) ?_
    refine KO.q rfl (q_nilCheck rfl) ?_
    refine KO.q rfl (q_field fo_95_1 rfl) ?_
    refine KO.loudN rfl (l_store1 ck_4 rfl rfl rfl (by repeat (first | exact Pick.here | apply Pick.there)) (by repeat (first | exact SetAt.here | apply SetAt.there))) ?_
    rintro _ _ ⟨rfl, rfl⟩
    refine KO.done ?_
    repeat (first | refine K.seq ?_ | refine K.skip ?_ | refine K.block ?_ | refine K.inBlock ?_ | refine K.label ?_)
    repeat (first | refine K.seq ?_ | refine K.skip ?_ | refine K.block ?_ | refine K.inBlock ?_ | refine K.label ?_)
    refine K.region ?_
    refine KO.q rfl (q_assign rfl) ?_
    refine KO.done ?_
    repeat (first | refine K.seq ?_ | refine K.skip ?_ | refine K.block ?_ | refine K.inBlock ?_ | refine K.label ?_)
    refine K.ret (fn := Try.f70) Try.func70 (fun a w hk hs => res1 Try.results70 hk rfl) (fun w hs => ?_)
    exact ⟨_, RfL p q cap ⟨bs, true⟩, rfl, ⟨rfl, rfl⟩, hs.fitD⟩
  | false =>
    replace hb : (bs.length : Int) < n := hb.resolve_left (by simp)
    refine Fn.enter (N := 38) Try.func70 rfl Try.ntmps70 (by kernel_rfl) rfl (fun ρ L => ?_)
    repeat (first | refine K.seq ?_ | refine K.skip ?_ | refine K.block ?_ | refine K.inBlock ?_ | refine K.label ?_)
    refine K.region ?_
    refine KO.q rfl (q_assign rfl) ?_
    refine KO.done ?_
    repeat (first | refine K.seq ?_ | refine K.skip ?_ | refine K.block ?_ | refine K.inBlock ?_ | refine K.label ?_)
    repeat (first | refine K.seq ?_ | refine K.skip ?_ | refine K.block ?_ | refine K.inBlock ?_ | refine K.label ?_)
    refine K.region ?_
    refine KO.q rfl (q_move rfl) ?_
    refine KO.q rfl (q_nilCheck rfl) ?_
    refine KO.q rfl (q_field fo_95_1 rfl) ?_
    refine KO.q rfl (q_load1D ck_4 rfl) ?_
    refine KO.q rfl (q_move rfl) ?_
    refine KO.q rfl (q_move rfl) ?_
    refine KO.q rfl (q_nilCheck rfl) ?_
    refine KO.q rfl (q_field fo_95_0 rfl) ?_
    refine KO.q rfl (q_load1D ck_25 rfl) ?_
    refine KO.q rfl (q_len Try.underlying25 rfl) ?_
    refine KO.q rfl (q_move rfl) ?_
    refine KO.q rfl (q_lt rfl rfl) ?_
    refine KO.q rfl (q_pickF rfl rfl) ?_
    refine KO.done ?_
    repeat (first | refine K.seq ?_ | refine K.skip ?_ | refine K.block ?_ | refine K.inBlock ?_ | refine K.label ?_)
    refine K.dite rfl (fun _ => ?_) (fun h => absurd hb h)
    repeat (first | refine K.seq ?_ | refine K.skip ?_ | refine K.block ?_ | refine K.inBlock ?_ | refine K.label ?_)
    refine K.region ?_
    refine KO.q rfl (q_move rfl) ?_
    refine KO.q rfl (q_nilCheck rfl) ?_
    refine KO.q rfl (q_field fo_95_1 rfl) ?_
    refine KO.loudN rfl (l_store1 ck_4 rfl rfl rfl (by repeat (first | exact Pick.here | apply Pick.there)) (by repeat (first | exact SetAt.here | apply SetAt.there))) ?_
    rintro _ _ ⟨rfl, rfl⟩
    refine KO.done ?_
    repeat (first | refine K.seq ?_ | refine K.skip ?_ | refine K.block ?_ | refine K.inBlock ?_ | refine K.label ?_)
    repeat (first | refine K.seq ?_ | refine K.skip ?_ | refine K.block ?_ | refine K.inBlock ?_ | refine K.label ?_)
    refine K.region ?_
    refine KO.q rfl (q_assign rfl) ?_
    refine KO.done ?_
    repeat (first | refine K.seq ?_ | refine K.skip ?_ | refine K.block ?_ | refine K.inBlock ?_ | refine K.label ?_)
    refine K.ret (fn := Try.f70) Try.func70 (fun a w hk hs => res1 Try.results70 hk rfl) (fun w hs => ?_)
    exact ⟨_, RfL p q cap ⟨bs, true⟩, rfl, ⟨rfl, rfl⟩, hs.fitD⟩
theorem rf_take_ok (p : Nat) (q : Option Addr) (cap : Nat) (s : Rd) (n : Int) (hf : s.f = false) (h0 : 0 ≤ n) (hl : n ≤ s.bs.length) (hc : s.bs.length ≤ cap) : Fn Try.prog 70 [.pointer (some ⟨p, 0, none⟩), .int .i64 n].toArray (RfL p q cap s)
    (fun r post => r = .slice q n.toNat cap ∧ post = RowF Kd.u8 q (s.bs.take n.toNat) :: RfL p (cutAddr q cap n.toNat 1) (cap - n.toNat) ⟨s.bs.drop n.toNat, false⟩) := by
  obtain ⟨bs, f⟩ := s
  obtain rfl : f = false := hf
  replace hl : n ≤ bs.length := hl
  replace hc : bs.length ≤ cap := hc
  refine Fn.enter (N := 38) Try.func70 rfl Try.ntmps70 (by kernel_rfl) rfl (fun ρ L => ?_)
  repeat (first | refine K.seq ?_ | refine K.skip ?_ | refine K.block ?_ | refine K.inBlock ?_ | refine K.label ?_)
  refine K.region ?_
  refine KO.q rfl (q_assign rfl) ?_
  refine KO.done ?_
  repeat (first | refine K.seq ?_ | refine K.skip ?_ | refine K.block ?_ | refine K.inBlock ?_ | refine K.label ?_)
  repeat (first | refine K.seq ?_ | refine K.skip ?_ | refine K.block ?_ | refine K.inBlock ?_ | refine K.label ?_)
  refine K.region ?_
  refine KO.q rfl (q_move rfl) ?_
  refine KO.q rfl (q_nilCheck rfl) ?_
  refine KO.q rfl (q_field fo_95_1 rfl) ?_
  refine KO.q rfl (q_load1D ck_4 rfl) ?_
  refine KO.q rfl (q_move rfl) ?_
  refine KO.q rfl (q_move rfl) ?_
  refine KO.q rfl (q_nilCheck rfl) ?_
  refine KO.q rfl (q_field fo_95_0 rfl) ?_
  refine KO.q rfl (q_load1D ck_25 rfl) ?_
  refine KO.q rfl (q_len Try.underlying25 rfl) ?_
  refine KO.q rfl (q_move rfl) ?_
  refine KO.q rfl (q_lt rfl rfl) ?_
  refine KO.q rfl (q_pickF rfl rfl) ?_
  refine KO.done ?_
  repeat (first | refine K.seq ?_ | refine K.skip ?_ | refine K.block ?_ | refine K.inBlock ?_ | refine K.label ?_)
  refine K.dite rfl (fun h => absurd h (by show ¬ (bs.length : Int) < n; omega)) (fun _ => ?_)
  repeat (first | refine K.seq ?_ | refine K.skip ?_ | refine K.block ?_ | refine K.inBlock ?_ | refine K.label ?_)
  refine K.st (fun w h => rowF_take n.toNat (List.Mem.tail _ (List.Mem.head _)) h) ?_
  refine K.st (fun w h => rowF_cut (cap := cap) n.toNat hc (List.Mem.tail _ (List.Mem.tail _ (List.Mem.head _))) h) ?_
  repeat (first | refine K.seq ?_ | refine K.skip ?_ | refine K.block ?_ | refine K.inBlock ?_ | refine K.label ?_)
  refine K.region ?_
  refine KO.q rfl (q_move rfl) ?_
  refine KO.q rfl (q_nilCheck rfl) ?_
  refine KO.q rfl (q_field fo_95_0 rfl) ?_
  refine KO.q rfl (q_load1D ck_25 rfl) ?_
  refine KO.q rfl (q_move rfl) ?_
  refine KO.q rfl (q_cutH se_25 rfl rfl (by first | omega | (simp; omega)) (by first | omega | (simp; omega))) ?_
  refine KO.q rfl (q_assign rfl) ?_
  refine KO.done ?_
  repeat (first | refine K.seq ?_ | refine K.skip ?_ | refine K.block ?_ | refine K.inBlock ?_ | refine K.label ?_)
  repeat (first | refine K.seq ?_ | refine K.skip ?_ | refine K.block ?_ | refine K.inBlock ?_ | refine K.label ?_)
  refine K.region ?_
  refine KO.q rfl (q_move rfl) ?_
  refine KO.q rfl (q_move rfl) ?_
  refine KO.q rfl (q_nilCheck rfl) ?_
  refine KO.q rfl (q_field fo_95_0 rfl) ?_
  refine KO.q rfl (q_load1D ck_25 rfl) ?_
  refine KO.q rfl (q_move rfl) ?_
  refine KO.q rfl (q_cutL se_25 rfl rfl (by first | omega | (simp; omega)) (by first | omega | (simp; omega)) (by first | omega | (simp; omega))) ?_
  refine KO.q rfl (q_nilCheck rfl) ?_
  refine KO.q rfl (q_field fo_95_0 rfl) ?_
  refine KO.loudN rfl (l_store1 ck_25 rfl rfl rfl (by repeat (first | exact Pick.here | apply Pick.there)) (by repeat (first | exact SetAt.here | apply SetAt.there))) ?_
  rintro _ _ ⟨rfl, rfl⟩
  refine KO.done ?_
  repeat (first | refine K.seq ?_ | refine K.skip ?_ | refine K.block ?_ | refine K.inBlock ?_ | refine K.label ?_)
  repeat (first | refine K.seq ?_ | refine K.skip ?_ | refine K.block ?_ | refine K.inBlock ?_ | refine K.label ?_)
  refine K.region ?_
  refine KO.q rfl (q_move rfl) ?_
  refine KO.q rfl (q_assign rfl) ?_
  refine KO.done ?_
  repeat (first | refine K.seq ?_ | refine K.skip ?_ | refine K.block ?_ | refine K.inBlock ?_ | refine K.label ?_)
  refine K.ret (fn := Try.f70) Try.func70 (fun a w hk hs => res1 Try.results70 hk rfl) (fun w hs => ?_)
  have e : (Rd.mk bs false).bs.length - n.toNat = (bs.drop n.toNat).length := by simp
  rw [e] at hs
  refine ⟨_, RowF Kd.u8 q (bs.take n.toNat) :: RfL p (cutAddr q cap n.toNat 1) (cap - n.toNat) ⟨bs.drop n.toNat, false⟩, rfl, ⟨rfl, rfl⟩, ?_⟩
  exact hs.fitD
theorem rf_Int (p : Nat) (q : Option Addr) (cap : Nat) (s : Rd) (hc : s.bs.length ≤ cap) : Fn Try.prog 32 [.pointer (some ⟨p, 0, none⟩)].toArray (RfL p q cap s)
    (fun r post => ∃ q' cap', r = .int .i64 s.rint.1 ∧ post = RfL p q' cap' s.rint.2 ∧ s.rint.2.bs.length ≤ cap') := by
  by_cases hb : s.f = true ∨ (s.bs.length : Int) < 8
  · have e : s.rint = (0, ⟨s.bs, true⟩) := by unfold Rd.rint; rw [Rd.rtake_bad (hb.imp id fun h => by omega)]; rfl
    refine Fn.enter (N := 25) Try.func32 rfl Try.ntmps32 (by kernel_rfl) rfl (fun ρ L => ?_)
    repeat (first | refine K.seq ?_ | refine K.skip ?_ | refine K.block ?_ | refine K.inBlock ?_ | refine K.label ?_)
    refine K.region ?_
    refine KO.q rfl (q_assign rfl) ?_
    refine KO.done ?_
    repeat (first | refine K.seq ?_ | refine K.skip ?_ | refine K.block ?_ | refine K.inBlock ?_ | refine K.label ?_)
    repeat (first | refine K.seq ?_ | refine K.skip ?_ | refine K.block ?_ | refine K.inBlock ?_ | refine K.label ?_)
    refine K.region ?_
    refine KO.q rfl (q_move rfl) ?_
    refine KO.loud rfl (OpL.callE rfl (rf_take_bad p q cap s 8 hb)) ?_
    rintro _ _ ⟨_, ⟨rfl, rfl⟩, rfl⟩
    refine KO.q rfl (q_assign rfl) ?_
    refine KO.done ?_
    repeat (first | refine K.seq ?_ | refine K.skip ?_ | refine K.block ?_ | refine K.inBlock ?_ | refine K.label ?_)
    repeat (first | refine K.seq ?_ | refine K.skip ?_ | refine K.block ?_ | refine K.inBlock ?_ | refine K.label ?_)
    refine K.region ?_
    refine KO.q rfl (q_assign rfl) ?_
    refine KO.done ?_
    repeat (first | refine K.seq ?_ | refine K.skip ?_ | refine K.block ?_ | refine K.inBlock ?_ | refine K.label ?_)
    repeat (first | refine K.seq ?_ | refine K.skip ?_ | refine K.block ?_ | refine K.inBlock ?_ | refine K.label ?_)
    refine K.region ?_
    refine KO.q rfl (q_move rfl) ?_
    refine KO.q rfl (q_len Try.underlying25 rfl) ?_
    refine KO.q rfl (q_sub rfl rfl (by first | omega | (simp; omega)) (by first | omega | (simp; omega))) ?_
    refine KO.q rfl (q_assign rfl) ?_
    refine KO.done ?_
    repeat (first | refine K.seq ?_ | refine K.skip ?_ | refine K.block ?_ | refine K.inBlock ?_ | refine K.label ?_)
    repeat (first | refine K.seq ?_ | refine K.skip ?_ | refine K.block ?_ | refine K.inBlock ?_ | refine K.label ?_)
    refine K.loop ?_
    repeat (first | refine K.seq ?_ | refine K.skip ?_ | refine K.block ?_ | refine K.inBlock ?_ | refine K.label ?_)
    refine K.region ?_
    refine KO.q rfl (q_move rfl) ?_
    refine KO.q rfl (q_ge rfl rfl) ?_
    refine KO.done ?_
    repeat (first | refine K.seq ?_ | refine K.skip ?_ | refine K.block ?_ | refine K.inBlock ?_ | refine K.label ?_)
    refine K.no rfl ?_
    refine K.exit rfl ?_
    repeat (first | refine K.seq ?_ | refine K.skip ?_ | refine K.block ?_ | refine K.inBlock ?_ | refine K.label ?_)
    refine K.region ?_
    refine KO.q rfl (q_move rfl) ?_
    refine KO.q rfl (q_convw Try.underlying3 (by rw [Try.underlying87]; rfl) rfl) ?_
    refine KO.q rfl (q_assign rfl) ?_
    refine KO.done ?_
    repeat (first | refine K.seq ?_ | refine K.skip ?_ | refine K.block ?_ | refine K.inBlock ?_ | refine K.label ?_)
    refine K.ret (fn := Try.f32) Try.func32 (fun a w hk hs => res1 Try.results32 hk rfl) (fun w hs => ?_)
    exact ⟨_, RfL p q cap ⟨s.bs, true⟩, rfl, ⟨q, cap, by rw [e]; rfl, by rw [e], by rw [e]; exact hc⟩, hs.fitD⟩
  · obtain ⟨bs, f⟩ := s
    obtain rfl : f = false := by cases f <;> simp_all
    have hl : (8 : Int) ≤ bs.length := by
      have : ¬ (bs.length : Int) < 8 := fun h => hb (.inr h)
      omega
    clear hb
    replace hc : bs.length ≤ cap := hc
    have e : Rd.rint ⟨bs, false⟩ = (i64 (ofLe (bs.take 8)), ⟨bs.drop 8, false⟩) := by unfold Rd.rint; rw [Rd.rtake_ok rfl (by show 8 ≤ bs.length; omega)]
    refine Fn.enter (N := 25) Try.func32 rfl Try.ntmps32 (by kernel_rfl) rfl (fun ρ L => ?_)
    repeat (first | refine K.seq ?_ | refine K.skip ?_ | refine K.block ?_ | refine K.inBlock ?_ | refine K.label ?_)
    refine K.region ?_
    refine KO.q rfl (q_assign rfl) ?_
    refine KO.done ?_
    repeat (first | refine K.seq ?_ | refine K.skip ?_ | refine K.block ?_ | refine K.inBlock ?_ | refine K.label ?_)
    repeat (first | refine K.seq ?_ | refine K.skip ?_ | refine K.block ?_ | refine K.inBlock ?_ | refine K.label ?_)
    refine K.region ?_
    refine KO.q rfl (q_move rfl) ?_
    refine KO.loud rfl (OpL.callE rfl (rf_take_ok p q cap ⟨bs, false⟩ 8 rfl (by decide) hl hc)) ?_
    rintro _ _ ⟨_, ⟨rfl, rfl⟩, rfl⟩
    refine KO.q rfl (q_assign rfl) ?_
    refine KO.done ?_
    repeat (first | refine K.seq ?_ | refine K.skip ?_ | refine K.block ?_ | refine K.inBlock ?_ | refine K.label ?_)
    repeat (first | refine K.seq ?_ | refine K.skip ?_ | refine K.block ?_ | refine K.inBlock ?_ | refine K.label ?_)
    refine K.region ?_
    refine KO.q rfl (q_assign rfl) ?_
    refine KO.done ?_
    repeat (first | refine K.seq ?_ | refine K.skip ?_ | refine K.block ?_ | refine K.inBlock ?_ | refine K.label ?_)
    repeat (first | refine K.seq ?_ | refine K.skip ?_ | refine K.block ?_ | refine K.inBlock ?_ | refine K.label ?_)
    refine K.region ?_
    refine KO.q rfl (q_move rfl) ?_
    refine KO.q rfl (q_len Try.underlying25 rfl) ?_
    refine KO.q rfl (q_sub rfl rfl (by first | omega | (simp; omega)) (by first | omega | (simp; omega))) ?_
    refine KO.q rfl (q_assign rfl) ?_
    refine KO.done ?_
    repeat (first | refine K.seq ?_ | refine K.skip ?_ | refine K.block ?_ | refine K.inBlock ?_ | refine K.label ?_)
    have hlen : (bs.take 8).length = 8 := by rw [List.length_take]; omega
    have hd : ofLe ((bs.take 8).drop 8) = 0 := by rw [List.drop_of_length_le (by omega)]; rfl
    repeat (first | refine K.seq ?_ | refine K.skip ?_ | refine K.block ?_ | refine K.inBlock ?_ | refine K.label ?_)
    generalize hX : (Rd.mk bs false).bs.take (8 : Int).toNat = X
    obtain rfl : bs.take 8 = X := hX
    generalize hX : bs.take 8 = X at hlen hd e
    refine K.rloop (ι := { i : Nat // i ≤ 8 }) (fun i => [(5, .int .i64 ((i.1 : Int) - 1)), (4, .int .u64 (ofLe (X.drop i.1))), (3, .slice q 8 cap)]) (fun i => i.1) ⟨8, Nat.le_refl _⟩ (Env.sub_cons rfl (Env.sub_cons (by show _ = some (Value.int .u64 (ofLe (X.drop 8))); rw [hd]; rfl) (Env.sub_cons rfl (Env.sub_nil _)))) (fun i ih => ?_)
    obtain ⟨i, hi⟩ := i
    repeat (first | refine K.seq ?_ | refine K.skip ?_ | refine K.block ?_ | refine K.inBlock ?_ | refine K.label ?_)
    refine K.region ?_
    refine KO.q rfl (q_move rfl) ?_
    refine KO.q rfl (q_ge rfl rfl) ?_
    refine KO.done ?_
    repeat (first | refine K.seq ?_ | refine K.skip ?_ | refine K.block ?_ | refine K.inBlock ?_ | refine K.label ?_)
    refine K.dite rfl (fun h => ?_) (fun h => ?_)
    · repeat (first | refine K.seq ?_ | refine K.skip ?_ | refine K.block ?_ | refine K.inBlock ?_ | refine K.label ?_)
      replace h : (0 : Int) ≤ (i : Int) - 1 := h
      obtain ⟨m, rfl⟩ : ∃ m, i = m + 1 := ⟨i - 1, by omega⟩
      have em : ((m + 1 : Nat) : Int) - 1 = (m : Int) := by omega
      rw [em]
      obtain ⟨c, hx⟩ : ∃ c, X[m]? = some c := ⟨X[m]'(by omega), List.getElem?_eq_getElem _⟩
      have hcb := c.toNat_lt
      refine K.fact (rowF_addr (xs := X) (by repeat (first | exact List.Mem.head _ | apply List.Mem.tail)) (by intro e; rw [e] at hx; simp at hx)) (fun hq => ?_)
      obtain ⟨bq, oq, rfl⟩ := hq
      repeat (first | refine K.seq ?_ | refine K.skip ?_ | refine K.block ?_ | refine K.inBlock ?_ | refine K.label ?_)
      refine K.region ?_
      refine KO.q rfl (q_move rfl) ?_
      refine KO.q rfl (q_shl rfl rfl (by first | omega | (simp; omega))) ?_
      refine KO.q rfl (q_move rfl) ?_
      refine KO.q rfl (q_move rfl) ?_
      refine KO.q rfl (q_index se_25 rfl rfl (by first | omega | (simp; omega)) (by first | omega | (simp; omega))) ?_
      refine KO.q rfl (q_load1D ck_5 rfl) ?_
      refine KO.q rfl (q_conv Try.underlying87 (by rw [Try.underlying5]; rfl) rfl (by first | rfl | exact wrap_i64 (by omega) (by omega) | exact wrap_u64 (by omega) (by omega) | exact wrap_u8 (by omega) (by omega))) ?_
      refine KO.q rfl (q_or rfl rfl) ?_
      refine KO.q rfl (q_assign rfl) ?_
      refine KO.done ?_
      repeat (first | refine K.seq ?_ | refine K.skip ?_ | refine K.block ?_ | refine K.inBlock ?_ | refine K.label ?_)
      have hlt := ofLe_lt56 (X.drop (m + 1)) (by rw [List.length_drop]; omega)
      rw [shl_or _ c (ofLe_nonneg _) hlt, ← ofLe_drop X m c hx]
      repeat (first | refine K.seq ?_ | refine K.skip ?_ | refine K.block ?_ | refine K.inBlock ?_ | refine K.label ?_)
      refine K.region ?_
      refine KO.q rfl (q_move rfl) ?_
      refine KO.q rfl (q_sub rfl rfl (by first | omega | (simp; omega)) (by first | omega | (simp; omega))) ?_
      refine KO.q rfl (q_assign rfl) ?_
      refine KO.done ?_
      repeat (first | refine K.seq ?_ | refine K.skip ?_ | refine K.block ?_ | refine K.inBlock ?_ | refine K.label ?_)
      exact K.subE (by repeat (first | exact Env.sub_nil _ | refine Env.sub_cons rfl ?_)) (ih ⟨m, by omega⟩ (by show m < m + 1; omega))
    · replace h : ¬ (0 : Int) ≤ (i : Int) - 1 := h
      obtain rfl : i = 0 := by omega
      refine K.exit rfl ?_
      repeat (first | refine K.seq ?_ | refine K.skip ?_ | refine K.block ?_ | refine K.inBlock ?_ | refine K.label ?_)
      refine K.region ?_
      refine KO.q rfl (q_move rfl) ?_
      refine KO.q rfl (q_convw Try.underlying3 (by rw [Try.underlying87]; rfl) rfl) ?_
      refine KO.q rfl (q_assign rfl) ?_
      refine KO.done ?_
      repeat (first | refine K.seq ?_ | refine K.skip ?_ | refine K.block ?_ | refine K.inBlock ?_ | refine K.label ?_)
      refine K.ret (fn := Try.f32) Try.func32 (fun a w hk hs => res1 Try.results32 hk rfl) (fun w hs => ?_)
      rw [wrap_i64_i64]
      exact ⟨_, RfL p (cutAddr q cap 8 1) (cap - 8) ⟨bs.drop 8, false⟩, rfl, ⟨_, _, by rw [e]; rfl, by rw [e], by rw [e]; simp; omega⟩, hs.fitD⟩
theorem rf_Text (p : Nat) (q : Option Addr) (cap : Nat) (s : Rd) (hc : s.bs.length ≤ cap) : Fn Try.prog 33 [.pointer (some ⟨p, 0, none⟩)].toArray (RfL p q cap s)
    (fun r post => ∃ q' cap', r = .string s.rtext.1 ∧ post = RfL p q' cap' s.rtext.2 ∧ s.rtext.2.bs.length ≤ cap') := by
  by_cases hb : s.f = true ∨ (s.bs.length : Int) < 2
  · have e : s.rtext = (⟨#[]⟩, ⟨s.bs, true⟩) := by unfold Rd.rtext; rw [Rd.rtake_bad (hb.imp id fun h => by omega)]; rfl
    refine Fn.enter (N := 22) Try.func33 rfl Try.ntmps33 (by kernel_rfl) rfl (fun ρ L => ?_)
    repeat (first | refine K.seq ?_ | refine K.skip ?_ | refine K.block ?_ | refine K.inBlock ?_ | refine K.label ?_)
    refine K.region ?_
    refine KO.q rfl (q_assign rfl) ?_
    refine KO.done ?_
    repeat (first | refine K.seq ?_ | refine K.skip ?_ | refine K.block ?_ | refine K.inBlock ?_ | refine K.label ?_)
    repeat (first | refine K.seq ?_ | refine K.skip ?_ | refine K.block ?_ | refine K.inBlock ?_ | refine K.label ?_)
    refine K.region ?_
    refine KO.q rfl (q_move rfl) ?_
    refine KO.loud rfl (OpL.callE rfl (rf_take_bad p q cap s 2 hb)) ?_
    rintro _ _ ⟨_, ⟨rfl, rfl⟩, rfl⟩
    refine KO.q rfl (q_assign rfl) ?_
    refine KO.done ?_
    repeat (first | refine K.seq ?_ | refine K.skip ?_ | refine K.block ?_ | refine K.inBlock ?_ | refine K.label ?_)
    repeat (first | refine K.seq ?_ | refine K.skip ?_ | refine K.block ?_ | refine K.inBlock ?_ | refine K.label ?_)
    refine K.region ?_
    refine KO.q rfl (q_move rfl) ?_
    refine KO.q rfl (q_len Try.underlying25 rfl) ?_
    refine KO.q rfl (q_lt rfl rfl) ?_
    refine KO.done ?_
    repeat (first | refine K.seq ?_ | refine K.skip ?_ | refine K.block ?_ | refine K.inBlock ?_ | refine K.label ?_)
    refine K.yes rfl ?_
    repeat (first | refine K.seq ?_ | refine K.skip ?_ | refine K.block ?_ | refine K.inBlock ?_ | refine K.label ?_)
    refine K.region ?_
    refine KO.q rfl (q_assign rfl) ?_
    refine KO.done ?_
    repeat (first | refine K.seq ?_ | refine K.skip ?_ | refine K.block ?_ | refine K.inBlock ?_ | refine K.label ?_)
    refine K.ret (fn := Try.f33) Try.func33 (fun a w hk hs => res1 Try.results33 hk rfl) (fun w hs => ?_)
    exact ⟨_, RfL p q cap ⟨s.bs, true⟩, rfl, ⟨q, cap, by rw [e], by rw [e], by rw [e]; exact hc⟩, hs.fitD⟩
  · obtain ⟨bs, f⟩ := s
    obtain rfl : f = false := by cases f <;> simp_all
    have hl : (2 : Int) ≤ bs.length := by
      have : ¬ (bs.length : Int) < 2 := fun h => hb (.inr h)
      omega
    clear hb
    replace hc : bs.length ≤ cap := hc
    obtain ⟨c0, c1, l, rfl⟩ : ∃ c0 c1 l, bs = c0 :: c1 :: l := by
      cases bs with
      | nil => simp at hl
      | cons c l => cases l with
        | nil => simp at hl
        | cons d l => exact ⟨c, d, l, rfl⟩
    have hb0 := c0.toNat_lt
    have hb1 := c1.toNat_lt
    have e0 : Rd.rtake ⟨c0 :: c1 :: l, false⟩ 2 = ([c0, c1], ⟨l, false⟩) := Rd.rtake_ok rfl (by show 2 ≤ (c0 :: c1 :: l).length; simp)
    have en : (ofLe [c0, c1]).toNat = ((c0.toNat : Int) + 256 * (c1.toNat : Int)).toNat := by simp [ofLe]
    have e1 : Rd.rtext ⟨c0 :: c1 :: l, false⟩ = (⟨(Rd.rtake ⟨l, false⟩ ((c0.toNat : Int) + 256 * (c1.toNat : Int)).toNat).1.toArray⟩, (Rd.rtake ⟨l, false⟩ ((c0.toNat : Int) + 256 * (c1.toNat : Int)).toNat).2) := by
      unfold Rd.rtext; rw [e0, if_neg (by simp), en]
    refine Fn.enter (N := 22) Try.func33 rfl Try.ntmps33 (by kernel_rfl) rfl (fun ρ L => ?_)
    repeat (first | refine K.seq ?_ | refine K.skip ?_ | refine K.block ?_ | refine K.inBlock ?_ | refine K.label ?_)
    refine K.region ?_
    refine KO.q rfl (q_assign rfl) ?_
    refine KO.done ?_
    repeat (first | refine K.seq ?_ | refine K.skip ?_ | refine K.block ?_ | refine K.inBlock ?_ | refine K.label ?_)
    repeat (first | refine K.seq ?_ | refine K.skip ?_ | refine K.block ?_ | refine K.inBlock ?_ | refine K.label ?_)
    refine K.region ?_
    refine KO.q rfl (q_move rfl) ?_
    refine KO.loud rfl (OpL.callE rfl (rf_take_ok p q cap ⟨c0 :: c1 :: l, false⟩ 2 rfl (by decide) hl hc)) ?_
    rintro _ _ ⟨_, ⟨rfl, rfl⟩, rfl⟩
    refine KO.q rfl (q_assign rfl) ?_
    refine KO.done ?_
    repeat (first | refine K.seq ?_ | refine K.skip ?_ | refine K.block ?_ | refine K.inBlock ?_ | refine K.label ?_)
    repeat (first | refine K.seq ?_ | refine K.skip ?_ | refine K.block ?_ | refine K.inBlock ?_ | refine K.label ?_)
    refine K.region ?_
    refine KO.q rfl (q_move rfl) ?_
    refine KO.q rfl (q_len Try.underlying25 rfl) ?_
    refine KO.q rfl (q_lt rfl rfl) ?_
    refine KO.done ?_
    repeat (first | refine K.seq ?_ | refine K.skip ?_ | refine K.block ?_ | refine K.inBlock ?_ | refine K.label ?_)
    refine K.no rfl ?_
    repeat (first | refine K.seq ?_ | refine K.skip ?_ | refine K.block ?_ | refine K.inBlock ?_ | refine K.label ?_)
    have hx0 : ((Rd.mk (c0 :: c1 :: l) false).bs.take (2 : Int).toNat)[(0 : Int).toNat]? = some c0 := rfl
    have hx1 : ((Rd.mk (c0 :: c1 :: l) false).bs.take (2 : Int).toNat)[(1 : Int).toNat]? = some c1 := rfl
    refine K.fact (rowF_addr (List.Mem.head _) (by intro e; rw [e] at hx0; simp at hx0)) (fun hq => ?_)
    obtain ⟨bq, oq, rfl⟩ := hq
    by_cases hb : (l.length : Int) < (c0.toNat : Int) + 256 * (c1.toNat : Int)
    · have e : Rd.rtext ⟨c0 :: c1 :: l, false⟩ = (⟨#[]⟩, ⟨l, true⟩) := by rw [e1, Rd.rtake_bad (.inr (by show l.length < _; omega))]
      refine K.st (fun w h => rowF_nil (k := Kd.u8) none h) ?_
      repeat (first | refine K.seq ?_ | refine K.skip ?_ | refine K.block ?_ | refine K.inBlock ?_ | refine K.label ?_)
      refine K.draw [RowF Kd.u8 (some ⟨bq, oq, none⟩) [c0, c1]] mixed ?_
      refine D.q 0 rfl (by kernel_rfl) (by kernel_rfl) (q_move rfl) (fun _ h => h.subD) ?_
      refine D.q 1 rfl (by kernel_rfl) (by kernel_rfl) (q_move rfl) (fun _ h => h.subD) ?_
      refine D.q 2 rfl (by kernel_rfl) (by kernel_rfl) (q_index se_25 rfl rfl (by first | omega | (simp; omega)) (by first | omega | (simp; omega))) (fun _ h => h.subD) ?_
      refine D.q 3 rfl (by kernel_rfl) (by kernel_rfl) (q_load1D ck_5 rfl) (fun _ h => h.subD) ?_
      refine D.q 4 rfl (by kernel_rfl) (by kernel_rfl) (q_conv Try.underlying3 (by rw [Try.underlying5]; rfl) rfl (by first | rfl | exact wrap_i64 (by omega) (by omega) | exact wrap_u64 (by omega) (by omega) | exact wrap_u8 (by omega) (by omega))) (fun _ h => h.subD) ?_
      refine D.q 5 rfl (by kernel_rfl) (by kernel_rfl) (q_move rfl) (fun _ h => h.subD) ?_
      refine D.q 6 rfl (by kernel_rfl) (by kernel_rfl) (q_index se_25 rfl rfl (by first | omega | (simp; omega)) (by first | omega | (simp; omega))) (fun _ h => h.subD) ?_
      refine D.q 7 rfl (by kernel_rfl) (by kernel_rfl) (q_load1D ck_5 rfl) (fun _ h => h.subD) ?_
      refine D.q 8 rfl (by kernel_rfl) (by kernel_rfl) (q_conv Try.underlying3 (by rw [Try.underlying5]; rfl) rfl (by first | rfl | exact wrap_i64 (by omega) (by omega) | exact wrap_u64 (by omega) (by omega) | exact wrap_u8 (by omega) (by omega))) (fun _ h => h.subD) ?_
      refine D.q 9 rfl (by kernel_rfl) (by kernel_rfl) (q_mul rfl rfl (by first | omega | (simp; omega)) (by first | omega | (simp; omega))) (fun _ h => h.subD) ?_
      refine D.q 10 rfl (by kernel_rfl) (by kernel_rfl) (q_add rfl rfl (by first | omega | (simp; omega)) (by first | omega | (simp; omega))) (fun _ h => h.subD) ?_
      refine D.all (rs := [11]) (by kernel_rfl) rfl (DAll.cons rfl (by kernel_rfl) (OpL.callE rfl (rf_take_bad p (cutAddr (some ⟨bq, oq, none⟩) cap 2 1) (cap - 2) ⟨l, false⟩ ((c0.toNat : Int) + 256 * (c1.toNat : Int)) (.inr hb))) (.inr (by rintro _ _ ⟨_, ⟨rfl, rfl⟩, rfl⟩ w h; exact h.subD)) rfl ?_ DAll.nil)
      rintro _ _ ⟨_, ⟨rfl, rfl⟩, rfl⟩
      refine D.all (rs := [12]) (by kernel_rfl) rfl (DAll.cons rfl (by kernel_rfl) (OpQ.loud (q_bstr Try.underlying25 Try.underlying5 Try.underlying9 rfl isF (by repeat (first | exact List.Mem.head _ | apply List.Mem.tail)) rfl)) (.inr (by rintro _ _ ⟨rfl, rfl⟩ w h; exact h.subD)) rfl ?_ DAll.nil)
      rintro _ _ ⟨rfl, rfl⟩
      refine D.all (rs := [13]) (by kernel_rfl) rfl (DAll.cons rfl (by kernel_rfl) (OpQ.loud (q_assign rfl)) (.inl (by kernel_rfl)) rfl ?_ DAll.nil)
      rintro _ _ ⟨rfl, rfl⟩
      refine D.done (by kernel_rfl) ?_
      repeat (first | refine K.seq ?_ | refine K.skip ?_ | refine K.block ?_ | refine K.inBlock ?_ | refine K.label ?_)
      refine K.ret (fn := Try.f33) Try.func33 (fun a w hk hs => res1 Try.results33 hk rfl) (fun w hs => ?_)
      exact ⟨_, RfL p (cutAddr (some ⟨bq, oq, none⟩) cap 2 1) (cap - 2) ⟨l, true⟩, rfl, ⟨_, _, by rw [e], by rw [e], by rw [e]; show l.length ≤ cap - 2; simp at hc; omega⟩, hs.fitD⟩
    · have e : Rd.rtext ⟨c0 :: c1 :: l, false⟩ = (⟨(l.take ((c0.toNat : Int) + 256 * (c1.toNat : Int)).toNat).toArray⟩, ⟨l.drop ((c0.toNat : Int) + 256 * (c1.toNat : Int)).toNat, false⟩) := by rw [e1, Rd.rtake_ok rfl (by show _ ≤ l.length; omega)]
      have hlen : ((c0.toNat : Int) + 256 * (c1.toNat : Int)).toNat = (l.take ((c0.toNat : Int) + 256 * (c1.toNat : Int)).toNat).length := by rw [List.length_take]; omega
      have hc2 : l.length ≤ cap - 2 := by simp at hc; omega
      repeat (first | refine K.seq ?_ | refine K.skip ?_ | refine K.block ?_ | refine K.inBlock ?_ | refine K.label ?_)
      refine K.draw [RowF Kd.u8 (some ⟨bq, oq, none⟩) [c0, c1]] mixed ?_
      refine D.q 0 rfl (by kernel_rfl) (by kernel_rfl) (q_move rfl) (fun _ h => h.subD) ?_
      refine D.q 1 rfl (by kernel_rfl) (by kernel_rfl) (q_move rfl) (fun _ h => h.subD) ?_
      refine D.q 2 rfl (by kernel_rfl) (by kernel_rfl) (q_index se_25 rfl rfl (by first | omega | (simp; omega)) (by first | omega | (simp; omega))) (fun _ h => h.subD) ?_
      refine D.q 3 rfl (by kernel_rfl) (by kernel_rfl) (q_load1D ck_5 rfl) (fun _ h => h.subD) ?_
      refine D.q 4 rfl (by kernel_rfl) (by kernel_rfl) (q_conv Try.underlying3 (by rw [Try.underlying5]; rfl) rfl (by first | rfl | exact wrap_i64 (by omega) (by omega) | exact wrap_u64 (by omega) (by omega) | exact wrap_u8 (by omega) (by omega))) (fun _ h => h.subD) ?_
      refine D.q 5 rfl (by kernel_rfl) (by kernel_rfl) (q_move rfl) (fun _ h => h.subD) ?_
      refine D.q 6 rfl (by kernel_rfl) (by kernel_rfl) (q_index se_25 rfl rfl (by first | omega | (simp; omega)) (by first | omega | (simp; omega))) (fun _ h => h.subD) ?_
      refine D.q 7 rfl (by kernel_rfl) (by kernel_rfl) (q_load1D ck_5 rfl) (fun _ h => h.subD) ?_
      refine D.q 8 rfl (by kernel_rfl) (by kernel_rfl) (q_conv Try.underlying3 (by rw [Try.underlying5]; rfl) rfl (by first | rfl | exact wrap_i64 (by omega) (by omega) | exact wrap_u64 (by omega) (by omega) | exact wrap_u8 (by omega) (by omega))) (fun _ h => h.subD) ?_
      refine D.q 9 rfl (by kernel_rfl) (by kernel_rfl) (q_mul rfl rfl (by first | omega | (simp; omega)) (by first | omega | (simp; omega))) (fun _ h => h.subD) ?_
      refine D.q 10 rfl (by kernel_rfl) (by kernel_rfl) (q_add rfl rfl (by first | omega | (simp; omega)) (by first | omega | (simp; omega))) (fun _ h => h.subD) ?_
      refine D.all (rs := [11]) (by kernel_rfl) rfl (DAll.cons rfl (by kernel_rfl) (OpL.callE rfl (rf_take_ok p (cutAddr (some ⟨bq, oq, none⟩) cap 2 1) (cap - 2) ⟨l, false⟩ ((c0.toNat : Int) + 256 * (c1.toNat : Int)) rfl (by omega) (by show _ ≤ (l.length : Int); omega) hc2)) (.inr (by rintro _ _ ⟨_, ⟨rfl, rfl⟩, rfl⟩ w h; exact h.subD)) rfl ?_ DAll.nil)
      rintro _ _ ⟨_, ⟨rfl, rfl⟩, rfl⟩
      refine D.all (rs := [12]) (by kernel_rfl) rfl (DAll.cons rfl (by kernel_rfl) (OpQ.loud (q_bstr Try.underlying25 Try.underlying5 Try.underlying9 rfl isF (by repeat (first | exact List.Mem.head _ | apply List.Mem.tail)) hlen)) (.inr (by rintro _ _ ⟨rfl, rfl⟩ w h; exact h.subD)) rfl ?_ DAll.nil)
      rintro _ _ ⟨rfl, rfl⟩
      refine D.all (rs := [13]) (by kernel_rfl) rfl (DAll.cons rfl (by kernel_rfl) (OpQ.loud (q_assign rfl)) (.inl (by kernel_rfl)) rfl ?_ DAll.nil)
      rintro _ _ ⟨rfl, rfl⟩
      refine D.done (by kernel_rfl) ?_
      repeat (first | refine K.seq ?_ | refine K.skip ?_ | refine K.block ?_ | refine K.inBlock ?_ | refine K.label ?_)
      refine K.ret (fn := Try.f33) Try.func33 (fun a w hk hs => res1 Try.results33 hk rfl) (fun w hs => ?_)
      exact ⟨_, RfL p (cutAddr (cutAddr (some ⟨bq, oq, none⟩) cap 2 1) (cap - 2) ((c0.toNat : Int) + 256 * (c1.toNat : Int)).toNat 1) (cap - 2 - ((c0.toNat : Int) + 256 * (c1.toNat : Int)).toNat) ⟨l.drop ((c0.toNat : Int) + 256 * (c1.toNat : Int)).toNat, false⟩, rfl, ⟨_, _, by rw [e], by rw [e], by rw [e]; simp; omega⟩, hs.fitD⟩
theorem rf_Flag (p : Nat) (q : Option Addr) (cap : Nat) (s : Rd) (hc : s.bs.length ≤ cap) : Fn Try.prog 35 [.pointer (some ⟨p, 0, none⟩)].toArray (RfL p q cap s)
    (fun r post => ∃ q' cap', r = .bool s.rflag.1 ∧ post = RfL p q' cap' s.rflag.2 ∧ s.rflag.2.bs.length ≤ cap') := by
  by_cases hb : s.f = true ∨ (s.bs.length : Int) < 1
  · have e : s.rflag = (false, ⟨s.bs, true⟩) := by unfold Rd.rflag; rw [Rd.rtake_bad (hb.imp id fun h => by omega)]
    refine Fn.enter (N := 27) Try.func35 rfl Try.ntmps35 (by kernel_rfl) rfl (fun ρ L => ?_)
    repeat (first | refine K.seq ?_ | refine K.skip ?_ | refine K.block ?_ | refine K.inBlock ?_ | refine K.label ?_)
    refine K.region ?_
    refine KO.q rfl (q_assign rfl) ?_
    refine KO.done ?_
    repeat (first | refine K.seq ?_ | refine K.skip ?_ | refine K.block ?_ | refine K.inBlock ?_ | refine K.label ?_)
    repeat (first | refine K.seq ?_ | refine K.skip ?_ | refine K.block ?_ | refine K.inBlock ?_ | refine K.label ?_)
    refine K.region ?_
    refine KO.q rfl (q_move rfl) ?_
    refine KO.loud rfl (OpL.callE rfl (rf_take_bad p q cap s 1 hb)) ?_
    rintro _ _ ⟨_, ⟨rfl, rfl⟩, rfl⟩
    refine KO.q rfl (q_assign rfl) ?_
    refine KO.done ?_
    repeat (first | refine K.seq ?_ | refine K.skip ?_ | refine K.block ?_ | refine K.inBlock ?_ | refine K.label ?_)
    repeat (first | refine K.seq ?_ | refine K.skip ?_ | refine K.block ?_ | refine K.inBlock ?_ | refine K.label ?_)
    refine K.region ?_
    refine KO.q rfl (q_move rfl) ?_
    refine KO.q rfl (q_len Try.underlying25 rfl) ?_
    refine KO.q rfl (q_eq rfl rfl) ?_
    refine KO.q rfl (q_move rfl) ?_
    refine KO.skip rfl ?_
    refine KO.skip rfl ?_
    refine KO.skip rfl ?_
    refine KO.skip rfl ?_
    refine KO.q rfl (q_pickF rfl rfl) ?_
    refine KO.done ?_
    repeat (first | refine K.seq ?_ | refine K.skip ?_ | refine K.block ?_ | refine K.inBlock ?_ | refine K.label ?_)
    refine K.no rfl ?_
    repeat (first | refine K.seq ?_ | refine K.skip ?_ | refine K.block ?_ | refine K.inBlock ?_ | refine K.label ?_)
    refine K.region ?_
    refine KO.q rfl (q_move rfl) ?_
    refine KO.q rfl (q_len Try.underlying25 rfl) ?_
    refine KO.q rfl (q_eq rfl rfl) ?_
    refine KO.q rfl (q_move rfl) ?_
    refine KO.skip rfl ?_
    refine KO.skip rfl ?_
    refine KO.skip rfl ?_
    refine KO.skip rfl ?_
    refine KO.q rfl (q_pickF rfl rfl) ?_
    refine KO.q rfl (q_assign rfl) ?_
    refine KO.done ?_
    repeat (first | refine K.seq ?_ | refine K.skip ?_ | refine K.block ?_ | refine K.inBlock ?_ | refine K.label ?_)
    refine K.ret (fn := Try.f35) Try.func35 (fun a w hk hs => res1 Try.results35 hk rfl) (fun w hs => ?_)
    exact ⟨_, RfL p q cap ⟨s.bs, true⟩, rfl, ⟨q, cap, by rw [e], by rw [e], by rw [e]; exact hc⟩, hs.fitD⟩
  · obtain ⟨bs, f⟩ := s
    obtain rfl : f = false := by cases f <;> simp_all
    have hl : (1 : Int) ≤ bs.length := by
      have : ¬ (bs.length : Int) < 1 := fun h => hb (.inr h)
      omega
    clear hb
    replace hc : bs.length ≤ cap := hc
    obtain ⟨c, l, rfl⟩ : ∃ c l, bs = c :: l := by
      cases bs with
      | nil => simp at hl
      | cons c l => exact ⟨c, l, rfl⟩
    have hb := c.toNat_lt
    have e0 : Rd.rtake ⟨c :: l, false⟩ 1 = ([c], ⟨l, false⟩) := Rd.rtake_ok rfl (by show 1 ≤ (c :: l).length; simp)
    have e3 : decide ((c.toNat : Int) = 1) = (c.toNat == 1) := by
      by_cases h1 : c.toNat = 1
      · simp [h1]
      · have h2 : ¬ (c.toNat : Int) = 1 := by omega
        simp [h1, h2]
    have hc2 : l.length ≤ cap - 1 := by simp at hc; omega
    refine Fn.enter (N := 27) Try.func35 rfl Try.ntmps35 (by kernel_rfl) rfl (fun ρ L => ?_)
    repeat (first | refine K.seq ?_ | refine K.skip ?_ | refine K.block ?_ | refine K.inBlock ?_ | refine K.label ?_)
    refine K.region ?_
    refine KO.q rfl (q_assign rfl) ?_
    refine KO.done ?_
    repeat (first | refine K.seq ?_ | refine K.skip ?_ | refine K.block ?_ | refine K.inBlock ?_ | refine K.label ?_)
    repeat (first | refine K.seq ?_ | refine K.skip ?_ | refine K.block ?_ | refine K.inBlock ?_ | refine K.label ?_)
    refine K.region ?_
    refine KO.q rfl (q_move rfl) ?_
    refine KO.loud rfl (OpL.callE rfl (rf_take_ok p q cap ⟨c :: l, false⟩ 1 rfl (by decide) hl hc)) ?_
    rintro _ _ ⟨_, ⟨rfl, rfl⟩, rfl⟩
    refine KO.q rfl (q_assign rfl) ?_
    refine KO.done ?_
    repeat (first | refine K.seq ?_ | refine K.skip ?_ | refine K.block ?_ | refine K.inBlock ?_ | refine K.label ?_)
    repeat (first | refine K.seq ?_ | refine K.skip ?_ | refine K.block ?_ | refine K.inBlock ?_ | refine K.label ?_)
    have hx0 : ((Rd.mk (c :: l) false).bs.take (1 : Int).toNat)[(0 : Int).toNat]? = some c := rfl
    refine K.fact (rowF_addr (List.Mem.head _) (by intro e; rw [e] at hx0; simp at hx0)) (fun hq => ?_)
    obtain ⟨bq, oq, rfl⟩ := hq
    repeat (first | refine K.seq ?_ | refine K.skip ?_ | refine K.block ?_ | refine K.inBlock ?_ | refine K.label ?_)
    refine K.region ?_
    refine KO.q rfl (q_move rfl) ?_
    refine KO.q rfl (q_len Try.underlying25 rfl) ?_
    refine KO.q rfl (q_eq rfl rfl) ?_
    refine KO.q rfl (q_move rfl) ?_
    refine KO.q rfl (q_move rfl) ?_
    refine KO.q rfl (q_index se_25 rfl rfl (by first | omega | (simp; omega)) (by first | omega | (simp; omega))) ?_
    refine KO.q rfl (q_load1D ck_5 rfl) ?_
    refine KO.q rfl (q_gt rfl rfl) ?_
    refine KO.q rfl (q_pickT rfl rfl) ?_
    refine KO.done ?_
    repeat (first | refine K.seq ?_ | refine K.skip ?_ | refine K.block ?_ | refine K.inBlock ?_ | refine K.label ?_)
    refine K.dite rfl (fun h => ?_) (fun h => ?_)
    · have e : Rd.rflag ⟨c :: l, false⟩ = ((c.toNat == 1), ⟨l, true⟩) := by
        unfold Rd.rflag; rw [e0]; simp; omega
      repeat (first | refine K.seq ?_ | refine K.skip ?_ | refine K.block ?_ | refine K.inBlock ?_ | refine K.label ?_)
      refine K.region ?_
      refine KO.q rfl (q_move rfl) ?_
      refine KO.q rfl (q_nilCheck rfl) ?_
      refine KO.q rfl (q_field fo_95_1 rfl) ?_
      refine KO.loudN rfl (l_store1 ck_4 rfl rfl rfl (by repeat (first | exact Pick.here | apply Pick.there)) (by repeat (first | exact SetAt.here | apply SetAt.there))) ?_
      rintro _ _ ⟨rfl, rfl⟩
      refine KO.done ?_
      repeat (first | refine K.seq ?_ | refine K.skip ?_ | refine K.block ?_ | refine K.inBlock ?_ | refine K.label ?_)
      repeat (first | refine K.seq ?_ | refine K.skip ?_ | refine K.block ?_ | refine K.inBlock ?_ | refine K.label ?_)
      refine K.region ?_
      refine KO.q rfl (q_move rfl) ?_
      refine KO.q rfl (q_len Try.underlying25 rfl) ?_
      refine KO.q rfl (q_eq rfl rfl) ?_
      refine KO.q rfl (q_move rfl) ?_
      refine KO.q rfl (q_move rfl) ?_
      refine KO.q rfl (q_index se_25 rfl rfl (by first | omega | (simp; omega)) (by first | omega | (simp; omega))) ?_
      refine KO.q rfl (q_load1D ck_5 rfl) ?_
      refine KO.q rfl (q_eq rfl rfl) ?_
      refine KO.q rfl (q_pickT rfl rfl) ?_
      refine KO.q rfl (q_assign rfl) ?_
      refine KO.done ?_
      repeat (first | refine K.seq ?_ | refine K.skip ?_ | refine K.block ?_ | refine K.inBlock ?_ | refine K.label ?_)
      refine K.ret (fn := Try.f35) Try.func35 (fun a w hk hs => res1 Try.results35 hk rfl) (fun w hs => ?_)
      rw [e3]
      exact ⟨_, RfL p (cutAddr (some ⟨bq, oq, none⟩) cap 1 1) (cap - 1) ⟨l, true⟩, rfl, ⟨_, _, by rw [e], by rw [e], by rw [e]; exact hc2⟩, hs.fitD⟩
    · have e : Rd.rflag ⟨c :: l, false⟩ = ((c.toNat == 1), ⟨l, false⟩) := by
        unfold Rd.rflag; rw [e0]; simp; omega
      repeat (first | refine K.seq ?_ | refine K.skip ?_ | refine K.block ?_ | refine K.inBlock ?_ | refine K.label ?_)
      repeat (first | refine K.seq ?_ | refine K.skip ?_ | refine K.block ?_ | refine K.inBlock ?_ | refine K.label ?_)
      refine K.region ?_
      refine KO.q rfl (q_move rfl) ?_
      refine KO.q rfl (q_len Try.underlying25 rfl) ?_
      refine KO.q rfl (q_eq rfl rfl) ?_
      refine KO.q rfl (q_move rfl) ?_
      refine KO.q rfl (q_move rfl) ?_
      refine KO.q rfl (q_index se_25 rfl rfl (by first | omega | (simp; omega)) (by first | omega | (simp; omega))) ?_
      refine KO.q rfl (q_load1D ck_5 rfl) ?_
      refine KO.q rfl (q_eq rfl rfl) ?_
      refine KO.q rfl (q_pickT rfl rfl) ?_
      refine KO.q rfl (q_assign rfl) ?_
      refine KO.done ?_
      repeat (first | refine K.seq ?_ | refine K.skip ?_ | refine K.block ?_ | refine K.inBlock ?_ | refine K.label ?_)
      refine K.ret (fn := Try.f35) Try.func35 (fun a w hk hs => res1 Try.results35 hk rfl) (fun w hs => ?_)
      rw [e3]
      exact ⟨_, RfL p (cutAddr (some ⟨bq, oq, none⟩) cap 1 1) (cap - 1) ⟨l, false⟩, rfl, ⟨_, _, by rw [e], by rw [e], by rw [e]; exact hc2⟩, hs.fitD⟩
theorem rf_Done (p : Nat) (q : Option Addr) (cap : Nat) (s : Rd) : Fn Try.prog 36 [.pointer (some ⟨p, 0, none⟩)].toArray (RfL p q cap s) (fun r post => r = .bool s.done ∧ post = RfL p q cap s) := by
  obtain ⟨bs, f⟩ := s
  cases f with
  | true =>
    refine Fn.enter (N := 16) Try.func36 rfl Try.ntmps36 (by kernel_rfl) rfl (fun ρ L => ?_)
    repeat (first | refine K.seq ?_ | refine K.skip ?_ | refine K.block ?_ | refine K.inBlock ?_ | refine K.label ?_)
    refine K.region ?_
    refine KO.q rfl (q_assign rfl) ?_
    refine KO.done ?_
    repeat (first | refine K.seq ?_ | refine K.skip ?_ | refine K.block ?_ | refine K.inBlock ?_ | refine K.label ?_)
    repeat (first | refine K.seq ?_ | refine K.skip ?_ | refine K.block ?_ | refine K.inBlock ?_ | refine K.label ?_)
    refine K.region ?_
    refine KO.q rfl (q_move rfl) ?_
    refine KO.q rfl (q_nilCheck rfl) ?_
    refine KO.q rfl (q_field fo_95_1 rfl) ?_
    refine KO.q rfl (q_load1D ck_4 rfl) ?_
    refine KO.q rfl (q_not rfl) ?_
    refine KO.q rfl (q_move rfl) ?_
    refine KO.skip rfl ?_
    refine KO.skip rfl ?_
    refine KO.skip rfl ?_
    refine KO.skip rfl ?_
    refine KO.skip rfl ?_
    refine KO.skip rfl ?_
    refine KO.q rfl (q_pickF rfl rfl) ?_
    refine KO.q rfl (q_assign rfl) ?_
    refine KO.done ?_
    repeat (first | refine K.seq ?_ | refine K.skip ?_ | refine K.block ?_ | refine K.inBlock ?_ | refine K.label ?_)
    refine K.ret (fn := Try.f36) Try.func36 (fun a w hk hs => res1 Try.results36 hk rfl) (fun w hs => ?_)
    exact ⟨_, RfL p q cap ⟨bs, true⟩, rfl, ⟨rfl, rfl⟩, hs.fitD⟩
  | false =>
    have e : (Rd.mk bs false).done = decide ((bs.length : Int) = 0) := by cases bs <;> simp [Rd.done]; omega
    refine Fn.enter (N := 16) Try.func36 rfl Try.ntmps36 (by kernel_rfl) rfl (fun ρ L => ?_)
    repeat (first | refine K.seq ?_ | refine K.skip ?_ | refine K.block ?_ | refine K.inBlock ?_ | refine K.label ?_)
    refine K.region ?_
    refine KO.q rfl (q_assign rfl) ?_
    refine KO.done ?_
    repeat (first | refine K.seq ?_ | refine K.skip ?_ | refine K.block ?_ | refine K.inBlock ?_ | refine K.label ?_)
    repeat (first | refine K.seq ?_ | refine K.skip ?_ | refine K.block ?_ | refine K.inBlock ?_ | refine K.label ?_)
    refine K.region ?_
    refine KO.q rfl (q_move rfl) ?_
    refine KO.q rfl (q_nilCheck rfl) ?_
    refine KO.q rfl (q_field fo_95_1 rfl) ?_
    refine KO.q rfl (q_load1D ck_4 rfl) ?_
    refine KO.q rfl (q_not rfl) ?_
    refine KO.q rfl (q_move rfl) ?_
    refine KO.q rfl (q_move rfl) ?_
    refine KO.q rfl (q_nilCheck rfl) ?_
    refine KO.q rfl (q_field fo_95_0 rfl) ?_
    refine KO.q rfl (q_load1D ck_25 rfl) ?_
    refine KO.q rfl (q_len Try.underlying25 rfl) ?_
    refine KO.q rfl (q_eq rfl rfl) ?_
    refine KO.q rfl (q_pickT rfl rfl) ?_
    refine KO.q rfl (q_assign rfl) ?_
    refine KO.done ?_
    repeat (first | refine K.seq ?_ | refine K.skip ?_ | refine K.block ?_ | refine K.inBlock ?_ | refine K.label ?_)
    refine K.ret (fn := Try.f36) Try.func36 (fun a w hk hs => res1 Try.results36 hk rfl) (fun w hs => ?_)
    rw [e]
    exact ⟨_, RfL p q cap ⟨bs, false⟩, rfl, ⟨rfl, rfl⟩, hs.fitD⟩
theorem rf_Bad (p : Nat) (q : Option Addr) (cap : Nat) (s : Rd) : Fn Try.prog 72 [.pointer (some ⟨p, 0, none⟩)].toArray (RfL p q cap s) (fun r post => r = .bool s.f ∧ post = RfL p q cap s) := by
  refine Fn.enter (N := 7) Try.func72 rfl Try.ntmps72 (by kernel_rfl) rfl (fun ρ L => ?_)
  repeat (first | refine K.seq ?_ | refine K.skip ?_ | refine K.block ?_ | refine K.inBlock ?_ | refine K.label ?_)
  refine K.region ?_
  refine KO.q rfl (q_assign rfl) ?_
  refine KO.done ?_
  repeat (first | refine K.seq ?_ | refine K.skip ?_ | refine K.block ?_ | refine K.inBlock ?_ | refine K.label ?_)
  repeat (first | refine K.seq ?_ | refine K.skip ?_ | refine K.block ?_ | refine K.inBlock ?_ | refine K.label ?_)
  refine K.region ?_
  refine KO.q rfl (q_move rfl) ?_
  refine KO.q rfl (q_nilCheck rfl) ?_
  refine KO.q rfl (q_field fo_95_1 rfl) ?_
  refine KO.q rfl (q_load1D ck_4 rfl) ?_
  refine KO.q rfl (q_assign rfl) ?_
  refine KO.done ?_
  repeat (first | refine K.seq ?_ | refine K.skip ?_ | refine K.block ?_ | refine K.inBlock ?_ | refine K.label ?_)
  refine K.ret (fn := Try.f72) Try.func72 (fun a w hk hs => res1 Try.results72 hk rfl) (fun w hs => ?_)
  exact ⟨_, RfL p q cap s, rfl, ⟨rfl, rfl⟩, hs.fitD⟩
end Go.Proofs.Ytlellgnklohclaa.L
/-! Walks: the document's own writer. -/
namespace Go.Proofs.Ytlellgnklohclaa.L
open Go Go.Proofs
attribute [local irreducible] pv fv pt fz RowF RowO rowP old pure_
set_option maxRecDepth 100000
set_option linter.unusedSimpArgs false
set_option linter.unusedVariables false

theorem and_byte (Y : Int) (h0 : 0 ≤ Y) (h1 : Y ≤ 18446744073709551615) : IntKind.u8.wrap (IntKind.u64.wrap ((BitVec.ofInt IntKind.u64.bits Y &&& BitVec.ofInt IntKind.u64.bits 255).toNat)) = IntKind.u8.wrap Y := by
  obtain ⟨m, rfl⟩ := Int.eq_ofNat_of_zero_le h0
  have hm : m ≤ 18446744073709551615 := by omega
  have e1 : (BitVec.ofInt IntKind.u64.bits (m : Int) &&& BitVec.ofInt IntKind.u64.bits 255).toNat = m % 256 := by
    show (BitVec.ofInt 64 (m : Int) &&& BitVec.ofInt 64 ((255 : Nat) : Int)).toNat = _
    rw [BitVec.toNat_and, BitVec.ofInt_natCast, BitVec.ofInt_natCast, BitVec.toNat_ofNat, BitVec.toNat_ofNat, Nat.mod_eq_of_lt (by omega), Nat.mod_eq_of_lt (by omega : (255 : Nat) < 2 ^ 64)]
    exact Nat.and_two_pow_sub_one_eq_mod m 8
  rw [e1, wrap_u8_mod, wrap_u8_mod, wrap_u64 (by omega) (by omega)]
  omega
theorem and_byteI (Y : Int) (h0 : 0 ≤ Y) (h1 : Y ≤ 9223372036854775807) : IntKind.u8.wrap (IntKind.i64.wrap ((BitVec.ofInt IntKind.i64.bits Y &&& BitVec.ofInt IntKind.i64.bits 255).toNat)) = IntKind.u8.wrap Y := by
  obtain ⟨m, rfl⟩ := Int.eq_ofNat_of_zero_le h0
  have hm : m ≤ 9223372036854775807 := by omega
  have e1 : (BitVec.ofInt IntKind.i64.bits (m : Int) &&& BitVec.ofInt IntKind.i64.bits 255).toNat = m % 256 := by
    show (BitVec.ofInt 64 (m : Int) &&& BitVec.ofInt 64 ((255 : Nat) : Int)).toNat = _
    rw [BitVec.toNat_and, BitVec.ofInt_natCast, BitVec.ofInt_natCast, BitVec.toNat_ofNat, BitVec.toNat_ofNat, Nat.mod_eq_of_lt (by omega), Nat.mod_eq_of_lt (by omega : (255 : Nat) < 2 ^ 64)]
    exact Nat.and_two_pow_sub_one_eq_mod m 8
  rw [e1, wrap_u8_mod, wrap_u8_mod, wrap_i64 (by omega) (by omega)]
  omega
theorem fdiv_pow_bounds (x : Int) (k : Nat) (h0 : 0 ≤ x) : 0 ≤ x.fdiv (2 ^ k) ∧ x.fdiv (2 ^ k) ≤ x := by
  have hp : (0 : Int) ≤ 2 ^ k := Int.le_of_lt (Int.pow_pos (by decide))
  rw [Int.fdiv_eq_ediv_of_nonneg _ hp]
  exact ⟨Int.ediv_nonneg h0 hp, Int.ediv_le_self _ h0⟩
abbrev WfL (p : Nat) (q : Option Addr) (cap : Nat) (xs : List UInt8) : List HP := [pv p 52 [.slice q xs.length cap], RowO Kd.u8 5 q cap xs]
theorem wf_Int (p : Nat) (q : Option Addr) (cap : Nat) (xs : List UInt8) (n : Int) (hb : xs.length ≤ 1099511627776) : Fn Try.prog 37 [.pointer (some ⟨p, 0, none⟩), .int .i64 n].toArray (WfL p q cap xs)
    (fun r post => ∃ q' cap', r = .tuple #[] ∧ post = WfL p q' cap' (xs ++ wInt n)) := by
  have hu0 : 0 ≤ u64 n := Int.emod_nonneg _ (by decide)
  have hu1 : u64 n ≤ 18446744073709551615 := by unfold u64; omega
  refine Fn.enter (N := 28) Try.func37 rfl Try.ntmps37 (by kernel_rfl) rfl (fun ρ L => ?_)
  repeat (first | refine K.seq ?_ | refine K.skip ?_ | refine K.block ?_ | refine K.inBlock ?_ | refine K.label ?_)
  refine K.region ?_
  refine KO.q rfl (q_move rfl) ?_
  refine KO.q rfl (q_convw Try.underlying87 (by rw [Try.underlying3]; rfl) rfl) ?_
  refine KO.q rfl (q_assign rfl) ?_
  refine KO.done ?_
  repeat (first | refine K.seq ?_ | refine K.skip ?_ | refine K.block ?_ | refine K.inBlock ?_ | refine K.label ?_)
  rw [wrap_u64_mod, show n % 18446744073709551616 = u64 n from rfl]
  repeat (first | refine K.seq ?_ | refine K.skip ?_ | refine K.block ?_ | refine K.inBlock ?_ | refine K.label ?_)
  refine K.region ?_
  refine KO.q rfl (q_assign rfl) ?_
  refine KO.done ?_
  repeat (first | refine K.seq ?_ | refine K.skip ?_ | refine K.block ?_ | refine K.inBlock ?_ | refine K.label ?_)
  repeat (first | refine K.seq ?_ | refine K.skip ?_ | refine K.block ?_ | refine K.inBlock ?_ | refine K.label ?_)
  refine K.rounds (ι := { i : Nat × Option Addr × Nat // i.1 ≤ 8 }) (fun i => ([(5, .int .i64 (i.1.1 : Int)), (0, .pointer (some ⟨p, 0, none⟩)), (4, .int .u64 (u64 n))], WfL p i.1.2.1 i.1.2.2 (xs ++ leb (u64 n) i.1.1) ++ L)) (fun i => 8 - i.1.1) ⟨(0, q, cap), Nat.zero_le _⟩ (by repeat (first | exact Env.sub_nil _ | refine Env.sub_cons rfl ?_)) (fun w h => by rw [show leb (u64 n) 0 = [] from rfl, List.append_nil]; exact h) (fun i ih => ?_)
  obtain ⟨⟨i, q', cap'⟩, hi⟩ := i
  replace hi : i ≤ 8 := hi
  have hlen := leb_length (u64 n) i
  repeat (first | refine K.seq ?_ | refine K.skip ?_ | refine K.block ?_ | refine K.inBlock ?_ | refine K.label ?_)
  refine K.region ?_
  refine KO.q rfl (q_move rfl) ?_
  refine KO.q rfl (q_lt rfl rfl) ?_
  refine KO.done ?_
  repeat (first | refine K.seq ?_ | refine K.skip ?_ | refine K.block ?_ | refine K.inBlock ?_ | refine K.label ?_)
  refine K.dite rfl (fun h => ?_) (fun h => ?_)
  · replace h : (i : Int) < 8 := h
    repeat (first | refine K.seq ?_ | refine K.skip ?_ | refine K.block ?_ | refine K.inBlock ?_ | refine K.label ?_)
    have hbw := byte_wrap (u64 n) i (by omega) hu0
    have hfb := fdiv_pow_bounds (u64 n) (min (8 * (i : Int)).toNat IntKind.u64.bits) hu0
    have hab := and_byte ((u64 n).fdiv (2 ^ (min (8 * (i : Int)).toNat IntKind.u64.bits))) hfb.1 (by omega)
    repeat (first | refine K.seq ?_ | refine K.skip ?_ | refine K.block ?_ | refine K.inBlock ?_ | refine K.label ?_)
    refine K.region ?_
    refine KO.q rfl (q_move rfl) ?_
    refine KO.q rfl (q_move rfl) ?_
    refine KO.q rfl (q_nilCheck rfl) ?_
    refine KO.q rfl (q_field fo_52_0 rfl) ?_
    refine KO.q rfl (q_load1D ck_25 rfl) ?_
    refine KO.q rfl (q_move rfl) ?_
    refine KO.q rfl (q_move rfl) ?_
    refine KO.q rfl (q_mul rfl rfl (by first | omega | (simp; omega)) (by first | omega | (simp; omega))) ?_
    have hconv : IntKind.u64.wrap (8 * (i : Int)) = 8 * (i : Int) := wrap_u64 (by omega) (by omega)
    refine KO.q rfl (q_conv Try.underlying97 (by rw [Try.underlying3]; rfl) rfl hconv) ?_
    refine KO.q rfl (q_shr rfl rfl (by first | omega | (simp; omega))) ?_
    refine KO.q rfl (q_and rfl rfl) ?_
    refine KO.q rfl (q_convw Try.underlying5 (by rw [Try.underlying87]; rfl) rfl) ?_
    refine KO.loud rfl (l_slice sz_25_1 rfl (by repeat (first | exact Fill.nil | (apply Fill.cons; rfl; rfl; rfl) | exact SetN.nil | apply SetN.cons | exact SetAt.here | apply SetAt.there))) ?_
    rintro _ _ ⟨b24, rfl, rfl⟩
    refine KO.st (fun w h => pv_rowF1 (k := Kd.u8) (byteAt (u64 n) i) (fun g => congrArg (fun z => [Value.int .u8 z]) (hab.trans hbw)) h) ?_
    refine KO.loud rfl (l_append Kd.u8 se_25 Try.underlying25 ⟨_, ze_5, rfl⟩ (by decide) rfl rfl (by repeat (first | exact Pick.here | apply Pick.there)) isF (List.Mem.head _) rfl rfl (by simp; omega)) ?_
    rintro _ _ ⟨q'', cap'', rfl, rfl⟩
    refine KO.q rfl (q_nilCheck rfl) ?_
    refine KO.q rfl (q_field fo_52_0 rfl) ?_
    refine KO.loudN rfl (l_store1 ck_25 rfl rfl rfl (by repeat (first | exact Pick.here | apply Pick.there)) (by repeat (first | exact SetAt.here | apply SetAt.there))) ?_
    rintro _ _ ⟨rfl, rfl⟩
    refine KO.done ?_
    repeat (first | refine K.seq ?_ | refine K.skip ?_ | refine K.block ?_ | refine K.inBlock ?_ | refine K.label ?_)
    repeat (first | refine K.seq ?_ | refine K.skip ?_ | refine K.block ?_ | refine K.inBlock ?_ | refine K.label ?_)
    refine K.region ?_
    refine KO.q rfl (q_move rfl) ?_
    refine KO.q rfl (q_add rfl rfl (by first | omega | (simp; omega)) (by first | omega | (simp; omega))) ?_
    refine KO.q rfl (q_assign rfl) ?_
    refine KO.done ?_
    repeat (first | refine K.seq ?_ | refine K.skip ?_ | refine K.block ?_ | refine K.inBlock ?_ | refine K.label ?_)
    rw [List.append_assoc, ← leb_succ]
    exact K.weak (by repeat (first | exact Env.sub_nil _ | refine Env.sub_cons rfl ?_)) (fun w h => h.fitD) (ih ⟨(i + 1, q'', cap''), by show i + 1 ≤ 8; omega⟩ (by show 8 - (i + 1) < 8 - i; omega))
  · replace h : ¬ (i : Int) < 8 := h
    have hi' : i = 8 := by omega
    subst hi'
    refine K.exit rfl ?_
    repeat (first | refine K.seq ?_ | refine K.skip ?_ | refine K.block ?_ | refine K.inBlock ?_ | refine K.label ?_)
    refine K.fin (fn := Try.f37) Try.func37 (fun a w hk hs => res0 Try.results37) (fun w hs => ?_)
    exact ⟨_, WfL p q' cap' (xs ++ wInt n), rfl, ⟨q', cap', rfl, rfl⟩, hs.fitD⟩
theorem wf_Flag (p : Nat) (q : Option Addr) (cap : Nat) (xs : List UInt8) (b : Bool) (hb : xs.length ≤ 1099511627776) : Fn Try.prog 40 [.pointer (some ⟨p, 0, none⟩), .bool b].toArray (WfL p q cap xs)
    (fun r post => ∃ q' cap', r = .tuple #[] ∧ post = WfL p q' cap' (xs ++ wFlag b)) := by
  cases b
  · refine Fn.enter (N := 16) Try.func40 rfl Try.ntmps40 (by kernel_rfl) rfl (fun ρ L => ?_)
    repeat (first | refine K.seq ?_ | refine K.skip ?_ | refine K.block ?_ | refine K.inBlock ?_ | refine K.label ?_)
    refine K.region ?_
    refine KO.q rfl (q_assign rfl) ?_
    refine KO.done ?_
    repeat (first | refine K.seq ?_ | refine K.skip ?_ | refine K.block ?_ | refine K.inBlock ?_ | refine K.label ?_)
    repeat (first | refine K.seq ?_ | refine K.skip ?_ | refine K.block ?_ | refine K.inBlock ?_ | refine K.label ?_)
    refine K.region ?_
    refine KO.q rfl (q_move rfl) ?_
    refine KO.done ?_
    repeat (first | refine K.seq ?_ | refine K.skip ?_ | refine K.block ?_ | refine K.inBlock ?_ | refine K.label ?_)
    refine K.no rfl ?_
    repeat (first | refine K.seq ?_ | refine K.skip ?_ | refine K.block ?_ | refine K.inBlock ?_ | refine K.label ?_)
    refine K.region ?_
    refine KO.q rfl (q_move rfl) ?_
    refine KO.q rfl (q_move rfl) ?_
    refine KO.q rfl (q_nilCheck rfl) ?_
    refine KO.q rfl (q_field fo_52_0 rfl) ?_
    refine KO.q rfl (q_load1D ck_25 rfl) ?_
    refine KO.q rfl (q_move rfl) ?_
    refine KO.loud rfl (l_slice sz_25_1 rfl (by repeat (first | exact Fill.nil | (apply Fill.cons; rfl; rfl; rfl) | exact SetN.nil | apply SetN.cons | exact SetAt.here | apply SetAt.there))) ?_
    rintro _ _ ⟨b19, rfl, rfl⟩
    refine KO.st (fun w h => pv_rowF1 (k := Kd.u8) (0 : UInt8) (fun g => rfl) h) ?_
    refine KO.loud rfl (l_append Kd.u8 se_25 Try.underlying25 ⟨_, ze_5, rfl⟩ (by decide) rfl rfl (by repeat (first | exact Pick.here | apply Pick.there)) isF (List.Mem.head _) rfl rfl (by simp; omega)) ?_
    rintro _ _ ⟨q', cap', rfl, rfl⟩
    refine KO.q rfl (q_nilCheck rfl) ?_
    refine KO.q rfl (q_field fo_52_0 rfl) ?_
    refine KO.loudN rfl (l_store1 ck_25 rfl rfl rfl (by repeat (first | exact Pick.here | apply Pick.there)) (by repeat (first | exact SetAt.here | apply SetAt.there))) ?_
    rintro _ _ ⟨rfl, rfl⟩
    refine KO.done ?_
    repeat (first | refine K.seq ?_ | refine K.skip ?_ | refine K.block ?_ | refine K.inBlock ?_ | refine K.label ?_)
    refine K.fin (fn := Try.f40) Try.func40 (fun a w hk hs => res0 Try.results40) (fun w hs => ?_)
    exact ⟨_, WfL p q' cap' (xs ++ wFlag false), rfl, ⟨q', cap', rfl, rfl⟩, hs.fitD⟩
  · refine Fn.enter (N := 16) Try.func40 rfl Try.ntmps40 (by kernel_rfl) rfl (fun ρ L => ?_)
    repeat (first | refine K.seq ?_ | refine K.skip ?_ | refine K.block ?_ | refine K.inBlock ?_ | refine K.label ?_)
    refine K.region ?_
    refine KO.q rfl (q_assign rfl) ?_
    refine KO.done ?_
    repeat (first | refine K.seq ?_ | refine K.skip ?_ | refine K.block ?_ | refine K.inBlock ?_ | refine K.label ?_)
    repeat (first | refine K.seq ?_ | refine K.skip ?_ | refine K.block ?_ | refine K.inBlock ?_ | refine K.label ?_)
    refine K.region ?_
    refine KO.q rfl (q_move rfl) ?_
    refine KO.done ?_
    repeat (first | refine K.seq ?_ | refine K.skip ?_ | refine K.block ?_ | refine K.inBlock ?_ | refine K.label ?_)
    refine K.yes rfl ?_
    repeat (first | refine K.seq ?_ | refine K.skip ?_ | refine K.block ?_ | refine K.inBlock ?_ | refine K.label ?_)
    refine K.region ?_
    refine KO.q rfl (q_assign rfl) ?_
    refine KO.done ?_
    repeat (first | refine K.seq ?_ | refine K.skip ?_ | refine K.block ?_ | refine K.inBlock ?_ | refine K.label ?_)
    repeat (first | refine K.seq ?_ | refine K.skip ?_ | refine K.block ?_ | refine K.inBlock ?_ | refine K.label ?_)
    refine K.region ?_
    refine KO.q rfl (q_move rfl) ?_
    refine KO.q rfl (q_move rfl) ?_
    refine KO.q rfl (q_nilCheck rfl) ?_
    refine KO.q rfl (q_field fo_52_0 rfl) ?_
    refine KO.q rfl (q_load1D ck_25 rfl) ?_
    refine KO.q rfl (q_move rfl) ?_
    refine KO.loud rfl (l_slice sz_25_1 rfl (by repeat (first | exact Fill.nil | (apply Fill.cons; rfl; rfl; rfl) | exact SetN.nil | apply SetN.cons | exact SetAt.here | apply SetAt.there))) ?_
    rintro _ _ ⟨b19, rfl, rfl⟩
    refine KO.st (fun w h => pv_rowF1 (k := Kd.u8) (1 : UInt8) (fun g => rfl) h) ?_
    refine KO.loud rfl (l_append Kd.u8 se_25 Try.underlying25 ⟨_, ze_5, rfl⟩ (by decide) rfl rfl (by repeat (first | exact Pick.here | apply Pick.there)) isF (List.Mem.head _) rfl rfl (by simp; omega)) ?_
    rintro _ _ ⟨q', cap', rfl, rfl⟩
    refine KO.q rfl (q_nilCheck rfl) ?_
    refine KO.q rfl (q_field fo_52_0 rfl) ?_
    refine KO.loudN rfl (l_store1 ck_25 rfl rfl rfl (by repeat (first | exact Pick.here | apply Pick.there)) (by repeat (first | exact SetAt.here | apply SetAt.there))) ?_
    rintro _ _ ⟨rfl, rfl⟩
    refine KO.done ?_
    repeat (first | refine K.seq ?_ | refine K.skip ?_ | refine K.block ?_ | refine K.inBlock ?_ | refine K.label ?_)
    refine K.fin (fn := Try.f40) Try.func40 (fun a w hk hs => res0 Try.results40) (fun w hs => ?_)
    exact ⟨_, WfL p q' cap' (xs ++ wFlag true), rfl, ⟨q', cap', rfl, rfl⟩, hs.fitD⟩
theorem wf_Text (p : Nat) (q : Option Addr) (cap : Nat) (xs : List UInt8) (s : ByteArray) (hb : xs.length ≤ 549755813888) (hz : s.size ≤ 65535) : Fn Try.prog 38 [.pointer (some ⟨p, 0, none⟩), .string s].toArray (WfL p q cap xs)
    (fun r post => ∃ q' cap', r = .tuple #[] ∧ post = WfL p q' cap' (xs ++ wText s)) := by
  have hbw0 := byte_wrap (s.size : Int) 0 (by omega) (by omega)
  have hbw1 := byte_wrap (s.size : Int) 1 (by omega) (by omega)
  have hab := and_byteI (s.size : Int) (by omega) (by omega)
  have h0 : IntKind.u8.wrap (s.size : Int) = ((byteAt (s.size : Int) 0).toNat : Int) := by rw [byteAt_toNat, wrap_u8_mod]; simp
  have e : xs ++ [byteAt (s.size : Int) 0, byteAt (s.size : Int) 1] ++ bytesOf s = xs ++ wText s := by
    unfold wText
    rw [Nat.min_eq_left hz, List.take_of_length_le (by rw [bytesOf_length]; exact hz), List.append_assoc]
    rfl
  refine Fn.enter (N := 35) Try.func38 rfl Try.ntmps38 (by kernel_rfl) rfl (fun ρ L => ?_)
  repeat (first | refine K.seq ?_ | refine K.skip ?_ | refine K.block ?_ | refine K.inBlock ?_ | refine K.label ?_)
  refine K.region ?_
  refine KO.q rfl (q_move rfl) ?_
  refine KO.q rfl (q_lenS Try.underlying9 rfl) ?_
  refine KO.q rfl (q_gt rfl rfl) ?_
  refine KO.done ?_
  repeat (first | refine K.seq ?_ | refine K.skip ?_ | refine K.block ?_ | refine K.inBlock ?_ | refine K.label ?_)
  refine K.dite rfl (fun h => absurd h (by omega)) (fun _ => ?_)
  repeat (first | refine K.seq ?_ | refine K.skip ?_ | refine K.block ?_ | refine K.inBlock ?_ | refine K.label ?_)
  repeat (first | refine K.seq ?_ | refine K.skip ?_ | refine K.block ?_ | refine K.inBlock ?_ | refine K.label ?_)
  refine K.region ?_
  refine KO.q rfl (q_move rfl) ?_
  refine KO.q rfl (q_move rfl) ?_
  refine KO.q rfl (q_nilCheck rfl) ?_
  refine KO.q rfl (q_field fo_52_0 rfl) ?_
  refine KO.q rfl (q_load1D ck_25 rfl) ?_
  refine KO.q rfl (q_move rfl) ?_
  refine KO.q rfl (q_lenS Try.underlying9 rfl) ?_
  refine KO.q rfl (q_and rfl rfl) ?_
  refine KO.q rfl (q_convw Try.underlying5 (by rw [Try.underlying3]; rfl) rfl) ?_
  refine KO.q rfl (q_move rfl) ?_
  refine KO.q rfl (q_lenS Try.underlying9 rfl) ?_
  refine KO.q rfl (q_shr rfl rfl (by first | omega | (simp; omega))) ?_
  refine KO.q rfl (q_convw Try.underlying5 (by rw [Try.underlying3]; rfl) rfl) ?_
  refine KO.loud rfl (l_slice sz_25_2 rfl (by repeat (first | exact Fill.nil | (apply Fill.cons; rfl; rfl; rfl) | exact SetN.nil | apply SetN.cons | exact SetAt.here | apply SetAt.there))) ?_
  rintro _ _ ⟨b22, rfl, rfl⟩
  refine KO.st (fun w h => pv_rowU [byteAt (s.size : Int) 0, byteAt (s.size : Int) 1] (show [Value.int .u8 _, Value.int .u8 _] = [Value.int .u8 _, Value.int .u8 _] from congr (congrArg List.cons (congrArg (Value.int .u8) (hab.trans h0))) (congrArg (fun z => [Value.int .u8 z]) hbw1)) h) ?_
  refine KO.loud rfl (l_append Kd.u8 se_25 Try.underlying25 ⟨_, ze_5, rfl⟩ (by decide) rfl rfl (by repeat (first | exact Pick.here | apply Pick.there)) isF (List.Mem.head _) rfl rfl (by simp; omega)) ?_
  rintro _ _ ⟨q', cap', rfl, rfl⟩
  refine KO.q rfl (q_nilCheck rfl) ?_
  refine KO.q rfl (q_field fo_52_0 rfl) ?_
  refine KO.loudN rfl (l_store1 ck_25 rfl rfl rfl (by repeat (first | exact Pick.here | apply Pick.there)) (by repeat (first | exact SetAt.here | apply SetAt.there))) ?_
  rintro _ _ ⟨rfl, rfl⟩
  refine KO.done ?_
  repeat (first | refine K.seq ?_ | refine K.skip ?_ | refine K.block ?_ | refine K.inBlock ?_ | refine K.label ?_)
  repeat (first | refine K.seq ?_ | refine K.skip ?_ | refine K.block ?_ | refine K.inBlock ?_ | refine K.label ?_)
  refine K.region ?_
  refine KO.q rfl (q_move rfl) ?_
  refine KO.q rfl (q_move rfl) ?_
  refine KO.q rfl (q_nilCheck rfl) ?_
  refine KO.q rfl (q_field fo_52_0 rfl) ?_
  refine KO.q rfl (q_load1D ck_25 rfl) ?_
  refine KO.q rfl (q_move rfl) ?_
  refine KO.loud rfl (l_appendS se_25 Try.underlying9 ⟨_, ze_5, rfl⟩ (by decide) rfl rfl (by repeat (first | exact Pick.here | apply Pick.there)) rfl (by simp; omega)) ?_
  rintro _ _ ⟨q'', cap'', rfl, rfl⟩
  refine KO.q rfl (q_nilCheck rfl) ?_
  refine KO.q rfl (q_field fo_52_0 rfl) ?_
  refine KO.loudN rfl (l_store1 ck_25 rfl rfl rfl (by repeat (first | exact Pick.here | apply Pick.there)) (by repeat (first | exact SetAt.here | apply SetAt.there))) ?_
  rintro _ _ ⟨rfl, rfl⟩
  refine KO.done ?_
  repeat (first | refine K.seq ?_ | refine K.skip ?_ | refine K.block ?_ | refine K.inBlock ?_ | refine K.label ?_)
  rw [e]
  refine K.fin (fn := Try.f38) Try.func38 (fun a w hk hs => res0 Try.results38) (fun w hs => ?_)
  exact ⟨_, WfL p q'' cap'' (xs ++ wText s), rfl, ⟨q'', cap'', rfl, rfl⟩, hs.fitD⟩
end Go.Proofs.Ytlellgnklohclaa.L
