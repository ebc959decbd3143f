/- Walks: the reader of package bytes. -/
import Derived.Test.YtlellgnklohclaaTab
import Derived.Test.YtlellgnklohclaaBytes
namespace Go.Proofs.Ytlellgnklohclaa.L
open Go Go.Proofs
attribute [local irreducible] pv fv pt fz RowF RowO rowP old pure_
set_option maxRecDepth 100000
set_option linter.unusedSimpArgs false
set_option linter.unusedVariables false

abbrev RdL (p : Nat) (q : Option Addr) (cap : Nat) (s : Rd) : List HP := [pv p 90 [.slice q s.bs.length cap, .bool s.f], RowF Kd.u8 q s.bs]
theorem rd_fail (p : Nat) (v u : Value) : Fn Try.prog 71 [.pointer (some ⟨p, 0, none⟩)].toArray [pv p 90 [v, u]] (fun r post => r = .tuple #[] ∧ post = [pv p 90 [.slice none 0 0, .bool true]]) := by
  refine Fn.enter (N := 8) Try.func71 rfl Try.ntmps71 (by kernel_rfl) rfl (fun ρ L => ?_)
  repeat (first | refine K.seq ?_ | refine K.skip ?_ | refine K.block ?_ | refine K.inBlock ?_ | refine K.label ?_)
  refine K.region ?_
  refine KO.q rfl (q_move rfl) ?_
  refine KO.q rfl (q_move rfl) ?_
  refine KO.q rfl (q_nilCheck rfl) ?_
  refine KO.q rfl (q_field fo_90_0 rfl) ?_
  refine KO.loudN rfl (l_store1 ck_25 rfl rfl rfl (by repeat (first | exact Pick.here | apply Pick.there)) (by repeat (first | exact SetAt.here | apply SetAt.there))) ?_
  rintro _ _ ⟨rfl, rfl⟩
  refine KO.q rfl (q_nilCheck rfl) ?_
  refine KO.q rfl (q_field fo_90_1 rfl) ?_
  refine KO.loudN rfl (l_store1 ck_4 rfl rfl rfl (by repeat (first | exact Pick.here | apply Pick.there)) (by repeat (first | exact SetAt.here | apply SetAt.there))) ?_
  rintro _ _ ⟨rfl, rfl⟩
  refine KO.done ?_
  repeat (first | refine K.seq ?_ | refine K.skip ?_ | refine K.block ?_ | refine K.inBlock ?_ | refine K.label ?_)
  refine K.fin (fn := Try.f71) Try.func71 (fun a w hk hs => res0 Try.results71) (fun w hs => ?_)
  exact ⟨_, [_], rfl, ⟨rfl, rfl⟩, hs⟩
theorem rd_take_failed (p : Nat) (q : Option Addr) (cap : Nat) (s : Rd) (n : Int) (hf : s.f = true) : Fn Try.prog 66 [.pointer (some ⟨p, 0, none⟩), .int .i64 n].toArray (RdL p q cap s) (fun r post => r = .tuple #[.slice none 0 0, .bool false] ∧ post = RdL p q cap s) := by
  obtain ⟨bs, f⟩ := s
  obtain rfl : f = true := hf
  refine Fn.enter (N := 40) Try.func66 rfl Try.ntmps66 (by kernel_rfl) rfl (fun ρ L => ?_)
  repeat (first | refine K.seq ?_ | refine K.skip ?_ | refine K.block ?_ | refine K.inBlock ?_ | refine K.label ?_)
  refine K.region ?_
  refine KO.q rfl (q_assign rfl) ?_
  refine KO.q rfl (q_assign rfl) ?_
  refine KO.done ?_
  repeat (first | refine K.seq ?_ | refine K.skip ?_ | refine K.block ?_ | refine K.inBlock ?_ | refine K.label ?_)
  repeat (first | refine K.seq ?_ | refine K.skip ?_ | refine K.block ?_ | refine K.inBlock ?_ | refine K.label ?_)
  refine K.region ?_
  refine KO.q rfl (q_move rfl) ?_
  refine KO.q rfl (q_pnil Try.underlying38 rfl rfl) ?_
  refine KO.q rfl (q_move rfl) ?_
  refine KO.q rfl (q_move rfl) ?_
  refine KO.q rfl (q_nilCheck rfl) ?_
  refine KO.q rfl (q_field fo_90_1 rfl) ?_
  refine KO.q rfl (q_load1 ck_4 rfl (by first | (apply cell_pv; (repeat (first | exact List.Mem.head _ | apply List.Mem.tail)); rfl) | (apply cell_fv; (repeat (first | exact List.Mem.head _ | apply List.Mem.tail)); rfl) | (apply rowF_cellU; (repeat (first | exact List.Mem.head _ | apply List.Mem.tail)); assumption) | (apply itm_cell; (repeat (first | exact List.Mem.head _ | apply List.Mem.tail)); assumption; rfl))) ?_
  refine KO.q rfl (q_pickF rfl rfl) ?_
  refine KO.done ?_
  repeat (first | refine K.seq ?_ | refine K.skip ?_ | refine K.block ?_ | refine K.inBlock ?_ | refine K.label ?_)
  refine K.yes rfl ?_
  repeat (first | refine K.seq ?_ | refine K.skip ?_ | refine K.block ?_ | refine K.inBlock ?_ | refine K.label ?_)
  refine K.region ?_
  refine KO.q rfl (q_assign rfl) ?_
  refine KO.q rfl (q_assign rfl) ?_
  refine KO.done ?_
  repeat (first | refine K.seq ?_ | refine K.skip ?_ | refine K.block ?_ | refine K.inBlock ?_ | refine K.label ?_)
  refine K.ret (fn := Try.f66) Try.func66 (fun a w hk hs => res2 Try.results66 hk rfl rfl) (fun w hs => ?_)
  exact ⟨_, _, rfl, ⟨rfl, rfl⟩, hs⟩
theorem rd_take_short (p : Nat) (q : Option Addr) (cap : Nat) (s : Rd) (n : Int) (hf : s.f = false) (hl : (s.bs.length : Int) < n) : Fn Try.prog 66 [.pointer (some ⟨p, 0, none⟩), .int .i64 n].toArray (RdL p q cap s) (fun r post => r = .tuple #[.slice none 0 0, .bool false] ∧ post = RdL p none 0 ⟨[], true⟩) := by
  obtain ⟨bs, f⟩ := s
  obtain rfl : f = false := hf
  replace hl : (bs.length : Int) < n := hl
  refine Fn.enter (N := 40) Try.func66 rfl Try.ntmps66 (by kernel_rfl) rfl (fun ρ L => ?_)
  repeat (first | refine K.seq ?_ | refine K.skip ?_ | refine K.block ?_ | refine K.inBlock ?_ | refine K.label ?_)
  refine K.region ?_
  refine KO.q rfl (q_assign rfl) ?_
  refine KO.q rfl (q_assign rfl) ?_
  refine KO.done ?_
  repeat (first | refine K.seq ?_ | refine K.skip ?_ | refine K.block ?_ | refine K.inBlock ?_ | refine K.label ?_)
  repeat (first | refine K.seq ?_ | refine K.skip ?_ | refine K.block ?_ | refine K.inBlock ?_ | refine K.label ?_)
  refine K.region ?_
  refine KO.q rfl (q_move rfl) ?_
  refine KO.q rfl (q_pnil Try.underlying38 rfl rfl) ?_
  refine KO.q rfl (q_move rfl) ?_
  refine KO.q rfl (q_move rfl) ?_
  refine KO.q rfl (q_nilCheck rfl) ?_
  refine KO.q rfl (q_field fo_90_1 rfl) ?_
  refine KO.q rfl (q_load1 ck_4 rfl (by first | (apply cell_pv; (repeat (first | exact List.Mem.head _ | apply List.Mem.tail)); rfl) | (apply cell_fv; (repeat (first | exact List.Mem.head _ | apply List.Mem.tail)); rfl) | (apply rowF_cellU; (repeat (first | exact List.Mem.head _ | apply List.Mem.tail)); assumption) | (apply itm_cell; (repeat (first | exact List.Mem.head _ | apply List.Mem.tail)); assumption; rfl))) ?_
  refine KO.q rfl (q_pickF rfl rfl) ?_
  refine KO.done ?_
  repeat (first | refine K.seq ?_ | refine K.skip ?_ | refine K.block ?_ | refine K.inBlock ?_ | refine K.label ?_)
  refine K.no rfl ?_
  repeat (first | refine K.seq ?_ | refine K.skip ?_ | refine K.block ?_ | refine K.inBlock ?_ | refine K.label ?_)
  refine K.region ?_
  refine KO.q rfl (q_move rfl) ?_
  refine KO.q rfl (q_nilCheck rfl) ?_
  refine KO.q rfl (q_field fo_90_0 rfl) ?_
  refine KO.q rfl (q_load1 ck_25 rfl (by first | (apply cell_pv; (repeat (first | exact List.Mem.head _ | apply List.Mem.tail)); rfl) | (apply cell_fv; (repeat (first | exact List.Mem.head _ | apply List.Mem.tail)); rfl) | (apply rowF_cellU; (repeat (first | exact List.Mem.head _ | apply List.Mem.tail)); assumption) | (apply itm_cell; (repeat (first | exact List.Mem.head _ | apply List.Mem.tail)); assumption; rfl))) ?_
  refine KO.q rfl (q_len Try.underlying25 rfl) ?_
  refine KO.q rfl (q_move rfl) ?_
  refine KO.q rfl (q_lt rfl rfl) ?_
  refine KO.done ?_
  repeat (first | refine K.seq ?_ | refine K.skip ?_ | refine K.block ?_ | refine K.inBlock ?_ | refine K.label ?_)
  refine K.dite rfl (fun _ => ?_) (fun h => absurd hl h)
  repeat (first | refine K.seq ?_ | refine K.skip ?_ | refine K.block ?_ | refine K.inBlock ?_ | refine K.label ?_)
  refine K.region ?_
  refine KO.q rfl (q_move rfl) ?_
  refine KO.loud rfl (OpL.call rfl (rd_fail p _ _) (by repeat (first | exact Give.nil | (apply Give.perI; (repeat (first | exact List.Mem.head _ | apply List.Mem.tail))) | (apply Give.own; (repeat (first | exact Pick.here | apply Pick.there)))))) ?_
  rintro _ _ ⟨_, ⟨rfl, rfl⟩, rfl⟩
  refine KO.done ?_
  repeat (first | refine K.seq ?_ | refine K.skip ?_ | refine K.block ?_ | refine K.inBlock ?_ | refine K.label ?_)
  repeat (first | refine K.seq ?_ | refine K.skip ?_ | refine K.block ?_ | refine K.inBlock ?_ | refine K.label ?_)
  refine K.region ?_
  refine KO.q rfl (q_assign rfl) ?_
  refine KO.q rfl (q_assign rfl) ?_
  refine KO.done ?_
  repeat (first | refine K.seq ?_ | refine K.skip ?_ | refine K.block ?_ | refine K.inBlock ?_ | refine K.label ?_)
  refine K.ret (fn := Try.f66) Try.func66 (fun a w hk hs => res2 Try.results66 hk rfl rfl) (fun w hs => ?_)
  exact ⟨_, RdL p none 0 ⟨[], true⟩, rfl, ⟨rfl, rfl⟩, (rowF_nil (k := Kd.u8) none hs).fit (by repeat (first | exact Give.nil | (apply Give.perI; (repeat (first | exact List.Mem.head _ | apply List.Mem.tail))) | (apply Give.own; (repeat (first | exact Pick.here | apply Pick.there))))) (by repeat (first | exact Drop.refl | apply Drop.skip))⟩
theorem rd_take_ok (p : Nat) (q : Option Addr) (cap : Nat) (s : Rd) (n : Int) (hf : s.f = false) (h0 : 0 ≤ n) (hl : n ≤ s.bs.length) (hc : s.bs.length ≤ cap) : Fn Try.prog 66 [.pointer (some ⟨p, 0, none⟩), .int .i64 n].toArray (RdL p q cap s)
    (fun r post => r = .tuple #[.slice q n.toNat cap, .bool true] ∧ post = RowF Kd.u8 q (s.bs.take n.toNat) :: RdL p (cutAddr q cap n.toNat 1) (cap - n.toNat) ⟨s.bs.drop n.toNat, false⟩) := by
  obtain ⟨bs, f⟩ := s
  obtain rfl : f = false := hf
  replace hl : n ≤ bs.length := hl
  replace hc : bs.length ≤ cap := hc
  refine Fn.enter (N := 40) Try.func66 rfl Try.ntmps66 (by kernel_rfl) rfl (fun ρ L => ?_)
  repeat (first | refine K.seq ?_ | refine K.skip ?_ | refine K.block ?_ | refine K.inBlock ?_ | refine K.label ?_)
  refine K.region ?_
  refine KO.q rfl (q_assign rfl) ?_
  refine KO.q rfl (q_assign rfl) ?_
  refine KO.done ?_
  repeat (first | refine K.seq ?_ | refine K.skip ?_ | refine K.block ?_ | refine K.inBlock ?_ | refine K.label ?_)
  repeat (first | refine K.seq ?_ | refine K.skip ?_ | refine K.block ?_ | refine K.inBlock ?_ | refine K.label ?_)
  refine K.region ?_
  refine KO.q rfl (q_move rfl) ?_
  refine KO.q rfl (q_pnil Try.underlying38 rfl rfl) ?_
  refine KO.q rfl (q_move rfl) ?_
  refine KO.q rfl (q_move rfl) ?_
  refine KO.q rfl (q_nilCheck rfl) ?_
  refine KO.q rfl (q_field fo_90_1 rfl) ?_
  refine KO.q rfl (q_load1 ck_4 rfl (by first | (apply cell_pv; (repeat (first | exact List.Mem.head _ | apply List.Mem.tail)); rfl) | (apply cell_fv; (repeat (first | exact List.Mem.head _ | apply List.Mem.tail)); rfl) | (apply rowF_cellU; (repeat (first | exact List.Mem.head _ | apply List.Mem.tail)); assumption) | (apply itm_cell; (repeat (first | exact List.Mem.head _ | apply List.Mem.tail)); assumption; rfl))) ?_
  refine KO.q rfl (q_pickF rfl rfl) ?_
  refine KO.done ?_
  repeat (first | refine K.seq ?_ | refine K.skip ?_ | refine K.block ?_ | refine K.inBlock ?_ | refine K.label ?_)
  refine K.no rfl ?_
  repeat (first | refine K.seq ?_ | refine K.skip ?_ | refine K.block ?_ | refine K.inBlock ?_ | refine K.label ?_)
  refine K.region ?_
  refine KO.q rfl (q_move rfl) ?_
  refine KO.q rfl (q_nilCheck rfl) ?_
  refine KO.q rfl (q_field fo_90_0 rfl) ?_
  refine KO.q rfl (q_load1 ck_25 rfl (by first | (apply cell_pv; (repeat (first | exact List.Mem.head _ | apply List.Mem.tail)); rfl) | (apply cell_fv; (repeat (first | exact List.Mem.head _ | apply List.Mem.tail)); rfl) | (apply rowF_cellU; (repeat (first | exact List.Mem.head _ | apply List.Mem.tail)); assumption) | (apply itm_cell; (repeat (first | exact List.Mem.head _ | apply List.Mem.tail)); assumption; rfl))) ?_
  refine KO.q rfl (q_len Try.underlying25 rfl) ?_
  refine KO.q rfl (q_move rfl) ?_
  refine KO.q rfl (q_lt rfl rfl) ?_
  refine KO.done ?_
  repeat (first | refine K.seq ?_ | refine K.skip ?_ | refine K.block ?_ | refine K.inBlock ?_ | refine K.label ?_)
  refine K.dite rfl (fun h => absurd h (by show ¬ (bs.length : Int) < n; omega)) (fun _ => ?_)
  repeat (first | refine K.seq ?_ | refine K.skip ?_ | refine K.block ?_ | refine K.inBlock ?_ | refine K.label ?_)
  refine K.st (fun w h => rowF_take n.toNat (List.Mem.tail _ (List.Mem.head _)) h) ?_
  refine K.st (fun w h => rowF_cut (cap := cap) n.toNat hc (List.Mem.tail _ (List.Mem.tail _ (List.Mem.head _))) h) ?_
  repeat (first | refine K.seq ?_ | refine K.skip ?_ | refine K.block ?_ | refine K.inBlock ?_ | refine K.label ?_)
  refine K.region ?_
  refine KO.q rfl (q_move rfl) ?_
  refine KO.q rfl (q_nilCheck rfl) ?_
  refine KO.q rfl (q_field fo_90_0 rfl) ?_
  refine KO.q rfl (q_load1 ck_25 rfl (by first | (apply cell_pv; (repeat (first | exact List.Mem.head _ | apply List.Mem.tail)); rfl) | (apply cell_fv; (repeat (first | exact List.Mem.head _ | apply List.Mem.tail)); rfl) | (apply rowF_cellU; (repeat (first | exact List.Mem.head _ | apply List.Mem.tail)); assumption) | (apply itm_cell; (repeat (first | exact List.Mem.head _ | apply List.Mem.tail)); assumption; rfl))) ?_
  refine KO.q rfl (q_move rfl) ?_
  refine KO.q rfl (q_cutH se_25 rfl rfl (by first | omega | (simp; omega)) (by first | omega | (simp; omega))) ?_
  refine KO.q rfl (q_assign rfl) ?_
  refine KO.done ?_
  repeat (first | refine K.seq ?_ | refine K.skip ?_ | refine K.block ?_ | refine K.inBlock ?_ | refine K.label ?_)
  repeat (first | refine K.seq ?_ | refine K.skip ?_ | refine K.block ?_ | refine K.inBlock ?_ | refine K.label ?_)
  refine K.region ?_
  refine KO.q rfl (q_move rfl) ?_
  refine KO.q rfl (q_move rfl) ?_
  refine KO.q rfl (q_nilCheck rfl) ?_
  refine KO.q rfl (q_field fo_90_0 rfl) ?_
  refine KO.q rfl (q_load1 ck_25 rfl (by first | (apply cell_pv; (repeat (first | exact List.Mem.head _ | apply List.Mem.tail)); rfl) | (apply cell_fv; (repeat (first | exact List.Mem.head _ | apply List.Mem.tail)); rfl) | (apply rowF_cellU; (repeat (first | exact List.Mem.head _ | apply List.Mem.tail)); assumption) | (apply itm_cell; (repeat (first | exact List.Mem.head _ | apply List.Mem.tail)); assumption; rfl))) ?_
  refine KO.q rfl (q_move rfl) ?_
  refine KO.q rfl (q_cutL se_25 rfl rfl (by first | omega | (simp; omega)) (by first | omega | (simp; omega)) (by first | omega | (simp; omega))) ?_
  refine KO.q rfl (q_nilCheck rfl) ?_
  refine KO.q rfl (q_field fo_90_0 rfl) ?_
  refine KO.loudN rfl (l_store1 ck_25 rfl rfl rfl (by repeat (first | exact Pick.here | apply Pick.there)) (by repeat (first | exact SetAt.here | apply SetAt.there))) ?_
  rintro _ _ ⟨rfl, rfl⟩
  refine KO.done ?_
  repeat (first | refine K.seq ?_ | refine K.skip ?_ | refine K.block ?_ | refine K.inBlock ?_ | refine K.label ?_)
  repeat (first | refine K.seq ?_ | refine K.skip ?_ | refine K.block ?_ | refine K.inBlock ?_ | refine K.label ?_)
  refine K.region ?_
  refine KO.q rfl (q_move rfl) ?_
  refine KO.q rfl (q_assign rfl) ?_
  refine KO.q rfl (q_assign rfl) ?_
  refine KO.done ?_
  repeat (first | refine K.seq ?_ | refine K.skip ?_ | refine K.block ?_ | refine K.inBlock ?_ | refine K.label ?_)
  refine K.ret (fn := Try.f66) Try.func66 (fun a w hk hs => res2 Try.results66 hk rfl rfl) (fun w hs => ?_)
  have e : (Rd.mk bs false).bs.length - n.toNat = (bs.drop n.toNat).length := by simp
  rw [e] at hs
  refine ⟨_, RowF Kd.u8 q (bs.take n.toNat) :: RdL p (cutAddr q cap n.toNat 1) (cap - n.toNat) ⟨bs.drop n.toNat, false⟩, rfl, ⟨rfl, rfl⟩, ?_⟩
  exact hs.fit (by repeat (first | exact Give.nil | (apply Give.perI; (repeat (first | exact List.Mem.head _ | apply List.Mem.tail))) | (apply Give.own; (repeat (first | exact Pick.here | apply Pick.there))))) (by repeat (first | exact Drop.refl | apply Drop.skip))
end Go.Proofs.Ytlellgnklohclaa.L
