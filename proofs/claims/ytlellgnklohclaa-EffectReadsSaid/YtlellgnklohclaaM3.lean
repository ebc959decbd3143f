/- Walks: the bytes of a message, and what is read of bytes. -/
import Derived.Test.YtlellgnklohclaaM1
namespace Go.Proofs.Ytlellgnklohclaa.L
open Go Go.Proofs
attribute [local irreducible] pv fv pt fz RowF RowO rowP old pure_
set_option maxRecDepth 100000
set_option linter.unusedSimpArgs false
set_option linter.unusedVariables false

def Msg.bytes (m : Msg) : List UInt8 := wInt m.id ++ wInt m.pri ++ wInt m.retry ++ wFlag m.claimed ++ wText m.corr ++ wText m.body
def Msg.zero : Msg := ⟨0, 0, 0, false, ⟨#[]⟩, ⟨#[]⟩⟩
theorem msg_Write (p : Nat) (q : Option Addr) (cap : Nat) (xs : List UInt8) (m : Msg) (hb : xs.length ≤ 137438953472) (h1 : m.corr.size ≤ 140737488355328) (h2 : m.body.size ≤ 140737488355328) : Fn Try.prog 62 [.pointer (some ⟨p, 0, none⟩), .agg m.cells.toArray].toArray (WrL p q cap xs)
    (fun r post => ∃ q' cap', r = .tuple #[] ∧ post = WrL p q' cap' (xs ++ m.bytes)) := by
  obtain ⟨id, pri, retry, claimed, corr, body⟩ := m
  have l1 := wInt_length id
  have l2 := wInt_length pri
  have l3 := wInt_length retry
  have l4 := wFlag_length claimed
  have l5 := wText_length corr
  refine Fn.enter (N := 28) Try.func62 rfl Try.ntmps62 (by kernel_rfl) rfl (fun ρ L => ?_)
  repeat (first | refine K.seq ?_ | refine K.skip ?_ | refine K.block ?_ | refine K.inBlock ?_ | refine K.label ?_)
  refine K.region ?_
  refine KO.loud rfl (l_box rfl rfl) ?_
  rintro _ _ ⟨b3, rfl, rfl⟩
  refine KO.done ?_
  repeat (first | refine K.seq ?_ | refine K.skip ?_ | refine K.block ?_ | refine K.inBlock ?_ | refine K.label ?_)
  repeat (first | refine K.seq ?_ | refine K.skip ?_ | refine K.block ?_ | refine K.inBlock ?_ | refine K.label ?_)
  refine K.region ?_
  refine KO.q rfl (q_move rfl) ?_
  refine KO.q rfl (q_field fo_24_0 rfl) ?_
  refine KO.q rfl (q_load1 ck_3 rfl (by first | (apply cell_pv; (repeat (first | exact List.Mem.head _ | apply List.Mem.tail)); rfl) | (apply cell_fv; (repeat (first | exact List.Mem.head _ | apply List.Mem.tail)); rfl) | (apply rowF_cellU; (repeat (first | exact List.Mem.head _ | apply List.Mem.tail)); assumption) | (apply itm_cell; (repeat (first | exact List.Mem.head _ | apply List.Mem.tail)); assumption; rfl))) ?_
  refine KO.loud rfl (OpL.call rfl (wr_Int p q cap xs id (by omega)) (by repeat (first | exact Give.nil | (apply Give.perI; (repeat (first | exact List.Mem.head _ | apply List.Mem.tail))) | (apply Give.own; (repeat (first | exact Pick.here | apply Pick.there)))))) ?_
  rintro _ _ ⟨_, ⟨q1, c1, rfl, rfl⟩, rfl⟩
  refine KO.done ?_
  repeat (first | refine K.seq ?_ | refine K.skip ?_ | refine K.block ?_ | refine K.inBlock ?_ | refine K.label ?_)
  repeat (first | refine K.seq ?_ | refine K.skip ?_ | refine K.block ?_ | refine K.inBlock ?_ | refine K.label ?_)
  refine K.region ?_
  refine KO.q rfl (q_move rfl) ?_
  refine KO.q rfl (q_field fo_24_1 rfl) ?_
  refine KO.q rfl (q_load1 ck_3 rfl (by first | (apply cell_pv; (repeat (first | exact List.Mem.head _ | apply List.Mem.tail)); rfl) | (apply cell_fv; (repeat (first | exact List.Mem.head _ | apply List.Mem.tail)); rfl) | (apply rowF_cellU; (repeat (first | exact List.Mem.head _ | apply List.Mem.tail)); assumption) | (apply itm_cell; (repeat (first | exact List.Mem.head _ | apply List.Mem.tail)); assumption; rfl))) ?_
  refine KO.loud rfl (OpL.call rfl (wr_Int p q1 c1 (xs ++ wInt id) pri (by simp; omega)) (by repeat (first | exact Give.nil | (apply Give.perI; (repeat (first | exact List.Mem.head _ | apply List.Mem.tail))) | (apply Give.own; (repeat (first | exact Pick.here | apply Pick.there)))))) ?_
  rintro _ _ ⟨_, ⟨q2, c2, rfl, rfl⟩, rfl⟩
  refine KO.done ?_
  repeat (first | refine K.seq ?_ | refine K.skip ?_ | refine K.block ?_ | refine K.inBlock ?_ | refine K.label ?_)
  repeat (first | refine K.seq ?_ | refine K.skip ?_ | refine K.block ?_ | refine K.inBlock ?_ | refine K.label ?_)
  refine K.region ?_
  refine KO.q rfl (q_move rfl) ?_
  refine KO.q rfl (q_field fo_24_2 rfl) ?_
  refine KO.q rfl (q_load1 ck_3 rfl (by first | (apply cell_pv; (repeat (first | exact List.Mem.head _ | apply List.Mem.tail)); rfl) | (apply cell_fv; (repeat (first | exact List.Mem.head _ | apply List.Mem.tail)); rfl) | (apply rowF_cellU; (repeat (first | exact List.Mem.head _ | apply List.Mem.tail)); assumption) | (apply itm_cell; (repeat (first | exact List.Mem.head _ | apply List.Mem.tail)); assumption; rfl))) ?_
  refine KO.loud rfl (OpL.call rfl (wr_Int p q2 c2 (xs ++ wInt id ++ wInt pri) retry (by simp; omega)) (by repeat (first | exact Give.nil | (apply Give.perI; (repeat (first | exact List.Mem.head _ | apply List.Mem.tail))) | (apply Give.own; (repeat (first | exact Pick.here | apply Pick.there)))))) ?_
  rintro _ _ ⟨_, ⟨q3, c3, rfl, rfl⟩, rfl⟩
  refine KO.done ?_
  repeat (first | refine K.seq ?_ | refine K.skip ?_ | refine K.block ?_ | refine K.inBlock ?_ | refine K.label ?_)
  repeat (first | refine K.seq ?_ | refine K.skip ?_ | refine K.block ?_ | refine K.inBlock ?_ | refine K.label ?_)
  refine K.region ?_
  refine KO.q rfl (q_move rfl) ?_
  refine KO.q rfl (q_field fo_24_3 rfl) ?_
  refine KO.q rfl (q_load1 ck_4 rfl (by first | (apply cell_pv; (repeat (first | exact List.Mem.head _ | apply List.Mem.tail)); rfl) | (apply cell_fv; (repeat (first | exact List.Mem.head _ | apply List.Mem.tail)); rfl) | (apply rowF_cellU; (repeat (first | exact List.Mem.head _ | apply List.Mem.tail)); assumption) | (apply itm_cell; (repeat (first | exact List.Mem.head _ | apply List.Mem.tail)); assumption; rfl))) ?_
  refine KO.loud rfl (OpL.call rfl (wr_Flag p q3 c3 (xs ++ wInt id ++ wInt pri ++ wInt retry) claimed (by simp; omega)) (by repeat (first | exact Give.nil | (apply Give.perI; (repeat (first | exact List.Mem.head _ | apply List.Mem.tail))) | (apply Give.own; (repeat (first | exact Pick.here | apply Pick.there)))))) ?_
  rintro _ _ ⟨_, ⟨q4, c4, rfl, rfl⟩, rfl⟩
  refine KO.done ?_
  repeat (first | refine K.seq ?_ | refine K.skip ?_ | refine K.block ?_ | refine K.inBlock ?_ | refine K.label ?_)
  repeat (first | refine K.seq ?_ | refine K.skip ?_ | refine K.block ?_ | refine K.inBlock ?_ | refine K.label ?_)
  refine K.region ?_
  refine KO.q rfl (q_move rfl) ?_
  refine KO.q rfl (q_field fo_24_4 rfl) ?_
  refine KO.q rfl (q_load1 ck_9 rfl (by first | (apply cell_pv; (repeat (first | exact List.Mem.head _ | apply List.Mem.tail)); rfl) | (apply cell_fv; (repeat (first | exact List.Mem.head _ | apply List.Mem.tail)); rfl) | (apply rowF_cellU; (repeat (first | exact List.Mem.head _ | apply List.Mem.tail)); assumption) | (apply itm_cell; (repeat (first | exact List.Mem.head _ | apply List.Mem.tail)); assumption; rfl))) ?_
  refine KO.loud rfl (OpL.call rfl (wr_Text p q4 c4 (xs ++ wInt id ++ wInt pri ++ wInt retry ++ wFlag claimed) corr (by simp; omega) h1) (by repeat (first | exact Give.nil | (apply Give.perI; (repeat (first | exact List.Mem.head _ | apply List.Mem.tail))) | (apply Give.own; (repeat (first | exact Pick.here | apply Pick.there)))))) ?_
  rintro _ _ ⟨_, ⟨q5, c5, rfl, rfl⟩, rfl⟩
  refine KO.done ?_
  repeat (first | refine K.seq ?_ | refine K.skip ?_ | refine K.block ?_ | refine K.inBlock ?_ | refine K.label ?_)
  repeat (first | refine K.seq ?_ | refine K.skip ?_ | refine K.block ?_ | refine K.inBlock ?_ | refine K.label ?_)
  refine K.region ?_
  refine KO.q rfl (q_move rfl) ?_
  refine KO.q rfl (q_field fo_24_5 rfl) ?_
  refine KO.q rfl (q_load1 ck_9 rfl (by first | (apply cell_pv; (repeat (first | exact List.Mem.head _ | apply List.Mem.tail)); rfl) | (apply cell_fv; (repeat (first | exact List.Mem.head _ | apply List.Mem.tail)); rfl) | (apply rowF_cellU; (repeat (first | exact List.Mem.head _ | apply List.Mem.tail)); assumption) | (apply itm_cell; (repeat (first | exact List.Mem.head _ | apply List.Mem.tail)); assumption; rfl))) ?_
  refine KO.loud rfl (OpL.call rfl (wr_Text p q5 c5 (xs ++ wInt id ++ wInt pri ++ wInt retry ++ wFlag claimed ++ wText corr) body (by simp; omega) h2) (by repeat (first | exact Give.nil | (apply Give.perI; (repeat (first | exact List.Mem.head _ | apply List.Mem.tail))) | (apply Give.own; (repeat (first | exact Pick.here | apply Pick.there)))))) ?_
  rintro _ _ ⟨_, ⟨q6, c6, rfl, rfl⟩, rfl⟩
  refine KO.done ?_
  repeat (first | refine K.seq ?_ | refine K.skip ?_ | refine K.block ?_ | refine K.inBlock ?_ | refine K.label ?_)
  have e : xs ++ wInt id ++ wInt pri ++ wInt retry ++ wFlag claimed ++ wText corr ++ wText body = xs ++ (Msg.mk id pri retry claimed corr body).bytes := by simp [Msg.bytes]
  rw [e]
  refine K.fin (fn := Try.f62) Try.func62 (fun a w hk hs => res0 Try.results62) (fun w hs => ?_)
  exact ⟨_, WrL p q6 c6 (xs ++ (Msg.mk id pri retry claimed corr body).bytes), rfl, ⟨q6, c6, rfl, rfl⟩, hs.fit (by repeat (first | exact Give.nil | (apply Give.perI; (repeat (first | exact List.Mem.head _ | apply List.Mem.tail))) | (apply Give.own; (repeat (first | exact Pick.here | apply Pick.there))))) (by repeat (first | exact Drop.refl | apply Drop.skip))⟩
theorem msg_Bytes (m : Msg) (h1 : m.corr.size ≤ 65535) (h2 : m.body.size ≤ 65535) : Fn Try.prog 21 [.agg m.cells.toArray].toArray []
    (fun r post => ∃ q cap, r = .slice q m.bytes.length cap ∧ post = [RowF Kd.u8 q m.bytes] ∧ m.bytes.length ≤ cap) := by
  have l1 := wInt_length m.id
  have l2 := wInt_length m.pri
  have l3 := wInt_length m.retry
  have l4 := wFlag_length m.claimed
  have l5 := wText_length m.corr
  have l6 := wText_length m.body
  have hl : ([] ++ m.bytes).length ≤ 1099511627776 := by simp [Msg.bytes]; omega
  refine Fn.enter (N := 11) Try.func21 rfl Try.ntmps21 (by kernel_rfl) rfl (fun ρ L => ?_)
  repeat (first | refine K.seq ?_ | refine K.skip ?_ | refine K.block ?_ | refine K.inBlock ?_ | refine K.label ?_)
  refine K.region ?_
  refine KO.loud rfl (l_box rfl rfl) ?_
  rintro _ _ ⟨b1, rfl, rfl⟩
  refine KO.q rfl (q_assign rfl) ?_
  refine KO.done ?_
  repeat (first | refine K.seq ?_ | refine K.skip ?_ | refine K.block ?_ | refine K.inBlock ?_ | refine K.label ?_)
  repeat (first | refine K.seq ?_ | refine K.skip ?_ | refine K.block ?_ | refine K.inBlock ?_ | refine K.label ?_)
  refine K.region ?_
  refine KO.q rfl (q_build st_35 rfl (by repeat (first | exact Fill.nil | (apply Fill.cons; rfl; rfl; rfl) | exact SetN.nil | apply SetN.cons | exact SetAt.here | apply SetAt.there))) ?_
  refine KO.loud rfl (l_box rfl rfl) ?_
  rintro _ _ ⟨b5, rfl, rfl⟩
  refine KO.q rfl (q_assign rfl) ?_
  refine KO.done ?_
  repeat (first | refine K.seq ?_ | refine K.skip ?_ | refine K.block ?_ | refine K.inBlock ?_ | refine K.label ?_)
  refine K.st (fun w h => rowO_nil (k := Kd.u8) 5 h) ?_
  repeat (first | refine K.seq ?_ | refine K.skip ?_ | refine K.block ?_ | refine K.inBlock ?_ | refine K.label ?_)
  refine K.region ?_
  refine KO.q rfl (q_move rfl) ?_
  refine KO.q rfl (q_loadN ck_24 rfl rfl (by first | (apply cells_pv; (repeat (first | exact List.Mem.head _ | apply List.Mem.tail))) | (apply cells_fv; (repeat (first | exact List.Mem.head _ | apply List.Mem.tail))))) ?_
  refine KO.loud rfl (OpL.call rfl (msg_Write b5 none 0 [] m (by simp) (by omega) (by omega)) (by repeat (first | exact Give.nil | (apply Give.perI; (repeat (first | exact List.Mem.head _ | apply List.Mem.tail))) | (apply Give.own; (repeat (first | exact Pick.here | apply Pick.there)))))) ?_
  rintro _ _ ⟨_, ⟨q1, c1, rfl, rfl⟩, rfl⟩
  refine KO.done ?_
  repeat (first | refine K.seq ?_ | refine K.skip ?_ | refine K.block ?_ | refine K.inBlock ?_ | refine K.label ?_)
  repeat (first | refine K.seq ?_ | refine K.skip ?_ | refine K.block ?_ | refine K.inBlock ?_ | refine K.label ?_)
  refine K.region ?_
  refine KO.q rfl (q_move rfl) ?_
  refine KO.loud rfl (OpL.call rfl (wr_Bytes b5 q1 c1 ([] ++ m.bytes) hl) (by repeat (first | exact Give.nil | (apply Give.perI; (repeat (first | exact List.Mem.head _ | apply List.Mem.tail))) | (apply Give.own; (repeat (first | exact Pick.here | apply Pick.there)))))) ?_
  rintro _ _ ⟨_, ⟨q2, c2, rfl, rfl, h3⟩, rfl⟩
  refine KO.q rfl (q_assign rfl) ?_
  refine KO.done ?_
  repeat (first | refine K.seq ?_ | refine K.skip ?_ | refine K.block ?_ | refine K.inBlock ?_ | refine K.label ?_)
  refine K.ret (fn := Try.f21) Try.func21 (fun a w hk hs => res1 Try.results21 hk rfl) (fun w hs => ?_)
  exact ⟨_, [RowF Kd.u8 q2 m.bytes], rfl, ⟨q2, c2, rfl, rfl, h3⟩, hs.fit (by repeat (first | exact Give.nil | (apply Give.perI; (repeat (first | exact List.Mem.head _ | apply List.Mem.tail))) | (apply Give.own; (repeat (first | exact Pick.here | apply Pick.there))))) (by repeat (first | exact Drop.refl | apply Drop.skip))⟩
/-- What is read of bytes. -/
def Rd.msgT (s : Rd) : Msg × Rd :=
  let a := s.int; let b := a.2.int; let c := b.2.int; let d := c.2.flag; let e := d.2.text; let f := e.2.text
  (⟨a.1, b.1, c.1, d.1, e.1, f.1⟩, f.2)
def Rd.msg (s : Rd) : Msg × Rd := if s.msgT.2.f then (Msg.zero, s.msgT.2) else s.msgT
def Rd.rmsgT (s : Rd) : Msg × Rd :=
  let a := s.rint; let b := a.2.rint; let c := b.2.rint; let d := c.2.rflag; let e := d.2.rtext; let f := e.2.rtext
  (⟨a.1, b.1, c.1, d.1, e.1, f.1⟩, f.2)
def Rd.rmsg (s : Rd) : Msg × Rd := if s.rmsgT.2.f then (Msg.zero, s.rmsgT.2) else s.rmsgT
theorem msg_Read (p : Nat) (q : Option Addr) (cap : Nat) (s : Rd) (hc : s.bs.length ≤ cap) : Fn Try.prog 41 [.pointer (some ⟨p, 0, none⟩)].toArray (RdL p q cap s)
    (fun r post => ∃ q' cap', r = .agg s.msg.1.cells.toArray ∧ post = RdL p q' cap' s.msg.2 ∧ s.msg.2.bs.length ≤ cap') := by
  refine Fn.enter (N := 27) Try.func41 rfl Try.ntmps41 (by kernel_rfl) rfl (fun ρ L => ?_)
  repeat (first | refine K.seq ?_ | refine K.skip ?_ | refine K.block ?_ | refine K.inBlock ?_ | refine K.label ?_)
  refine K.region ?_
  refine KO.loud rfl (l_alloc zo_24) ?_
  rintro _ _ ⟨b2, rfl, rfl⟩
  refine KO.done ?_
  repeat (first | refine K.seq ?_ | refine K.skip ?_ | refine K.block ?_ | refine K.inBlock ?_ | refine K.label ?_)
  repeat (first | refine K.seq ?_ | refine K.skip ?_ | refine K.block ?_ | refine K.inBlock ?_ | refine K.label ?_)
  refine K.region ?_
  refine KO.q rfl (q_move rfl) ?_
  refine KO.q rfl (q_pnil Try.underlying38 rfl rfl) ?_
  refine KO.done ?_
  repeat (first | refine K.seq ?_ | refine K.skip ?_ | refine K.block ?_ | refine K.inBlock ?_ | refine K.label ?_)
  refine K.no rfl ?_
  repeat (first | refine K.seq ?_ | refine K.skip ?_ | refine K.block ?_ | refine K.inBlock ?_ | refine K.label ?_)
  repeat (first | refine K.seq ?_ | refine K.skip ?_ | refine K.block ?_ | refine K.inBlock ?_ | refine K.label ?_)
  refine K.region ?_
  refine KO.q rfl (q_move rfl) ?_
  refine KO.loud rfl (OpL.call rfl (rd_Int p q cap s hc) (by repeat (first | exact Give.nil | (apply Give.perI; (repeat (first | exact List.Mem.head _ | apply List.Mem.tail))) | (apply Give.own; (repeat (first | exact Pick.here | apply Pick.there)))))) ?_
  rintro _ _ ⟨_, ⟨q1, c1, rfl, rfl, h1⟩, rfl⟩
  refine KO.q rfl (q_move rfl) ?_
  refine KO.loud rfl (OpL.call rfl (rd_Int p q1 c1 _ h1) (by repeat (first | exact Give.nil | (apply Give.perI; (repeat (first | exact List.Mem.head _ | apply List.Mem.tail))) | (apply Give.own; (repeat (first | exact Pick.here | apply Pick.there)))))) ?_
  rintro _ _ ⟨_, ⟨q2, c2, rfl, rfl, h2⟩, rfl⟩
  refine KO.q rfl (q_move rfl) ?_
  refine KO.loud rfl (OpL.call rfl (rd_Int p q2 c2 _ h2) (by repeat (first | exact Give.nil | (apply Give.perI; (repeat (first | exact List.Mem.head _ | apply List.Mem.tail))) | (apply Give.own; (repeat (first | exact Pick.here | apply Pick.there)))))) ?_
  rintro _ _ ⟨_, ⟨q3, c3, rfl, rfl, h3⟩, rfl⟩
  refine KO.q rfl (q_build st_24 rfl (by repeat (first | exact Fill.nil | (apply Fill.cons; rfl; rfl; rfl) | exact SetN.nil | apply SetN.cons | exact SetAt.here | apply SetAt.there))) ?_
  refine KO.loud rfl (l_alloc zo_24) ?_
  rintro _ _ ⟨b3, rfl, rfl⟩
  refine KO.loudN rfl (l_storeN ck_24 rfl rfl rfl (by simp [Value.oneCell']) (by repeat (first | exact Pick.here | apply Pick.there)) (by repeat (first | exact SetN.nil | apply SetN.cons | exact SetAt.here | apply SetAt.there))) ?_
  rintro _ _ ⟨rfl, rfl⟩
  refine KO.done ?_
  repeat (first | refine K.seq ?_ | refine K.skip ?_ | refine K.block ?_ | refine K.inBlock ?_ | refine K.label ?_)
  repeat (first | refine K.seq ?_ | refine K.skip ?_ | refine K.block ?_ | refine K.inBlock ?_ | refine K.label ?_)
  refine K.region ?_
  refine KO.q rfl (q_move rfl) ?_
  refine KO.loud rfl (OpL.call rfl (rd_Flag p q3 c3 _ h3) (by repeat (first | exact Give.nil | (apply Give.perI; (repeat (first | exact List.Mem.head _ | apply List.Mem.tail))) | (apply Give.own; (repeat (first | exact Pick.here | apply Pick.there)))))) ?_
  rintro _ _ ⟨_, ⟨q4, c4, rfl, rfl, h4⟩, rfl⟩
  refine KO.q rfl (q_field fo_24_3 rfl) ?_
  refine KO.loudN rfl (l_store1 ck_4 rfl rfl rfl (by repeat (first | exact Pick.here | apply Pick.there)) (by repeat (first | exact SetAt.here | apply SetAt.there))) ?_
  rintro _ _ ⟨rfl, rfl⟩
  refine KO.done ?_
  repeat (first | refine K.seq ?_ | refine K.skip ?_ | refine K.block ?_ | refine K.inBlock ?_ | refine K.label ?_)
  repeat (first | refine K.seq ?_ | refine K.skip ?_ | refine K.block ?_ | refine K.inBlock ?_ | refine K.label ?_)
  refine K.region ?_
  refine KO.q rfl (q_move rfl) ?_
  refine KO.loud rfl (OpL.call rfl (rd_Text p q4 c4 _ h4) (by repeat (first | exact Give.nil | (apply Give.perI; (repeat (first | exact List.Mem.head _ | apply List.Mem.tail))) | (apply Give.own; (repeat (first | exact Pick.here | apply Pick.there)))))) ?_
  rintro _ _ ⟨_, ⟨q5, c5, rfl, rfl, h5⟩, rfl⟩
  refine KO.q rfl (q_field fo_24_4 rfl) ?_
  refine KO.loudN rfl (l_store1 ck_9 rfl rfl rfl (by repeat (first | exact Pick.here | apply Pick.there)) (by repeat (first | exact SetAt.here | apply SetAt.there))) ?_
  rintro _ _ ⟨rfl, rfl⟩
  refine KO.done ?_
  repeat (first | refine K.seq ?_ | refine K.skip ?_ | refine K.block ?_ | refine K.inBlock ?_ | refine K.label ?_)
  repeat (first | refine K.seq ?_ | refine K.skip ?_ | refine K.block ?_ | refine K.inBlock ?_ | refine K.label ?_)
  refine K.region ?_
  refine KO.q rfl (q_move rfl) ?_
  refine KO.loud rfl (OpL.call rfl (rd_Text p q5 c5 _ h5) (by repeat (first | exact Give.nil | (apply Give.perI; (repeat (first | exact List.Mem.head _ | apply List.Mem.tail))) | (apply Give.own; (repeat (first | exact Pick.here | apply Pick.there)))))) ?_
  rintro _ _ ⟨_, ⟨q6, c6, rfl, rfl, h6⟩, rfl⟩
  refine KO.q rfl (q_field fo_24_5 rfl) ?_
  refine KO.loudN rfl (l_store1 ck_9 rfl rfl rfl (by repeat (first | exact Pick.here | apply Pick.there)) (by repeat (first | exact SetAt.here | apply SetAt.there))) ?_
  rintro _ _ ⟨rfl, rfl⟩
  refine KO.done ?_
  repeat (first | refine K.seq ?_ | refine K.skip ?_ | refine K.block ?_ | refine K.inBlock ?_ | refine K.label ?_)
  repeat (first | refine K.seq ?_ | refine K.skip ?_ | refine K.block ?_ | refine K.inBlock ?_ | refine K.label ?_)
  refine K.region ?_
  refine KO.q rfl (q_move rfl) ?_
  refine KO.loud rfl (OpL.call rfl (rd_Failed p q6 c6 _) (by repeat (first | exact Give.nil | (apply Give.perI; (repeat (first | exact List.Mem.head _ | apply List.Mem.tail))) | (apply Give.own; (repeat (first | exact Pick.here | apply Pick.there)))))) ?_
  rintro _ _ ⟨_, ⟨rfl, rfl⟩, rfl⟩
  refine KO.done ?_
  repeat (first | refine K.seq ?_ | refine K.skip ?_ | refine K.block ?_ | refine K.inBlock ?_ | refine K.label ?_)
  refine K.ite rfl (fun h => ?_) (fun h => ?_)
  · have e : s.msg = (Msg.zero, s.msgT.2) := if_pos h
    repeat (first | refine K.seq ?_ | refine K.skip ?_ | refine K.block ?_ | refine K.inBlock ?_ | refine K.label ?_)
    refine K.region ?_
    refine KO.q rfl (q_build st_24 rfl (by repeat (first | exact Fill.nil | (apply Fill.cons; rfl; rfl; rfl) | exact SetN.nil | apply SetN.cons | exact SetAt.here | apply SetAt.there))) ?_
    refine KO.loudN rfl (l_storeN ck_24 rfl rfl rfl (by simp [Value.oneCell']) (by repeat (first | exact Pick.here | apply Pick.there)) (by repeat (first | exact SetN.nil | apply SetN.cons | exact SetAt.here | apply SetAt.there))) ?_
    rintro _ _ ⟨rfl, rfl⟩
    refine KO.done ?_
    repeat (first | refine K.seq ?_ | refine K.skip ?_ | refine K.block ?_ | refine K.inBlock ?_ | refine K.label ?_)
    refine K.ret (fn := Try.f41) Try.func41 (fun a w hk hs => resC Try.results41 hk rfl ck_24 rfl (cells_pv (by repeat (first | exact List.Mem.head _ | apply List.Mem.tail)) w hs)) (fun w hs => ?_)
    exact ⟨_, RdL p q6 c6 s.msgT.2, rfl, ⟨q6, c6, by rw [e]; rfl, by rw [e], by rw [e]; exact h6⟩, hs.fit (by repeat (first | exact Give.nil | (apply Give.perI; (repeat (first | exact List.Mem.head _ | apply List.Mem.tail))) | (apply Give.own; (repeat (first | exact Pick.here | apply Pick.there))))) (by repeat (first | exact Drop.refl | apply Drop.skip))⟩
  · have e : s.msg = s.msgT := if_neg (by rw [show s.msgT.2.f = false from h]; simp)
    repeat (first | refine K.seq ?_ | refine K.skip ?_ | refine K.block ?_ | refine K.inBlock ?_ | refine K.label ?_)
    repeat (first | refine K.seq ?_ | refine K.skip ?_ | refine K.block ?_ | refine K.inBlock ?_ | refine K.label ?_)
    refine K.region ?_
    refine KO.q rfl (q_loadN ck_24 rfl rfl (by first | (apply cells_pv; (repeat (first | exact List.Mem.head _ | apply List.Mem.tail))) | (apply cells_fv; (repeat (first | exact List.Mem.head _ | apply List.Mem.tail))))) ?_
    refine KO.loudN rfl (l_storeN ck_24 rfl rfl rfl (by simp [Value.oneCell']) (by repeat (first | exact Pick.here | apply Pick.there)) (by repeat (first | exact SetN.nil | apply SetN.cons | exact SetAt.here | apply SetAt.there))) ?_
    rintro _ _ ⟨rfl, rfl⟩
    refine KO.done ?_
    repeat (first | refine K.seq ?_ | refine K.skip ?_ | refine K.block ?_ | refine K.inBlock ?_ | refine K.label ?_)
    refine K.ret (fn := Try.f41) Try.func41 (fun a w hk hs => resC Try.results41 hk rfl ck_24 rfl (cells_pv (by repeat (first | exact List.Mem.head _ | apply List.Mem.tail)) w hs)) (fun w hs => ?_)
    exact ⟨_, RdL p q6 c6 s.msgT.2, rfl, ⟨q6, c6, by rw [e]; rfl, by rw [e], by rw [e]; exact h6⟩, hs.fit (by repeat (first | exact Give.nil | (apply Give.perI; (repeat (first | exact List.Mem.head _ | apply List.Mem.tail))) | (apply Give.own; (repeat (first | exact Pick.here | apply Pick.there))))) (by repeat (first | exact Drop.refl | apply Drop.skip))⟩
theorem ref_GetMsg (p : Nat) (q : Option Addr) (cap : Nat) (s : Rd) (hc : s.bs.length ≤ cap) : Fn Try.prog 42 [.pointer (some ⟨p, 0, none⟩)].toArray (RfL p q cap s)
    (fun r post => ∃ q' cap', r = .agg s.rmsg.1.cells.toArray ∧ post = RfL p q' cap' s.rmsg.2 ∧ s.rmsg.2.bs.length ≤ cap') := by
  refine Fn.enter (N := 21) Try.func42 rfl Try.ntmps42 (by kernel_rfl) rfl (fun ρ L => ?_)
  repeat (first | refine K.seq ?_ | refine K.skip ?_ | refine K.block ?_ | refine K.inBlock ?_ | refine K.label ?_)
  refine K.region ?_
  refine KO.loud rfl (l_alloc zo_24) ?_
  rintro _ _ ⟨b2, rfl, rfl⟩
  refine KO.done ?_
  repeat (first | refine K.seq ?_ | refine K.skip ?_ | refine K.block ?_ | refine K.inBlock ?_ | refine K.label ?_)
  repeat (first | refine K.seq ?_ | refine K.skip ?_ | refine K.block ?_ | refine K.inBlock ?_ | refine K.label ?_)
  refine K.region ?_
  refine KO.q rfl (q_move rfl) ?_
  refine KO.loud rfl (OpL.call rfl (rf_Int p q cap s hc) (by repeat (first | exact Give.nil | (apply Give.perI; (repeat (first | exact List.Mem.head _ | apply List.Mem.tail))) | (apply Give.own; (repeat (first | exact Pick.here | apply Pick.there)))))) ?_
  rintro _ _ ⟨_, ⟨q1, c1, rfl, rfl, h1⟩, rfl⟩
  refine KO.q rfl (q_move rfl) ?_
  refine KO.loud rfl (OpL.call rfl (rf_Int p q1 c1 _ h1) (by repeat (first | exact Give.nil | (apply Give.perI; (repeat (first | exact List.Mem.head _ | apply List.Mem.tail))) | (apply Give.own; (repeat (first | exact Pick.here | apply Pick.there)))))) ?_
  rintro _ _ ⟨_, ⟨q2, c2, rfl, rfl, h2⟩, rfl⟩
  refine KO.q rfl (q_move rfl) ?_
  refine KO.loud rfl (OpL.call rfl (rf_Int p q2 c2 _ h2) (by repeat (first | exact Give.nil | (apply Give.perI; (repeat (first | exact List.Mem.head _ | apply List.Mem.tail))) | (apply Give.own; (repeat (first | exact Pick.here | apply Pick.there)))))) ?_
  rintro _ _ ⟨_, ⟨q3, c3, rfl, rfl, h3⟩, rfl⟩
  refine KO.q rfl (q_move rfl) ?_
  refine KO.loud rfl (OpL.call rfl (rf_Flag p q3 c3 _ h3) (by repeat (first | exact Give.nil | (apply Give.perI; (repeat (first | exact List.Mem.head _ | apply List.Mem.tail))) | (apply Give.own; (repeat (first | exact Pick.here | apply Pick.there)))))) ?_
  rintro _ _ ⟨_, ⟨q4, c4, rfl, rfl, h4⟩, rfl⟩
  refine KO.q rfl (q_move rfl) ?_
  refine KO.loud rfl (OpL.call rfl (rf_Text p q4 c4 _ h4) (by repeat (first | exact Give.nil | (apply Give.perI; (repeat (first | exact List.Mem.head _ | apply List.Mem.tail))) | (apply Give.own; (repeat (first | exact Pick.here | apply Pick.there)))))) ?_
  rintro _ _ ⟨_, ⟨q5, c5, rfl, rfl, h5⟩, rfl⟩
  refine KO.q rfl (q_move rfl) ?_
  refine KO.loud rfl (OpL.call rfl (rf_Text p q5 c5 _ h5) (by repeat (first | exact Give.nil | (apply Give.perI; (repeat (first | exact List.Mem.head _ | apply List.Mem.tail))) | (apply Give.own; (repeat (first | exact Pick.here | apply Pick.there)))))) ?_
  rintro _ _ ⟨_, ⟨q6, c6, rfl, rfl, h6⟩, rfl⟩
  refine KO.q rfl (q_build st_24 rfl (by repeat (first | exact Fill.nil | (apply Fill.cons; rfl; rfl; rfl) | exact SetN.nil | apply SetN.cons | exact SetAt.here | apply SetAt.there))) ?_
  refine KO.loud rfl (l_alloc zo_24) ?_
  rintro _ _ ⟨b3, rfl, rfl⟩
  refine KO.loudN rfl (l_storeN ck_24 rfl rfl rfl (by simp [Value.oneCell']) (by repeat (first | exact Pick.here | apply Pick.there)) (by repeat (first | exact SetN.nil | apply SetN.cons | exact SetAt.here | apply SetAt.there))) ?_
  rintro _ _ ⟨rfl, rfl⟩
  refine KO.done ?_
  repeat (first | refine K.seq ?_ | refine K.skip ?_ | refine K.block ?_ | refine K.inBlock ?_ | refine K.label ?_)
  repeat (first | refine K.seq ?_ | refine K.skip ?_ | refine K.block ?_ | refine K.inBlock ?_ | refine K.label ?_)
  refine K.region ?_
  refine KO.q rfl (q_move rfl) ?_
  refine KO.loud rfl (OpL.call rfl (rf_Bad p q6 c6 _) (by repeat (first | exact Give.nil | (apply Give.perI; (repeat (first | exact List.Mem.head _ | apply List.Mem.tail))) | (apply Give.own; (repeat (first | exact Pick.here | apply Pick.there)))))) ?_
  rintro _ _ ⟨_, ⟨rfl, rfl⟩, rfl⟩
  refine KO.done ?_
  repeat (first | refine K.seq ?_ | refine K.skip ?_ | refine K.block ?_ | refine K.inBlock ?_ | refine K.label ?_)
  refine K.ite rfl (fun h => ?_) (fun h => ?_)
  · have e : s.rmsg = (Msg.zero, s.rmsgT.2) := if_pos h
    repeat (first | refine K.seq ?_ | refine K.skip ?_ | refine K.block ?_ | refine K.inBlock ?_ | refine K.label ?_)
    refine K.region ?_
    refine KO.q rfl (q_build st_24 rfl (by repeat (first | exact Fill.nil | (apply Fill.cons; rfl; rfl; rfl) | exact SetN.nil | apply SetN.cons | exact SetAt.here | apply SetAt.there))) ?_
    refine KO.loudN rfl (l_storeN ck_24 rfl rfl rfl (by simp [Value.oneCell']) (by repeat (first | exact Pick.here | apply Pick.there)) (by repeat (first | exact SetN.nil | apply SetN.cons | exact SetAt.here | apply SetAt.there))) ?_
    rintro _ _ ⟨rfl, rfl⟩
    refine KO.done ?_
    repeat (first | refine K.seq ?_ | refine K.skip ?_ | refine K.block ?_ | refine K.inBlock ?_ | refine K.label ?_)
    refine K.ret (fn := Try.f42) Try.func42 (fun a w hk hs => resC Try.results42 hk rfl ck_24 rfl (cells_pv (by repeat (first | exact List.Mem.head _ | apply List.Mem.tail)) w hs)) (fun w hs => ?_)
    exact ⟨_, RfL p q6 c6 s.rmsgT.2, rfl, ⟨q6, c6, by rw [e]; rfl, by rw [e], by rw [e]; exact h6⟩, hs.fit (by repeat (first | exact Give.nil | (apply Give.perI; (repeat (first | exact List.Mem.head _ | apply List.Mem.tail))) | (apply Give.own; (repeat (first | exact Pick.here | apply Pick.there))))) (by repeat (first | exact Drop.refl | apply Drop.skip))⟩
  · have e : s.rmsg = s.rmsgT := if_neg (by rw [show s.rmsgT.2.f = false from h]; simp)
    repeat (first | refine K.seq ?_ | refine K.skip ?_ | refine K.block ?_ | refine K.inBlock ?_ | refine K.label ?_)
    repeat (first | refine K.seq ?_ | refine K.skip ?_ | refine K.block ?_ | refine K.inBlock ?_ | refine K.label ?_)
    refine K.region ?_
    refine KO.q rfl (q_loadN ck_24 rfl rfl (by first | (apply cells_pv; (repeat (first | exact List.Mem.head _ | apply List.Mem.tail))) | (apply cells_fv; (repeat (first | exact List.Mem.head _ | apply List.Mem.tail))))) ?_
    refine KO.loudN rfl (l_storeN ck_24 rfl rfl rfl (by simp [Value.oneCell']) (by repeat (first | exact Pick.here | apply Pick.there)) (by repeat (first | exact SetN.nil | apply SetN.cons | exact SetAt.here | apply SetAt.there))) ?_
    rintro _ _ ⟨rfl, rfl⟩
    refine KO.done ?_
    repeat (first | refine K.seq ?_ | refine K.skip ?_ | refine K.block ?_ | refine K.inBlock ?_ | refine K.label ?_)
    refine K.ret (fn := Try.f42) Try.func42 (fun a w hk hs => resC Try.results42 hk rfl ck_24 rfl (cells_pv (by repeat (first | exact List.Mem.head _ | apply List.Mem.tail)) w hs)) (fun w hs => ?_)
    exact ⟨_, RfL p q6 c6 s.rmsgT.2, rfl, ⟨q6, c6, by rw [e]; rfl, by rw [e], by rw [e]; exact h6⟩, hs.fit (by repeat (first | exact Give.nil | (apply Give.perI; (repeat (first | exact List.Mem.head _ | apply List.Mem.tail))) | (apply Give.own; (repeat (first | exact Pick.here | apply Pick.there))))) (by repeat (first | exact Drop.refl | apply Drop.skip))⟩
theorem ref_putMsg (p : Nat) (q : Option Addr) (cap : Nat) (xs : List UInt8) (m : Msg) (hb : xs.length ≤ 137438953472) (h1 : m.corr.size ≤ 65535) (h2 : m.body.size ≤ 65535) : Fn Try.prog 63 [.pointer (some ⟨p, 0, none⟩), .agg m.cells.toArray].toArray (WfL p q cap xs)
    (fun r post => ∃ q' cap', r = .tuple #[] ∧ post = WfL p q' cap' (xs ++ m.bytes)) := by
  obtain ⟨id, pri, retry, claimed, corr, body⟩ := m
  have l1 := wInt_length id
  have l2 := wInt_length pri
  have l3 := wInt_length retry
  have l4 := wFlag_length claimed
  have l5 := wText_length corr
  refine Fn.enter (N := 28) Try.func63 rfl Try.ntmps63 (by kernel_rfl) rfl (fun ρ L => ?_)
  repeat (first | refine K.seq ?_ | refine K.skip ?_ | refine K.block ?_ | refine K.inBlock ?_ | refine K.label ?_)
  refine K.region ?_
  refine KO.loud rfl (l_box rfl rfl) ?_
  rintro _ _ ⟨b3, rfl, rfl⟩
  refine KO.done ?_
  repeat (first | refine K.seq ?_ | refine K.skip ?_ | refine K.block ?_ | refine K.inBlock ?_ | refine K.label ?_)
  repeat (first | refine K.seq ?_ | refine K.skip ?_ | refine K.block ?_ | refine K.inBlock ?_ | refine K.label ?_)
  refine K.region ?_
  refine KO.q rfl (q_move rfl) ?_
  refine KO.q rfl (q_field fo_24_0 rfl) ?_
  refine KO.q rfl (q_load1 ck_3 rfl (by first | (apply cell_pv; (repeat (first | exact List.Mem.head _ | apply List.Mem.tail)); rfl) | (apply cell_fv; (repeat (first | exact List.Mem.head _ | apply List.Mem.tail)); rfl) | (apply rowF_cellU; (repeat (first | exact List.Mem.head _ | apply List.Mem.tail)); assumption) | (apply itm_cell; (repeat (first | exact List.Mem.head _ | apply List.Mem.tail)); assumption; rfl))) ?_
  refine KO.loud rfl (OpL.call rfl (wf_Int p q cap xs id (by omega)) (by repeat (first | exact Give.nil | (apply Give.perI; (repeat (first | exact List.Mem.head _ | apply List.Mem.tail))) | (apply Give.own; (repeat (first | exact Pick.here | apply Pick.there)))))) ?_
  rintro _ _ ⟨_, ⟨q1, c1, rfl, rfl⟩, rfl⟩
  refine KO.done ?_
  repeat (first | refine K.seq ?_ | refine K.skip ?_ | refine K.block ?_ | refine K.inBlock ?_ | refine K.label ?_)
  repeat (first | refine K.seq ?_ | refine K.skip ?_ | refine K.block ?_ | refine K.inBlock ?_ | refine K.label ?_)
  refine K.region ?_
  refine KO.q rfl (q_move rfl) ?_
  refine KO.q rfl (q_field fo_24_1 rfl) ?_
  refine KO.q rfl (q_load1 ck_3 rfl (by first | (apply cell_pv; (repeat (first | exact List.Mem.head _ | apply List.Mem.tail)); rfl) | (apply cell_fv; (repeat (first | exact List.Mem.head _ | apply List.Mem.tail)); rfl) | (apply rowF_cellU; (repeat (first | exact List.Mem.head _ | apply List.Mem.tail)); assumption) | (apply itm_cell; (repeat (first | exact List.Mem.head _ | apply List.Mem.tail)); assumption; rfl))) ?_
  refine KO.loud rfl (OpL.call rfl (wf_Int p q1 c1 (xs ++ wInt id) pri (by simp; omega)) (by repeat (first | exact Give.nil | (apply Give.perI; (repeat (first | exact List.Mem.head _ | apply List.Mem.tail))) | (apply Give.own; (repeat (first | exact Pick.here | apply Pick.there)))))) ?_
  rintro _ _ ⟨_, ⟨q2, c2, rfl, rfl⟩, rfl⟩
  refine KO.done ?_
  repeat (first | refine K.seq ?_ | refine K.skip ?_ | refine K.block ?_ | refine K.inBlock ?_ | refine K.label ?_)
  repeat (first | refine K.seq ?_ | refine K.skip ?_ | refine K.block ?_ | refine K.inBlock ?_ | refine K.label ?_)
  refine K.region ?_
  refine KO.q rfl (q_move rfl) ?_
  refine KO.q rfl (q_field fo_24_2 rfl) ?_
  refine KO.q rfl (q_load1 ck_3 rfl (by first | (apply cell_pv; (repeat (first | exact List.Mem.head _ | apply List.Mem.tail)); rfl) | (apply cell_fv; (repeat (first | exact List.Mem.head _ | apply List.Mem.tail)); rfl) | (apply rowF_cellU; (repeat (first | exact List.Mem.head _ | apply List.Mem.tail)); assumption) | (apply itm_cell; (repeat (first | exact List.Mem.head _ | apply List.Mem.tail)); assumption; rfl))) ?_
  refine KO.loud rfl (OpL.call rfl (wf_Int p q2 c2 (xs ++ wInt id ++ wInt pri) retry (by simp; omega)) (by repeat (first | exact Give.nil | (apply Give.perI; (repeat (first | exact List.Mem.head _ | apply List.Mem.tail))) | (apply Give.own; (repeat (first | exact Pick.here | apply Pick.there)))))) ?_
  rintro _ _ ⟨_, ⟨q3, c3, rfl, rfl⟩, rfl⟩
  refine KO.done ?_
  repeat (first | refine K.seq ?_ | refine K.skip ?_ | refine K.block ?_ | refine K.inBlock ?_ | refine K.label ?_)
  repeat (first | refine K.seq ?_ | refine K.skip ?_ | refine K.block ?_ | refine K.inBlock ?_ | refine K.label ?_)
  refine K.region ?_
  refine KO.q rfl (q_move rfl) ?_
  refine KO.q rfl (q_field fo_24_3 rfl) ?_
  refine KO.q rfl (q_load1 ck_4 rfl (by first | (apply cell_pv; (repeat (first | exact List.Mem.head _ | apply List.Mem.tail)); rfl) | (apply cell_fv; (repeat (first | exact List.Mem.head _ | apply List.Mem.tail)); rfl) | (apply rowF_cellU; (repeat (first | exact List.Mem.head _ | apply List.Mem.tail)); assumption) | (apply itm_cell; (repeat (first | exact List.Mem.head _ | apply List.Mem.tail)); assumption; rfl))) ?_
  refine KO.loud rfl (OpL.call rfl (wf_Flag p q3 c3 (xs ++ wInt id ++ wInt pri ++ wInt retry) claimed (by simp; omega)) (by repeat (first | exact Give.nil | (apply Give.perI; (repeat (first | exact List.Mem.head _ | apply List.Mem.tail))) | (apply Give.own; (repeat (first | exact Pick.here | apply Pick.there)))))) ?_
  rintro _ _ ⟨_, ⟨q4, c4, rfl, rfl⟩, rfl⟩
  refine KO.done ?_
  repeat (first | refine K.seq ?_ | refine K.skip ?_ | refine K.block ?_ | refine K.inBlock ?_ | refine K.label ?_)
  repeat (first | refine K.seq ?_ | refine K.skip ?_ | refine K.block ?_ | refine K.inBlock ?_ | refine K.label ?_)
  refine K.region ?_
  refine KO.q rfl (q_move rfl) ?_
  refine KO.q rfl (q_field fo_24_4 rfl) ?_
  refine KO.q rfl (q_load1 ck_9 rfl (by first | (apply cell_pv; (repeat (first | exact List.Mem.head _ | apply List.Mem.tail)); rfl) | (apply cell_fv; (repeat (first | exact List.Mem.head _ | apply List.Mem.tail)); rfl) | (apply rowF_cellU; (repeat (first | exact List.Mem.head _ | apply List.Mem.tail)); assumption) | (apply itm_cell; (repeat (first | exact List.Mem.head _ | apply List.Mem.tail)); assumption; rfl))) ?_
  refine KO.loud rfl (OpL.call rfl (wf_Text p q4 c4 (xs ++ wInt id ++ wInt pri ++ wInt retry ++ wFlag claimed) corr (by simp; omega) h1) (by repeat (first | exact Give.nil | (apply Give.perI; (repeat (first | exact List.Mem.head _ | apply List.Mem.tail))) | (apply Give.own; (repeat (first | exact Pick.here | apply Pick.there)))))) ?_
  rintro _ _ ⟨_, ⟨q5, c5, rfl, rfl⟩, rfl⟩
  refine KO.done ?_
  repeat (first | refine K.seq ?_ | refine K.skip ?_ | refine K.block ?_ | refine K.inBlock ?_ | refine K.label ?_)
  repeat (first | refine K.seq ?_ | refine K.skip ?_ | refine K.block ?_ | refine K.inBlock ?_ | refine K.label ?_)
  refine K.region ?_
  refine KO.q rfl (q_move rfl) ?_
  refine KO.q rfl (q_field fo_24_5 rfl) ?_
  refine KO.q rfl (q_load1 ck_9 rfl (by first | (apply cell_pv; (repeat (first | exact List.Mem.head _ | apply List.Mem.tail)); rfl) | (apply cell_fv; (repeat (first | exact List.Mem.head _ | apply List.Mem.tail)); rfl) | (apply rowF_cellU; (repeat (first | exact List.Mem.head _ | apply List.Mem.tail)); assumption) | (apply itm_cell; (repeat (first | exact List.Mem.head _ | apply List.Mem.tail)); assumption; rfl))) ?_
  refine KO.loud rfl (OpL.call rfl (wf_Text p q5 c5 (xs ++ wInt id ++ wInt pri ++ wInt retry ++ wFlag claimed ++ wText corr) body (by simp; omega) h2) (by repeat (first | exact Give.nil | (apply Give.perI; (repeat (first | exact List.Mem.head _ | apply List.Mem.tail))) | (apply Give.own; (repeat (first | exact Pick.here | apply Pick.there)))))) ?_
  rintro _ _ ⟨_, ⟨q6, c6, rfl, rfl⟩, rfl⟩
  refine KO.done ?_
  repeat (first | refine K.seq ?_ | refine K.skip ?_ | refine K.block ?_ | refine K.inBlock ?_ | refine K.label ?_)
  have e : xs ++ wInt id ++ wInt pri ++ wInt retry ++ wFlag claimed ++ wText corr ++ wText body = xs ++ (Msg.mk id pri retry claimed corr body).bytes := by simp [Msg.bytes]
  rw [e]
  refine K.fin (fn := Try.f63) Try.func63 (fun a w hk hs => res0 Try.results63) (fun w hs => ?_)
  exact ⟨_, WfL p q6 c6 (xs ++ (Msg.mk id pri retry claimed corr body).bytes), rfl, ⟨q6, c6, rfl, rfl⟩, hs.fit (by repeat (first | exact Give.nil | (apply Give.perI; (repeat (first | exact List.Mem.head _ | apply List.Mem.tail))) | (apply Give.own; (repeat (first | exact Pick.here | apply Pick.there))))) (by repeat (first | exact Drop.refl | apply Drop.skip))⟩
theorem ref_MsgBytes (m : Msg) (h1 : m.corr.size ≤ 65535) (h2 : m.body.size ≤ 65535) : Fn Try.prog 22 [.agg m.cells.toArray].toArray []
    (fun r post => ∃ q cap, r = .slice q m.bytes.length cap ∧ post = [RowF Kd.u8 q m.bytes]) := by
  refine Fn.enter (N := 13) Try.func22 rfl Try.ntmps22 (by kernel_rfl) rfl (fun ρ L => ?_)
  repeat (first | refine K.seq ?_ | refine K.skip ?_ | refine K.block ?_ | refine K.inBlock ?_ | refine K.label ?_)
  refine K.region ?_
  refine KO.loud rfl (l_box rfl rfl) ?_
  rintro _ _ ⟨b1, rfl, rfl⟩
  refine KO.q rfl (q_assign rfl) ?_
  refine KO.done ?_
  repeat (first | refine K.seq ?_ | refine K.skip ?_ | refine K.block ?_ | refine K.inBlock ?_ | refine K.label ?_)
  repeat (first | refine K.seq ?_ | refine K.skip ?_ | refine K.block ?_ | refine K.inBlock ?_ | refine K.label ?_)
  refine K.region ?_
  refine KO.q rfl (q_build st_52 rfl (by repeat (first | exact Fill.nil | (apply Fill.cons; rfl; rfl; rfl) | exact SetN.nil | apply SetN.cons | exact SetAt.here | apply SetAt.there))) ?_
  refine KO.loud rfl (l_box rfl rfl) ?_
  rintro _ _ ⟨b5, rfl, rfl⟩
  refine KO.q rfl (q_assign rfl) ?_
  refine KO.done ?_
  repeat (first | refine K.seq ?_ | refine K.skip ?_ | refine K.block ?_ | refine K.inBlock ?_ | refine K.label ?_)
  refine K.st (fun w h => rowO_nil (k := Kd.u8) 5 h) ?_
  repeat (first | refine K.seq ?_ | refine K.skip ?_ | refine K.block ?_ | refine K.inBlock ?_ | refine K.label ?_)
  refine K.region ?_
  refine KO.q rfl (q_move rfl) ?_
  refine KO.q rfl (q_loadN ck_24 rfl rfl (by first | (apply cells_pv; (repeat (first | exact List.Mem.head _ | apply List.Mem.tail))) | (apply cells_fv; (repeat (first | exact List.Mem.head _ | apply List.Mem.tail))))) ?_
  refine KO.loud rfl (OpL.call rfl (ref_putMsg b5 none 0 [] m (by simp) h1 h2) (by repeat (first | exact Give.nil | (apply Give.perI; (repeat (first | exact List.Mem.head _ | apply List.Mem.tail))) | (apply Give.own; (repeat (first | exact Pick.here | apply Pick.there)))))) ?_
  rintro _ _ ⟨_, ⟨q1, c1, rfl, rfl⟩, rfl⟩
  refine KO.done ?_
  repeat (first | refine K.seq ?_ | refine K.skip ?_ | refine K.block ?_ | refine K.inBlock ?_ | refine K.label ?_)
  rw [List.nil_append]
  refine K.st (fun w h => rowO_freeze (h.pick (.there .here))) ?_
  repeat (first | refine K.seq ?_ | refine K.skip ?_ | refine K.block ?_ | refine K.inBlock ?_ | refine K.label ?_)
  refine K.region ?_
  refine KO.q rfl (q_move rfl) ?_
  refine KO.q rfl (q_nilCheck rfl) ?_
  refine KO.q rfl (q_field fo_52_0 rfl) ?_
  refine KO.q rfl (q_load1 ck_25 rfl (by first | (apply cell_pv; (repeat (first | exact List.Mem.head _ | apply List.Mem.tail)); rfl) | (apply cell_fv; (repeat (first | exact List.Mem.head _ | apply List.Mem.tail)); rfl) | (apply rowF_cellU; (repeat (first | exact List.Mem.head _ | apply List.Mem.tail)); assumption) | (apply itm_cell; (repeat (first | exact List.Mem.head _ | apply List.Mem.tail)); assumption; rfl))) ?_
  refine KO.q rfl (q_assign rfl) ?_
  refine KO.done ?_
  repeat (first | refine K.seq ?_ | refine K.skip ?_ | refine K.block ?_ | refine K.inBlock ?_ | refine K.label ?_)
  refine K.ret (fn := Try.f22) Try.func22 (fun a w hk hs => res1 Try.results22 hk rfl) (fun w hs => ?_)
  exact ⟨_, [RowF Kd.u8 q1 m.bytes], rfl, ⟨q1, c1, rfl, rfl⟩, hs.fit (by repeat (first | exact Give.nil | (apply Give.perI; (repeat (first | exact List.Mem.head _ | apply List.Mem.tail))) | (apply Give.own; (repeat (first | exact Pick.here | apply Pick.there))))) (by repeat (first | exact Drop.refl | apply Drop.skip))⟩
end Go.Proofs.Ytlellgnklohclaa.L
