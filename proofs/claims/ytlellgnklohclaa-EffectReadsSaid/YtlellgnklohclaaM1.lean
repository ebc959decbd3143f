/- Walks: messages. -/
import Derived.Test.YtlellgnklohclaaS2
import Derived.Test.YtlellgnklohclaaOps8
import Derived.Test.YtlellgnklohclaaA1
namespace Go.Proofs.Ytlellgnklohclaa.L
open Go Go.Proofs
attribute [local irreducible] pv fv pt fz RowF RowO rowP old pure_
set_option maxRecDepth 100000
set_option linter.unusedSimpArgs false
set_option linter.unusedVariables false

/-- A message. -/
structure Msg where
  id : Int
  pri : Int
  retry : Int
  claimed : Bool
  corr : ByteArray
  body : ByteArray
def Msg.cells (x : Msg) : List Value := [.int .i64 x.id, .int .i64 x.pri, .int .i64 x.retry, .bool x.claimed, .string x.corr, .string x.body]
def Kd.msg : Kd Msg := Kd.flat 6 Msg.cells (fun _ => rfl) (fun _ v h => by simp [Msg.cells] at h; rcases h with rfl | rfl | rfl | rfl | rfl | rfl <;> rfl)
theorem msg_one (x : Msg) : ∀ v ∈ x.cells, v.oneCell' = true := fun v h => by simp [Msg.cells] at h; rcases h with rfl | rfl | rfl | rfl | rfl | rfl <;> rfl
theorem msg_cell {ρ : World} {L : List HP} {b o : Nat} {l : List Msg} {i j : Nat} {x : Msg} {v : Value} (m : RowF Kd.msg (some ⟨b, o, none⟩) l ∈ L) (hx : l[i]? = some x) (hv : x.cells[j]? = some v) : ∀ w, St ρ L w → w.cell? ⟨b, o + i * 6 + j, none⟩ = some v := rowF_cell m hx hv
def Msg.right (m : Msg) : Bool := decide (1 ≤ m.id) && decide (m.id ≤ 1099511627776) && decide (-1000 ≤ m.pri) && decide (m.pri ≤ 1000) && decide (0 ≤ m.retry) && decide (m.retry ≤ 1000) && decide ((m.corr.size : Int) ≤ 40) && decide ((m.body.size : Int) ≤ 100)
theorem msg_Right (m : Msg) : Fn Try.prog 17 [.agg m.cells.toArray].toArray [] (fun v post => v = .bool m.right ∧ post = []) := message_Right m.id m.pri m.retry m.claimed m.corr m.body
def Msg.tried (m : Msg) : Msg := { m with claimed := false, retry := (if 999 < m.retry then 999 else m.retry) + 1 }
theorem msg_Tried (m : Msg) (limit : Int) (h0 : -9223372036854775808 ≤ m.retry) : Fn Try.prog 18 [.agg m.cells.toArray, .int .i64 limit].toArray [] (fun v post => v = .tuple #[.agg m.tried.cells.toArray, .bool (decide (limit ≤ m.tried.retry))] ∧ post = []) := by
  obtain ⟨id, pri, retry, claimed, corr, body⟩ := m
  replace h0 : -9223372036854775808 ≤ retry := h0
  refine Fn.enter (N := 17) Try.func18 rfl Try.ntmps18 (by kernel_rfl) rfl (fun ρ L => ?_)
  repeat (first | refine K.seq ?_ | refine K.skip ?_ | refine K.block ?_ | refine K.inBlock ?_ | refine K.label ?_)
  refine K.region ?_
  refine KO.loud rfl (l_box rfl rfl) ?_
  rintro _ _ ⟨b2, rfl, rfl⟩
  refine KO.loud rfl (l_alloc zo_24) ?_
  rintro _ _ ⟨b4, rfl, rfl⟩
  refine KO.q rfl (q_assign rfl) ?_
  refine KO.done ?_
  repeat (first | refine K.seq ?_ | refine K.skip ?_ | refine K.block ?_ | refine K.inBlock ?_ | refine K.label ?_)
  repeat (first | refine K.seq ?_ | refine K.skip ?_ | refine K.block ?_ | refine K.inBlock ?_ | refine K.label ?_)
  refine K.region ?_
  refine KO.q rfl (q_field fo_24_3 rfl) ?_
  refine KO.loudN rfl (l_store1 ck_4 rfl rfl rfl (by repeat (first | exact Pick.here | apply Pick.there)) (by repeat (first | exact SetAt.here | apply SetAt.there))) ?_
  rintro _ _ ⟨rfl, rfl⟩
  refine KO.done ?_
  repeat (first | refine K.seq ?_ | refine K.skip ?_ | refine K.block ?_ | refine K.inBlock ?_ | refine K.label ?_)
  repeat (first | refine K.seq ?_ | refine K.skip ?_ | refine K.block ?_ | refine K.inBlock ?_ | refine K.label ?_)
  refine K.region ?_
  refine KO.q rfl (q_field fo_24_2 rfl) ?_
  refine KO.q rfl (q_load1 ck_3 rfl (by first | (apply cell_pv; (repeat (first | exact List.Mem.head _ | apply List.Mem.tail)); rfl) | (apply cell_fv; (repeat (first | exact List.Mem.head _ | apply List.Mem.tail)); rfl) | (apply rowF_cellU; (repeat (first | exact List.Mem.head _ | apply List.Mem.tail)); assumption) | (apply itm_cell; (repeat (first | exact List.Mem.head _ | apply List.Mem.tail)); assumption; rfl))) ?_
  refine KO.q rfl (q_min rfl rfl) ?_
  have hm : (if (999 : Int) < retry then (999 : Int) else retry) = (if 999 < retry then 999 else retry) := rfl
  generalize hr : (if (999 : Int) < retry then (999 : Int) else retry) = r
  have hr1 : -9223372036854775808 ≤ r ∧ r ≤ 999 := by rw [← hr]; split <;> omega
  refine KO.q rfl (q_add rfl rfl (by first | omega | (simp; omega)) (by first | omega | (simp; omega))) ?_
  refine KO.q rfl (q_field fo_24_2 rfl) ?_
  refine KO.loudN rfl (l_store1 ck_3 rfl rfl rfl (by repeat (first | exact Pick.here | apply Pick.there)) (by repeat (first | exact SetAt.here | apply SetAt.there))) ?_
  rintro _ _ ⟨rfl, rfl⟩
  refine KO.done ?_
  repeat (first | refine K.seq ?_ | refine K.skip ?_ | refine K.block ?_ | refine K.inBlock ?_ | refine K.label ?_)
  repeat (first | refine K.seq ?_ | refine K.skip ?_ | refine K.block ?_ | refine K.inBlock ?_ | refine K.label ?_)
  refine K.draw [pv b2 24 [.int .i64 id, .int .i64 pri, .int .i64 (r + 1), .bool false, .string corr, .string body]] mixed ?_
  refine D.q 0 rfl (by kernel_rfl) (by kernel_rfl) (q_loadN ck_24 rfl rfl (by first | (apply cells_pv; (repeat (first | exact List.Mem.head _ | apply List.Mem.tail))) | (apply cells_fv; (repeat (first | exact List.Mem.head _ | apply List.Mem.tail))))) (fun _ h => h.sub (by repeat (first | exact Give.nil | (apply Give.perI; (repeat (first | exact List.Mem.head _ | apply List.Mem.tail))) | (apply Give.own; (repeat (first | exact Pick.here | apply Pick.there)))))) ?_
  refine D.q 1 rfl (by kernel_rfl) (by kernel_rfl) (q_field fo_24_2 rfl) (fun _ h => h.sub (by repeat (first | exact Give.nil | (apply Give.perI; (repeat (first | exact List.Mem.head _ | apply List.Mem.tail))) | (apply Give.own; (repeat (first | exact Pick.here | apply Pick.there)))))) ?_
  refine D.q 2 rfl (by kernel_rfl) (by kernel_rfl) (q_load1 ck_3 rfl (by first | (apply cell_pv; (repeat (first | exact List.Mem.head _ | apply List.Mem.tail)); rfl) | (apply cell_fv; (repeat (first | exact List.Mem.head _ | apply List.Mem.tail)); rfl) | (apply rowF_cellU; (repeat (first | exact List.Mem.head _ | apply List.Mem.tail)); assumption) | (apply itm_cell; (repeat (first | exact List.Mem.head _ | apply List.Mem.tail)); assumption; rfl))) (fun _ h => h.sub (by repeat (first | exact Give.nil | (apply Give.perI; (repeat (first | exact List.Mem.head _ | apply List.Mem.tail))) | (apply Give.own; (repeat (first | exact Pick.here | apply Pick.there)))))) ?_
  refine D.q 3 rfl (by kernel_rfl) (by kernel_rfl) (q_move rfl) (fun _ h => h.sub (by repeat (first | exact Give.nil | (apply Give.perI; (repeat (first | exact List.Mem.head _ | apply List.Mem.tail))) | (apply Give.own; (repeat (first | exact Pick.here | apply Pick.there)))))) ?_
  refine D.q 4 rfl (by kernel_rfl) (by kernel_rfl) (q_ge rfl rfl) (fun _ h => h.sub (by repeat (first | exact Give.nil | (apply Give.perI; (repeat (first | exact List.Mem.head _ | apply List.Mem.tail))) | (apply Give.own; (repeat (first | exact Pick.here | apply Pick.there)))))) ?_
  refine D.all (rs := [5]) (by kernel_rfl) rfl (DAll.consN rfl (by kernel_rfl) (l_storeN ck_24 rfl rfl rfl (by simp [Value.oneCell']) (by repeat (first | exact Pick.here | apply Pick.there)) (by repeat (first | exact SetN.nil | apply SetN.cons | exact SetAt.here | apply SetAt.there))) (.inr (by rintro _ _ ⟨rfl, rfl⟩ w h; exact h.sub (by repeat (first | exact Give.nil | (apply Give.perI; (repeat (first | exact List.Mem.head _ | apply List.Mem.tail))) | (apply Give.own; (repeat (first | exact Pick.here | apply Pick.there))))))) rfl ?_ DAll.nil)
  rintro _ _ ⟨rfl, rfl⟩
  refine D.all (rs := [6]) (by kernel_rfl) rfl (DAll.cons rfl (by kernel_rfl) (OpQ.loud (q_assign rfl)) (.inl (by kernel_rfl)) rfl ?_ DAll.nil)
  rintro _ _ ⟨rfl, rfl⟩
  refine D.done (by kernel_rfl) ?_
  repeat (first | refine K.seq ?_ | refine K.skip ?_ | refine K.block ?_ | refine K.inBlock ?_ | refine K.label ?_)
  refine K.ret (fn := Try.f18) Try.func18 (fun a w hk hs => resCT Try.results18 hk rfl ck_24 rfl (cells_pv (by repeat (first | exact List.Mem.head _ | apply List.Mem.tail)) w hs) rfl) (fun w hs => ?_)
  exact ⟨_, [], rfl, ⟨by rw [Msg.tried]; simp only [Msg.cells]; rw [hr], rfl⟩, hs.fit (by repeat (first | exact Give.nil | (apply Give.perI; (repeat (first | exact List.Mem.head _ | apply List.Mem.tail))) | (apply Give.own; (repeat (first | exact Pick.here | apply Pick.there))))) (by repeat (first | exact Drop.refl | apply Drop.skip))⟩
theorem ref_Tried (m : Msg) (limit : Int) (h0 : -9223372036854775808 ≤ m.retry) : Fn Try.prog 19 [.agg m.cells.toArray, .int .i64 limit].toArray [] (fun v post => v = .tuple #[.agg m.tried.cells.toArray, .bool (decide (limit ≤ m.tried.retry))] ∧ post = []) := by
  obtain ⟨id, pri, retry, claimed, corr, body⟩ := m
  replace h0 : -9223372036854775808 ≤ retry := h0
  refine Fn.enter (N := 20) Try.func19 rfl Try.ntmps19 (by kernel_rfl) rfl (fun ρ L => ?_)
  repeat (first | refine K.seq ?_ | refine K.skip ?_ | refine K.block ?_ | refine K.inBlock ?_ | refine K.label ?_)
  refine K.region ?_
  refine KO.loud rfl (l_box rfl rfl) ?_
  rintro _ _ ⟨b2, rfl, rfl⟩
  refine KO.loud rfl (l_alloc zo_24) ?_
  rintro _ _ ⟨b4, rfl, rfl⟩
  refine KO.q rfl (q_assign rfl) ?_
  refine KO.done ?_
  repeat (first | refine K.seq ?_ | refine K.skip ?_ | refine K.block ?_ | refine K.inBlock ?_ | refine K.label ?_)
  repeat (first | refine K.seq ?_ | refine K.skip ?_ | refine K.block ?_ | refine K.inBlock ?_ | refine K.label ?_)
  refine K.region ?_
  refine KO.q rfl (q_field fo_24_3 rfl) ?_
  refine KO.loudN rfl (l_store1 ck_4 rfl rfl rfl (by repeat (first | exact Pick.here | apply Pick.there)) (by repeat (first | exact SetAt.here | apply SetAt.there))) ?_
  rintro _ _ ⟨rfl, rfl⟩
  refine KO.done ?_
  repeat (first | refine K.seq ?_ | refine K.skip ?_ | refine K.block ?_ | refine K.inBlock ?_ | refine K.label ?_)
  repeat (first | refine K.seq ?_ | refine K.skip ?_ | refine K.block ?_ | refine K.inBlock ?_ | refine K.label ?_)
  refine K.region ?_
  refine KO.q rfl (q_field fo_24_2 rfl) ?_
  refine KO.q rfl (q_load1 ck_3 rfl (by first | (apply cell_pv; (repeat (first | exact List.Mem.head _ | apply List.Mem.tail)); rfl) | (apply cell_fv; (repeat (first | exact List.Mem.head _ | apply List.Mem.tail)); rfl) | (apply rowF_cellU; (repeat (first | exact List.Mem.head _ | apply List.Mem.tail)); assumption) | (apply itm_cell; (repeat (first | exact List.Mem.head _ | apply List.Mem.tail)); assumption; rfl))) ?_
  refine KO.q rfl (q_lt rfl rfl) ?_
  refine KO.done ?_
  repeat (first | refine K.seq ?_ | refine K.skip ?_ | refine K.block ?_ | refine K.inBlock ?_ | refine K.label ?_)
  refine K.dite rfl (fun h => ?_) (fun h => ?_)
  · replace h : retry < 1000 := h
    have hr : (if (999 : Int) < retry then (999 : Int) else retry) = retry := by split <;> omega
    repeat (first | refine K.seq ?_ | refine K.skip ?_ | refine K.block ?_ | refine K.inBlock ?_ | refine K.label ?_)
    refine K.region ?_
    refine KO.q rfl (q_field fo_24_2 rfl) ?_
    refine KO.q rfl (q_load1 ck_3 rfl (by first | (apply cell_pv; (repeat (first | exact List.Mem.head _ | apply List.Mem.tail)); rfl) | (apply cell_fv; (repeat (first | exact List.Mem.head _ | apply List.Mem.tail)); rfl) | (apply rowF_cellU; (repeat (first | exact List.Mem.head _ | apply List.Mem.tail)); assumption) | (apply itm_cell; (repeat (first | exact List.Mem.head _ | apply List.Mem.tail)); assumption; rfl))) ?_
    refine KO.q rfl (q_add rfl rfl (by first | omega | (simp; omega)) (by first | omega | (simp; omega))) ?_
    refine KO.q rfl (q_field fo_24_2 rfl) ?_
    refine KO.loudN rfl (l_store1 ck_3 rfl rfl rfl (by repeat (first | exact Pick.here | apply Pick.there)) (by repeat (first | exact SetAt.here | apply SetAt.there))) ?_
    rintro _ _ ⟨rfl, rfl⟩
    refine KO.done ?_
    repeat (first | refine K.seq ?_ | refine K.skip ?_ | refine K.block ?_ | refine K.inBlock ?_ | refine K.label ?_)
    repeat (first | refine K.seq ?_ | refine K.skip ?_ | refine K.block ?_ | refine K.inBlock ?_ | refine K.label ?_)
    refine K.draw [pv b2 24 [.int .i64 id, .int .i64 pri, .int .i64 (retry + 1), .bool false, .string corr, .string body]] mixed ?_
    refine D.q 0 rfl (by kernel_rfl) (by kernel_rfl) (q_loadN ck_24 rfl rfl (by first | (apply cells_pv; (repeat (first | exact List.Mem.head _ | apply List.Mem.tail))) | (apply cells_fv; (repeat (first | exact List.Mem.head _ | apply List.Mem.tail))))) (fun _ h => h.sub (by repeat (first | exact Give.nil | (apply Give.perI; (repeat (first | exact List.Mem.head _ | apply List.Mem.tail))) | (apply Give.own; (repeat (first | exact Pick.here | apply Pick.there)))))) ?_
    refine D.q 1 rfl (by kernel_rfl) (by kernel_rfl) (q_field fo_24_2 rfl) (fun _ h => h.sub (by repeat (first | exact Give.nil | (apply Give.perI; (repeat (first | exact List.Mem.head _ | apply List.Mem.tail))) | (apply Give.own; (repeat (first | exact Pick.here | apply Pick.there)))))) ?_
    refine D.q 2 rfl (by kernel_rfl) (by kernel_rfl) (q_load1 ck_3 rfl (by first | (apply cell_pv; (repeat (first | exact List.Mem.head _ | apply List.Mem.tail)); rfl) | (apply cell_fv; (repeat (first | exact List.Mem.head _ | apply List.Mem.tail)); rfl) | (apply rowF_cellU; (repeat (first | exact List.Mem.head _ | apply List.Mem.tail)); assumption) | (apply itm_cell; (repeat (first | exact List.Mem.head _ | apply List.Mem.tail)); assumption; rfl))) (fun _ h => h.sub (by repeat (first | exact Give.nil | (apply Give.perI; (repeat (first | exact List.Mem.head _ | apply List.Mem.tail))) | (apply Give.own; (repeat (first | exact Pick.here | apply Pick.there)))))) ?_
    refine D.q 3 rfl (by kernel_rfl) (by kernel_rfl) (q_move rfl) (fun _ h => h.sub (by repeat (first | exact Give.nil | (apply Give.perI; (repeat (first | exact List.Mem.head _ | apply List.Mem.tail))) | (apply Give.own; (repeat (first | exact Pick.here | apply Pick.there)))))) ?_
    refine D.q 4 rfl (by kernel_rfl) (by kernel_rfl) (q_ge rfl rfl) (fun _ h => h.sub (by repeat (first | exact Give.nil | (apply Give.perI; (repeat (first | exact List.Mem.head _ | apply List.Mem.tail))) | (apply Give.own; (repeat (first | exact Pick.here | apply Pick.there)))))) ?_
    refine D.all (rs := [5]) (by kernel_rfl) rfl (DAll.consN rfl (by kernel_rfl) (l_storeN ck_24 rfl rfl rfl (by simp [Value.oneCell']) (by repeat (first | exact Pick.here | apply Pick.there)) (by repeat (first | exact SetN.nil | apply SetN.cons | exact SetAt.here | apply SetAt.there))) (.inr (by rintro _ _ ⟨rfl, rfl⟩ w h; exact h.sub (by repeat (first | exact Give.nil | (apply Give.perI; (repeat (first | exact List.Mem.head _ | apply List.Mem.tail))) | (apply Give.own; (repeat (first | exact Pick.here | apply Pick.there))))))) rfl ?_ DAll.nil)
    rintro _ _ ⟨rfl, rfl⟩
    refine D.all (rs := [6]) (by kernel_rfl) rfl (DAll.cons rfl (by kernel_rfl) (OpQ.loud (q_assign rfl)) (.inl (by kernel_rfl)) rfl ?_ DAll.nil)
    rintro _ _ ⟨rfl, rfl⟩
    refine D.done (by kernel_rfl) ?_
    repeat (first | refine K.seq ?_ | refine K.skip ?_ | refine K.block ?_ | refine K.inBlock ?_ | refine K.label ?_)
    refine K.ret (fn := Try.f19) Try.func19 (fun a w hk hs => resCT Try.results19 hk rfl ck_24 rfl (cells_pv (by repeat (first | exact List.Mem.head _ | apply List.Mem.tail)) w hs) rfl) (fun w hs => ?_)
    exact ⟨_, [], rfl, ⟨by rw [Msg.tried]; simp only [Msg.cells]; rw [hr], rfl⟩, hs.fit (by repeat (first | exact Give.nil | (apply Give.perI; (repeat (first | exact List.Mem.head _ | apply List.Mem.tail))) | (apply Give.own; (repeat (first | exact Pick.here | apply Pick.there))))) (by repeat (first | exact Drop.refl | apply Drop.skip))⟩
  · replace h : ¬ retry < 1000 := h
    have hr : (if (999 : Int) < retry then (999 : Int) else retry) = 999 := by split <;> omega
    repeat (first | refine K.seq ?_ | refine K.skip ?_ | refine K.block ?_ | refine K.inBlock ?_ | refine K.label ?_)
    refine K.region ?_
    refine KO.q rfl (q_field fo_24_2 rfl) ?_
    refine KO.loudN rfl (l_store1 ck_3 rfl rfl rfl (by repeat (first | exact Pick.here | apply Pick.there)) (by repeat (first | exact SetAt.here | apply SetAt.there))) ?_
    rintro _ _ ⟨rfl, rfl⟩
    refine KO.done ?_
    repeat (first | refine K.seq ?_ | refine K.skip ?_ | refine K.block ?_ | refine K.inBlock ?_ | refine K.label ?_)
    repeat (first | refine K.seq ?_ | refine K.skip ?_ | refine K.block ?_ | refine K.inBlock ?_ | refine K.label ?_)
    refine K.draw [pv b2 24 [.int .i64 id, .int .i64 pri, .int .i64 1000, .bool false, .string corr, .string body]] mixed ?_
    refine D.q 0 rfl (by kernel_rfl) (by kernel_rfl) (q_loadN ck_24 rfl rfl (by first | (apply cells_pv; (repeat (first | exact List.Mem.head _ | apply List.Mem.tail))) | (apply cells_fv; (repeat (first | exact List.Mem.head _ | apply List.Mem.tail))))) (fun _ h => h.sub (by repeat (first | exact Give.nil | (apply Give.perI; (repeat (first | exact List.Mem.head _ | apply List.Mem.tail))) | (apply Give.own; (repeat (first | exact Pick.here | apply Pick.there)))))) ?_
    refine D.q 1 rfl (by kernel_rfl) (by kernel_rfl) (q_field fo_24_2 rfl) (fun _ h => h.sub (by repeat (first | exact Give.nil | (apply Give.perI; (repeat (first | exact List.Mem.head _ | apply List.Mem.tail))) | (apply Give.own; (repeat (first | exact Pick.here | apply Pick.there)))))) ?_
    refine D.q 2 rfl (by kernel_rfl) (by kernel_rfl) (q_load1 ck_3 rfl (by first | (apply cell_pv; (repeat (first | exact List.Mem.head _ | apply List.Mem.tail)); rfl) | (apply cell_fv; (repeat (first | exact List.Mem.head _ | apply List.Mem.tail)); rfl) | (apply rowF_cellU; (repeat (first | exact List.Mem.head _ | apply List.Mem.tail)); assumption) | (apply itm_cell; (repeat (first | exact List.Mem.head _ | apply List.Mem.tail)); assumption; rfl))) (fun _ h => h.sub (by repeat (first | exact Give.nil | (apply Give.perI; (repeat (first | exact List.Mem.head _ | apply List.Mem.tail))) | (apply Give.own; (repeat (first | exact Pick.here | apply Pick.there)))))) ?_
    refine D.q 3 rfl (by kernel_rfl) (by kernel_rfl) (q_move rfl) (fun _ h => h.sub (by repeat (first | exact Give.nil | (apply Give.perI; (repeat (first | exact List.Mem.head _ | apply List.Mem.tail))) | (apply Give.own; (repeat (first | exact Pick.here | apply Pick.there)))))) ?_
    refine D.q 4 rfl (by kernel_rfl) (by kernel_rfl) (q_ge rfl rfl) (fun _ h => h.sub (by repeat (first | exact Give.nil | (apply Give.perI; (repeat (first | exact List.Mem.head _ | apply List.Mem.tail))) | (apply Give.own; (repeat (first | exact Pick.here | apply Pick.there)))))) ?_
    refine D.all (rs := [5]) (by kernel_rfl) rfl (DAll.consN rfl (by kernel_rfl) (l_storeN ck_24 rfl rfl rfl (by simp [Value.oneCell']) (by repeat (first | exact Pick.here | apply Pick.there)) (by repeat (first | exact SetN.nil | apply SetN.cons | exact SetAt.here | apply SetAt.there))) (.inr (by rintro _ _ ⟨rfl, rfl⟩ w h; exact h.sub (by repeat (first | exact Give.nil | (apply Give.perI; (repeat (first | exact List.Mem.head _ | apply List.Mem.tail))) | (apply Give.own; (repeat (first | exact Pick.here | apply Pick.there))))))) rfl ?_ DAll.nil)
    rintro _ _ ⟨rfl, rfl⟩
    refine D.all (rs := [6]) (by kernel_rfl) rfl (DAll.cons rfl (by kernel_rfl) (OpQ.loud (q_assign rfl)) (.inl (by kernel_rfl)) rfl ?_ DAll.nil)
    rintro _ _ ⟨rfl, rfl⟩
    refine D.done (by kernel_rfl) ?_
    repeat (first | refine K.seq ?_ | refine K.skip ?_ | refine K.block ?_ | refine K.inBlock ?_ | refine K.label ?_)
    refine K.ret (fn := Try.f19) Try.func19 (fun a w hk hs => resCT Try.results19 hk rfl ck_24 rfl (cells_pv (by repeat (first | exact List.Mem.head _ | apply List.Mem.tail)) w hs) rfl) (fun w hs => ?_)
    exact ⟨_, [], rfl, ⟨by rw [Msg.tried]; simp only [Msg.cells]; rw [hr]; rfl, rfl⟩, hs.fit (by repeat (first | exact Give.nil | (apply Give.perI; (repeat (first | exact List.Mem.head _ | apply List.Mem.tail))) | (apply Give.own; (repeat (first | exact Pick.here | apply Pick.there))))) (by repeat (first | exact Drop.refl | apply Drop.skip))⟩
theorem ref_Right (m : Msg) : Fn Try.prog 20 [.agg m.cells.toArray].toArray [] (fun v post => v = .bool m.right ∧ post = []) := by
  obtain ⟨id, pri, retry, claimed, corr, body⟩ := m
  refine Fn.enter (N := 43) Try.func20 rfl Try.ntmps20 (by kernel_rfl) rfl (fun ρ L => ?_)
  repeat (first | refine K.seq ?_ | refine K.skip ?_ | refine K.block ?_ | refine K.inBlock ?_ | refine K.label ?_)
  refine K.region ?_
  refine KO.loud rfl (l_box rfl rfl) ?_
  rintro _ _ ⟨b1, rfl, rfl⟩
  refine KO.q rfl (q_assign rfl) ?_
  refine KO.done ?_
  repeat (first | refine K.seq ?_ | refine K.skip ?_ | refine K.block ?_ | refine K.inBlock ?_ | refine K.label ?_)
  repeat (first | refine K.seq ?_ | refine K.skip ?_ | refine K.block ?_ | refine K.inBlock ?_ | refine K.label ?_)
  refine K.region ?_
  refine KO.q rfl (q_field fo_24_0 rfl) ?_
  refine KO.q rfl (q_load1 ck_3 rfl (by first | (apply cell_pv; (repeat (first | exact List.Mem.head _ | apply List.Mem.tail)); rfl) | (apply cell_fv; (repeat (first | exact List.Mem.head _ | apply List.Mem.tail)); rfl) | (apply rowF_cellU; (repeat (first | exact List.Mem.head _ | apply List.Mem.tail)); assumption) | (apply itm_cell; (repeat (first | exact List.Mem.head _ | apply List.Mem.tail)); assumption; rfl))) ?_
  refine KO.q rfl (q_ge rfl rfl) ?_
  refine KO.q rfl (q_move rfl) ?_
  refine KO.dsplit 6 rfl (fun g6 => ?_) (fun g6 => ?_)
  · refine KO.q rfl (q_field fo_24_0 rfl) ?_
    refine KO.q rfl (q_load1 ck_3 rfl (by first | (apply cell_pv; (repeat (first | exact List.Mem.head _ | apply List.Mem.tail)); rfl) | (apply cell_fv; (repeat (first | exact List.Mem.head _ | apply List.Mem.tail)); rfl) | (apply rowF_cellU; (repeat (first | exact List.Mem.head _ | apply List.Mem.tail)); assumption) | (apply itm_cell; (repeat (first | exact List.Mem.head _ | apply List.Mem.tail)); assumption; rfl))) ?_
    refine KO.q rfl (q_le rfl rfl) ?_
    refine KO.q rfl (q_pickT rfl rfl) ?_
    refine KO.q rfl (q_move rfl) ?_
    refine KO.dsplit 11 rfl (fun g11 => ?_) (fun g11 => ?_)
    · refine KO.q rfl (q_field fo_24_1 rfl) ?_
      refine KO.q rfl (q_load1 ck_3 rfl (by first | (apply cell_pv; (repeat (first | exact List.Mem.head _ | apply List.Mem.tail)); rfl) | (apply cell_fv; (repeat (first | exact List.Mem.head _ | apply List.Mem.tail)); rfl) | (apply rowF_cellU; (repeat (first | exact List.Mem.head _ | apply List.Mem.tail)); assumption) | (apply itm_cell; (repeat (first | exact List.Mem.head _ | apply List.Mem.tail)); assumption; rfl))) ?_
      refine KO.q rfl (q_ge rfl rfl) ?_
      refine KO.q rfl (q_pickT rfl rfl) ?_
      refine KO.q rfl (q_move rfl) ?_
      refine KO.dsplit 16 rfl (fun g16 => ?_) (fun g16 => ?_)
      · refine KO.q rfl (q_field fo_24_1 rfl) ?_
        refine KO.q rfl (q_load1 ck_3 rfl (by first | (apply cell_pv; (repeat (first | exact List.Mem.head _ | apply List.Mem.tail)); rfl) | (apply cell_fv; (repeat (first | exact List.Mem.head _ | apply List.Mem.tail)); rfl) | (apply rowF_cellU; (repeat (first | exact List.Mem.head _ | apply List.Mem.tail)); assumption) | (apply itm_cell; (repeat (first | exact List.Mem.head _ | apply List.Mem.tail)); assumption; rfl))) ?_
        refine KO.q rfl (q_le rfl rfl) ?_
        refine KO.q rfl (q_pickT rfl rfl) ?_
        refine KO.q rfl (q_move rfl) ?_
        refine KO.dsplit 21 rfl (fun g21 => ?_) (fun g21 => ?_)
        · refine KO.q rfl (q_field fo_24_2 rfl) ?_
          refine KO.q rfl (q_load1 ck_3 rfl (by first | (apply cell_pv; (repeat (first | exact List.Mem.head _ | apply List.Mem.tail)); rfl) | (apply cell_fv; (repeat (first | exact List.Mem.head _ | apply List.Mem.tail)); rfl) | (apply rowF_cellU; (repeat (first | exact List.Mem.head _ | apply List.Mem.tail)); assumption) | (apply itm_cell; (repeat (first | exact List.Mem.head _ | apply List.Mem.tail)); assumption; rfl))) ?_
          refine KO.q rfl (q_ge rfl rfl) ?_
          refine KO.q rfl (q_pickT rfl rfl) ?_
          refine KO.q rfl (q_move rfl) ?_
          refine KO.dsplit 26 rfl (fun g26 => ?_) (fun g26 => ?_)
          · refine KO.q rfl (q_field fo_24_2 rfl) ?_
            refine KO.q rfl (q_load1 ck_3 rfl (by first | (apply cell_pv; (repeat (first | exact List.Mem.head _ | apply List.Mem.tail)); rfl) | (apply cell_fv; (repeat (first | exact List.Mem.head _ | apply List.Mem.tail)); rfl) | (apply rowF_cellU; (repeat (first | exact List.Mem.head _ | apply List.Mem.tail)); assumption) | (apply itm_cell; (repeat (first | exact List.Mem.head _ | apply List.Mem.tail)); assumption; rfl))) ?_
            refine KO.q rfl (q_le rfl rfl) ?_
            refine KO.q rfl (q_pickT rfl rfl) ?_
            refine KO.q rfl (q_move rfl) ?_
            refine KO.dsplit 31 rfl (fun g31 => ?_) (fun g31 => ?_)
            · refine KO.q rfl (q_field fo_24_4 rfl) ?_
              refine KO.q rfl (q_load1 ck_9 rfl (by first | (apply cell_pv; (repeat (first | exact List.Mem.head _ | apply List.Mem.tail)); rfl) | (apply cell_fv; (repeat (first | exact List.Mem.head _ | apply List.Mem.tail)); rfl) | (apply rowF_cellU; (repeat (first | exact List.Mem.head _ | apply List.Mem.tail)); assumption) | (apply itm_cell; (repeat (first | exact List.Mem.head _ | apply List.Mem.tail)); assumption; rfl))) ?_
              refine KO.q rfl (q_lenS Try.underlying9 rfl) ?_
              refine KO.q rfl (q_le rfl rfl) ?_
              refine KO.q rfl (q_pickT rfl rfl) ?_
              refine KO.q rfl (q_move rfl) ?_
              refine KO.dsplit 37 rfl (fun g37 => ?_) (fun g37 => ?_)
              · refine KO.q rfl (q_field fo_24_5 rfl) ?_
                refine KO.q rfl (q_load1 ck_9 rfl (by first | (apply cell_pv; (repeat (first | exact List.Mem.head _ | apply List.Mem.tail)); rfl) | (apply cell_fv; (repeat (first | exact List.Mem.head _ | apply List.Mem.tail)); rfl) | (apply rowF_cellU; (repeat (first | exact List.Mem.head _ | apply List.Mem.tail)); assumption) | (apply itm_cell; (repeat (first | exact List.Mem.head _ | apply List.Mem.tail)); assumption; rfl))) ?_
                refine KO.q rfl (q_lenS Try.underlying9 rfl) ?_
                refine KO.q rfl (q_le rfl rfl) ?_
                refine KO.q rfl (q_pickT rfl rfl) ?_
                refine KO.q rfl (q_assign rfl) ?_
                refine KO.done ?_
                repeat (first | refine K.seq ?_ | refine K.skip ?_ | refine K.block ?_ | refine K.inBlock ?_ | refine K.label ?_)
                refine K.ret (fn := Try.f20) Try.func20 (fun a w hk hs => res1 Try.results20 hk rfl) (fun w hs => ?_)
                exact ⟨_, [], rfl, ⟨by simp [Msg.right, *], rfl⟩, hs.tail⟩
              · refine KO.skip rfl ?_
                refine KO.skip rfl ?_
                refine KO.skip rfl ?_
                refine KO.skip rfl ?_
                refine KO.q rfl (q_pickF rfl rfl) ?_
                refine KO.q rfl (q_assign rfl) ?_
                refine KO.done ?_
                repeat (first | refine K.seq ?_ | refine K.skip ?_ | refine K.block ?_ | refine K.inBlock ?_ | refine K.label ?_)
                refine K.ret (fn := Try.f20) Try.func20 (fun a w hk hs => res1 Try.results20 hk rfl) (fun w hs => ?_)
                exact ⟨_, [], rfl, ⟨by simp [Msg.right, *], rfl⟩, hs.tail⟩
            · refine KO.skip rfl ?_
              refine KO.skip rfl ?_
              refine KO.skip rfl ?_
              refine KO.skip rfl ?_
              refine KO.q rfl (q_pickF rfl rfl) ?_
              refine KO.q rfl (q_move rfl) ?_
              refine KO.skip rfl ?_
              refine KO.skip rfl ?_
              refine KO.skip rfl ?_
              refine KO.skip rfl ?_
              refine KO.q rfl (q_pickF rfl rfl) ?_
              refine KO.q rfl (q_assign rfl) ?_
              refine KO.done ?_
              repeat (first | refine K.seq ?_ | refine K.skip ?_ | refine K.block ?_ | refine K.inBlock ?_ | refine K.label ?_)
              refine K.ret (fn := Try.f20) Try.func20 (fun a w hk hs => res1 Try.results20 hk rfl) (fun w hs => ?_)
              exact ⟨_, [], rfl, ⟨by simp [Msg.right, *], rfl⟩, hs.tail⟩
          · refine KO.skip rfl ?_
            refine KO.skip rfl ?_
            refine KO.skip rfl ?_
            refine KO.q rfl (q_pickF rfl rfl) ?_
            refine KO.q rfl (q_move rfl) ?_
            refine KO.skip rfl ?_
            refine KO.skip rfl ?_
            refine KO.skip rfl ?_
            refine KO.skip rfl ?_
            refine KO.q rfl (q_pickF rfl rfl) ?_
            refine KO.q rfl (q_move rfl) ?_
            refine KO.skip rfl ?_
            refine KO.skip rfl ?_
            refine KO.skip rfl ?_
            refine KO.skip rfl ?_
            refine KO.q rfl (q_pickF rfl rfl) ?_
            refine KO.q rfl (q_assign rfl) ?_
            refine KO.done ?_
            repeat (first | refine K.seq ?_ | refine K.skip ?_ | refine K.block ?_ | refine K.inBlock ?_ | refine K.label ?_)
            refine K.ret (fn := Try.f20) Try.func20 (fun a w hk hs => res1 Try.results20 hk rfl) (fun w hs => ?_)
            exact ⟨_, [], rfl, ⟨by simp [Msg.right, *], rfl⟩, hs.tail⟩
        · refine KO.skip rfl ?_
          refine KO.skip rfl ?_
          refine KO.skip rfl ?_
          refine KO.q rfl (q_pickF rfl rfl) ?_
          refine KO.q rfl (q_move rfl) ?_
          refine KO.skip rfl ?_
          refine KO.skip rfl ?_
          refine KO.skip rfl ?_
          refine KO.q rfl (q_pickF rfl rfl) ?_
          refine KO.q rfl (q_move rfl) ?_
          refine KO.skip rfl ?_
          refine KO.skip rfl ?_
          refine KO.skip rfl ?_
          refine KO.skip rfl ?_
          refine KO.q rfl (q_pickF rfl rfl) ?_
          refine KO.q rfl (q_move rfl) ?_
          refine KO.skip rfl ?_
          refine KO.skip rfl ?_
          refine KO.skip rfl ?_
          refine KO.skip rfl ?_
          refine KO.q rfl (q_pickF rfl rfl) ?_
          refine KO.q rfl (q_assign rfl) ?_
          refine KO.done ?_
          repeat (first | refine K.seq ?_ | refine K.skip ?_ | refine K.block ?_ | refine K.inBlock ?_ | refine K.label ?_)
          refine K.ret (fn := Try.f20) Try.func20 (fun a w hk hs => res1 Try.results20 hk rfl) (fun w hs => ?_)
          exact ⟨_, [], rfl, ⟨by simp [Msg.right, *], rfl⟩, hs.tail⟩
      · refine KO.skip rfl ?_
        refine KO.skip rfl ?_
        refine KO.skip rfl ?_
        refine KO.q rfl (q_pickF rfl rfl) ?_
        refine KO.q rfl (q_move rfl) ?_
        refine KO.skip rfl ?_
        refine KO.skip rfl ?_
        refine KO.skip rfl ?_
        refine KO.q rfl (q_pickF rfl rfl) ?_
        refine KO.q rfl (q_move rfl) ?_
        refine KO.skip rfl ?_
        refine KO.skip rfl ?_
        refine KO.skip rfl ?_
        refine KO.q rfl (q_pickF rfl rfl) ?_
        refine KO.q rfl (q_move rfl) ?_
        refine KO.skip rfl ?_
        refine KO.skip rfl ?_
        refine KO.skip rfl ?_
        refine KO.skip rfl ?_
        refine KO.q rfl (q_pickF rfl rfl) ?_
        refine KO.q rfl (q_move rfl) ?_
        refine KO.skip rfl ?_
        refine KO.skip rfl ?_
        refine KO.skip rfl ?_
        refine KO.skip rfl ?_
        refine KO.q rfl (q_pickF rfl rfl) ?_
        refine KO.q rfl (q_assign rfl) ?_
        refine KO.done ?_
        repeat (first | refine K.seq ?_ | refine K.skip ?_ | refine K.block ?_ | refine K.inBlock ?_ | refine K.label ?_)
        refine K.ret (fn := Try.f20) Try.func20 (fun a w hk hs => res1 Try.results20 hk rfl) (fun w hs => ?_)
        exact ⟨_, [], rfl, ⟨by simp [Msg.right, *], rfl⟩, hs.tail⟩
    · refine KO.skip rfl ?_
      refine KO.skip rfl ?_
      refine KO.skip rfl ?_
      refine KO.q rfl (q_pickF rfl rfl) ?_
      refine KO.q rfl (q_move rfl) ?_
      refine KO.skip rfl ?_
      refine KO.skip rfl ?_
      refine KO.skip rfl ?_
      refine KO.q rfl (q_pickF rfl rfl) ?_
      refine KO.q rfl (q_move rfl) ?_
      refine KO.skip rfl ?_
      refine KO.skip rfl ?_
      refine KO.skip rfl ?_
      refine KO.q rfl (q_pickF rfl rfl) ?_
      refine KO.q rfl (q_move rfl) ?_
      refine KO.skip rfl ?_
      refine KO.skip rfl ?_
      refine KO.skip rfl ?_
      refine KO.q rfl (q_pickF rfl rfl) ?_
      refine KO.q rfl (q_move rfl) ?_
      refine KO.skip rfl ?_
      refine KO.skip rfl ?_
      refine KO.skip rfl ?_
      refine KO.skip rfl ?_
      refine KO.q rfl (q_pickF rfl rfl) ?_
      refine KO.q rfl (q_move rfl) ?_
      refine KO.skip rfl ?_
      refine KO.skip rfl ?_
      refine KO.skip rfl ?_
      refine KO.skip rfl ?_
      refine KO.q rfl (q_pickF rfl rfl) ?_
      refine KO.q rfl (q_assign rfl) ?_
      refine KO.done ?_
      repeat (first | refine K.seq ?_ | refine K.skip ?_ | refine K.block ?_ | refine K.inBlock ?_ | refine K.label ?_)
      refine K.ret (fn := Try.f20) Try.func20 (fun a w hk hs => res1 Try.results20 hk rfl) (fun w hs => ?_)
      exact ⟨_, [], rfl, ⟨by simp [Msg.right, *], rfl⟩, hs.tail⟩
  · refine KO.skip rfl ?_
    refine KO.skip rfl ?_
    refine KO.skip rfl ?_
    refine KO.q rfl (q_pickF rfl rfl) ?_
    refine KO.q rfl (q_move rfl) ?_
    refine KO.skip rfl ?_
    refine KO.skip rfl ?_
    refine KO.skip rfl ?_
    refine KO.q rfl (q_pickF rfl rfl) ?_
    refine KO.q rfl (q_move rfl) ?_
    refine KO.skip rfl ?_
    refine KO.skip rfl ?_
    refine KO.skip rfl ?_
    refine KO.q rfl (q_pickF rfl rfl) ?_
    refine KO.q rfl (q_move rfl) ?_
    refine KO.skip rfl ?_
    refine KO.skip rfl ?_
    refine KO.skip rfl ?_
    refine KO.q rfl (q_pickF rfl rfl) ?_
    refine KO.q rfl (q_move rfl) ?_
    refine KO.skip rfl ?_
    refine KO.skip rfl ?_
    refine KO.skip rfl ?_
    refine KO.q rfl (q_pickF rfl rfl) ?_
    refine KO.q rfl (q_move rfl) ?_
    refine KO.skip rfl ?_
    refine KO.skip rfl ?_
    refine KO.skip rfl ?_
    refine KO.skip rfl ?_
    refine KO.q rfl (q_pickF rfl rfl) ?_
    refine KO.q rfl (q_move rfl) ?_
    refine KO.skip rfl ?_
    refine KO.skip rfl ?_
    refine KO.skip rfl ?_
    refine KO.skip rfl ?_
    refine KO.q rfl (q_pickF rfl rfl) ?_
    refine KO.q rfl (q_assign rfl) ?_
    refine KO.done ?_
    repeat (first | refine K.seq ?_ | refine K.skip ?_ | refine K.block ?_ | refine K.inBlock ?_ | refine K.label ?_)
    refine K.ret (fn := Try.f20) Try.func20 (fun a w hk hs => res1 Try.results20 hk rfl) (fun w hs => ?_)
    exact ⟨_, [], rfl, ⟨by simp [Msg.right, *], rfl⟩, hs.tail⟩
theorem alive14 : Fn Try.prog 16 [].toArray [] (fun r post => r = .bool true ∧ post = []) := by
  refine Fn.enter (N := 28) Try.func16 rfl Try.ntmps16 (by kernel_rfl) rfl (fun ρ L => ?_)
  repeat (first | refine K.seq ?_ | refine K.skip ?_ | refine K.block ?_ | refine K.inBlock ?_ | refine K.label ?_)
  refine K.region ?_
  refine KO.q rfl (q_assign rfl) ?_
  refine KO.done ?_
  repeat (first | refine K.seq ?_ | refine K.skip ?_ | refine K.block ?_ | refine K.inBlock ?_ | refine K.label ?_)
  repeat (first | refine K.seq ?_ | refine K.skip ?_ | refine K.block ?_ | refine K.inBlock ?_ | refine K.label ?_)
  refine K.region ?_
  refine KO.q rfl (q_build st_24 rfl (by repeat (first | exact Fill.nil | (apply Fill.cons; rfl; rfl; rfl) | exact SetN.nil | apply SetN.cons | exact SetAt.here | apply SetAt.there))) ?_
  refine KO.loud rfl (OpL.call rfl (msg_Tried ⟨1, 0, 0, true, ⟨#[]⟩, ⟨#[]⟩⟩ 1 (by decide)) (by repeat (first | exact Give.nil | (apply Give.perI; (repeat (first | exact List.Mem.head _ | apply List.Mem.tail))) | (apply Give.own; (repeat (first | exact Pick.here | apply Pick.there)))))) ?_
  rintro _ _ ⟨_, ⟨rfl, rfl⟩, rfl⟩
  refine KO.q rfl (q_move rfl) ?_
  refine KO.q rfl (q_extract rfl rfl) ?_
  refine KO.q rfl (q_extract rfl rfl) ?_
  refine KO.loud rfl (l_alloc zo_24) ?_
  rintro _ _ ⟨b1, rfl, rfl⟩
  refine KO.loudN rfl (l_storeN ck_24 rfl rfl rfl (msg_one _) (by repeat (first | exact Pick.here | apply Pick.there)) (by repeat (first | exact SetN.nil | apply SetN.cons | exact SetAt.here | apply SetAt.there))) ?_
  rintro _ _ ⟨rfl, rfl⟩
  refine KO.q rfl (q_assign rfl) ?_
  refine KO.done ?_
  repeat (first | refine K.seq ?_ | refine K.skip ?_ | refine K.block ?_ | refine K.inBlock ?_ | refine K.label ?_)
  repeat (first | refine K.seq ?_ | refine K.skip ?_ | refine K.block ?_ | refine K.inBlock ?_ | refine K.label ?_)
  refine K.region ?_
  refine KO.q rfl (q_build st_24 rfl (by repeat (first | exact Fill.nil | (apply Fill.cons; rfl; rfl; rfl) | exact SetN.nil | apply SetN.cons | exact SetAt.here | apply SetAt.there))) ?_
  refine KO.loud rfl (OpL.call rfl (msg_Right ⟨0, 0, 0, false, ⟨#[]⟩, ⟨#[]⟩⟩) (by repeat (first | exact Give.nil | (apply Give.perI; (repeat (first | exact List.Mem.head _ | apply List.Mem.tail))) | (apply Give.own; (repeat (first | exact Pick.here | apply Pick.there)))))) ?_
  rintro _ _ ⟨_, ⟨rfl, rfl⟩, rfl⟩
  refine KO.q rfl (q_not rfl) ?_
  refine KO.q rfl (q_move rfl) ?_
  refine KO.q rfl (q_build st_24 rfl (by repeat (first | exact Fill.nil | (apply Fill.cons; rfl; rfl; rfl) | exact SetN.nil | apply SetN.cons | exact SetAt.here | apply SetAt.there))) ?_
  refine KO.loud rfl (OpL.call rfl (msg_Right ⟨1, 0, 0, false, ⟨#[]⟩, ⟨#[]⟩⟩) (by repeat (first | exact Give.nil | (apply Give.perI; (repeat (first | exact List.Mem.head _ | apply List.Mem.tail))) | (apply Give.own; (repeat (first | exact Pick.here | apply Pick.there)))))) ?_
  rintro _ _ ⟨_, ⟨rfl, rfl⟩, rfl⟩
  refine KO.q rfl (q_pickT rfl rfl) ?_
  refine KO.q rfl (q_move rfl) ?_
  refine KO.q rfl (q_field fo_24_2 rfl) ?_
  refine KO.q rfl (q_load1 ck_3 rfl (by first | (apply cell_pv; (repeat (first | exact List.Mem.head _ | apply List.Mem.tail)); rfl) | (apply cell_fv; (repeat (first | exact List.Mem.head _ | apply List.Mem.tail)); rfl) | (apply rowF_cellU; (repeat (first | exact List.Mem.head _ | apply List.Mem.tail)); assumption) | (apply itm_cell; (repeat (first | exact List.Mem.head _ | apply List.Mem.tail)); assumption; rfl))) ?_
  refine KO.q rfl (q_eq rfl rfl) ?_
  refine KO.q rfl (q_pickT rfl rfl) ?_
  refine KO.q rfl (q_move rfl) ?_
  refine KO.q rfl (q_move rfl) ?_
  refine KO.q rfl (q_pickT rfl rfl) ?_
  refine KO.q rfl (q_move rfl) ?_
  refine KO.q rfl (q_field fo_24_3 rfl) ?_
  refine KO.q rfl (q_load1 ck_4 rfl (by first | (apply cell_pv; (repeat (first | exact List.Mem.head _ | apply List.Mem.tail)); rfl) | (apply cell_fv; (repeat (first | exact List.Mem.head _ | apply List.Mem.tail)); rfl) | (apply rowF_cellU; (repeat (first | exact List.Mem.head _ | apply List.Mem.tail)); assumption) | (apply itm_cell; (repeat (first | exact List.Mem.head _ | apply List.Mem.tail)); assumption; rfl))) ?_
  refine KO.q rfl (q_not rfl) ?_
  refine KO.q rfl (q_pickT rfl rfl) ?_
  refine KO.q rfl (q_assign rfl) ?_
  refine KO.done ?_
  repeat (first | refine K.seq ?_ | refine K.skip ?_ | refine K.block ?_ | refine K.inBlock ?_ | refine K.label ?_)
  refine K.ret (fn := Try.f16) Try.func16 (fun a w hk hs => res1 Try.results16 hk rfl) (fun w hs => ?_)
  exact ⟨_, [], rfl, ⟨rfl, rfl⟩, hs.fit (by repeat (first | exact Give.nil | (apply Give.perI; (repeat (first | exact List.Mem.head _ | apply List.Mem.tail))) | (apply Give.own; (repeat (first | exact Pick.here | apply Pick.there))))) (by repeat (first | exact Drop.refl | apply Drop.skip))⟩
end Go.Proofs.Ytlellgnklohclaa.L
