/- Walks: messages. Walks: the bytes of a message, and what is read of bytes. Walks: postelaw14.MessageReads, MessageBack. A message as an argument. Messages and rows as records: equality is decided. Walks: texts of any length, written; messages of any texts. -/
import Derived.Test.YtlellgnklohclaaWC
import Derived.Test.YtlellgnklohclaaLC
import Derived.Test.YtlellgnklohclaaWA
import Derived.WalkKit
import Derived.Test.YtlellgnklohclaaLB
/-! Walks: messages. -/
namespace Go.Proofs.Ytlellgnklohclaa.L
open Go Go.Proofs
attribute [local irreducible] pv fv pt fz RowF RowO rowP old pure_
set_option maxRecDepth 100000
set_option linter.unusedSimpArgs false
set_option linter.unusedVariables false

/-- A message. -/
structure Msg where
  id : Int
  pri : Int
  retry : Int
  claimed : Bool
  corr : ByteArray
  body : ByteArray
def Msg.cells (x : Msg) : List Value := [.int .i64 x.id, .int .i64 x.pri, .int .i64 x.retry, .bool x.claimed, .string x.corr, .string x.body]
def Kd.msg : Kd Msg := Kd.flat 6 Msg.cells (fun _ => rfl) (fun _ v h => by simp [Msg.cells] at h; rcases h with rfl | rfl | rfl | rfl | rfl | rfl <;> rfl)
theorem msg_one (x : Msg) : ∀ v ∈ x.cells, v.oneCell' = true := fun v h => by simp [Msg.cells] at h; rcases h with rfl | rfl | rfl | rfl | rfl | rfl <;> rfl
theorem msg_cell {ρ : World} {L : List HP} {b o : Nat} {l : List Msg} {i j : Nat} {x : Msg} {v : Value} (m : RowF Kd.msg (some ⟨b, o, none⟩) l ∈ L) (hx : l[i]? = some x) (hv : x.cells[j]? = some v) : ∀ w, St ρ L w → w.cell? ⟨b, o + i * 6 + j, none⟩ = some v := rowF_cell m hx hv
def Msg.right (m : Msg) : Bool := decide (1 ≤ m.id) && decide (m.id ≤ 1099511627776) && decide (-1000 ≤ m.pri) && decide (m.pri ≤ 1000) && decide (0 ≤ m.retry) && decide (m.retry ≤ 1000) && decide ((m.corr.size : Int) ≤ 40) && decide ((m.body.size : Int) ≤ 100)
theorem msg_Right (m : Msg) : Fn Try.prog 17 [.agg m.cells.toArray].toArray [] (fun v post => v = .bool m.right ∧ post = []) := message_Right m.id m.pri m.retry m.claimed m.corr m.body
def Msg.tried (m : Msg) : Msg := { m with claimed := false, retry := (if 999 < m.retry then 999 else m.retry) + 1 }
theorem msg_Tried (m : Msg) (limit : Int) (h0 : -9223372036854775808 ≤ m.retry) : Fn Try.prog 18 [.agg m.cells.toArray, .int .i64 limit].toArray [] (fun v post => v = .tuple #[.agg m.tried.cells.toArray, .bool (decide (limit ≤ m.tried.retry))] ∧ post = []) := by
  obtain ⟨id, pri, retry, claimed, corr, body⟩ := m
  replace h0 : -9223372036854775808 ≤ retry := h0
  refine Fn.enter (N := 17) Try.func18 rfl Try.ntmps18 (by kernel_rfl) rfl (fun ρ L => ?_)
  repeat (first | refine K.seq ?_ | refine K.skip ?_ | refine K.block ?_ | refine K.inBlock ?_ | refine K.label ?_)
  refine K.region ?_
  refine KO.loud rfl (l_box rfl rfl) ?_
  rintro _ _ ⟨b2, rfl, rfl⟩
  refine KO.loud rfl (l_alloc zo_24) ?_
  rintro _ _ ⟨b4, rfl, rfl⟩
  refine KO.q rfl (q_assign rfl) ?_
  refine KO.done ?_
  repeat (first | refine K.seq ?_ | refine K.skip ?_ | refine K.block ?_ | refine K.inBlock ?_ | refine K.label ?_)
  repeat (first | refine K.seq ?_ | refine K.skip ?_ | refine K.block ?_ | refine K.inBlock ?_ | refine K.label ?_)
  refine K.region ?_
  refine KO.q rfl (q_field fo_24_3 rfl) ?_
  refine KO.loudN rfl (l_store1 ck_4 rfl rfl rfl (by repeat (first | exact Pick.here | apply Pick.there)) (by repeat (first | exact SetAt.here | apply SetAt.there))) ?_
  rintro _ _ ⟨rfl, rfl⟩
  refine KO.done ?_
  repeat (first | refine K.seq ?_ | refine K.skip ?_ | refine K.block ?_ | refine K.inBlock ?_ | refine K.label ?_)
  repeat (first | refine K.seq ?_ | refine K.skip ?_ | refine K.block ?_ | refine K.inBlock ?_ | refine K.label ?_)
  refine K.region ?_
  refine KO.q rfl (q_field fo_24_2 rfl) ?_
  refine KO.q rfl (q_load1D ck_3 rfl) ?_
  refine KO.q rfl (q_min rfl rfl) ?_
  have hm : (if (999 : Int) < retry then (999 : Int) else retry) = (if 999 < retry then 999 else retry) := rfl
  generalize hr : (if (999 : Int) < retry then (999 : Int) else retry) = r
  have hr1 : -9223372036854775808 ≤ r ∧ r ≤ 999 := by rw [← hr]; split <;> omega
  refine KO.q rfl (q_add rfl rfl (by first | omega | (simp; omega)) (by first | omega | (simp; omega))) ?_
  refine KO.q rfl (q_field fo_24_2 rfl) ?_
  refine KO.loudN rfl (l_store1 ck_3 rfl rfl rfl (by repeat (first | exact Pick.here | apply Pick.there)) (by repeat (first | exact SetAt.here | apply SetAt.there))) ?_
  rintro _ _ ⟨rfl, rfl⟩
  refine KO.done ?_
  repeat (first | refine K.seq ?_ | refine K.skip ?_ | refine K.block ?_ | refine K.inBlock ?_ | refine K.label ?_)
  repeat (first | refine K.seq ?_ | refine K.skip ?_ | refine K.block ?_ | refine K.inBlock ?_ | refine K.label ?_)
  refine K.draw [pv b2 24 [.int .i64 id, .int .i64 pri, .int .i64 (r + 1), .bool false, .string corr, .string body]] mixed ?_
  refine D.q 0 rfl (by kernel_rfl) (by kernel_rfl) (q_loadN ck_24 rfl rfl (by first | (apply cells_pv; (repeat (first | exact List.Mem.head _ | apply List.Mem.tail))) | (apply cells_fv; (repeat (first | exact List.Mem.head _ | apply List.Mem.tail))))) (fun _ h => h.subD) ?_
  refine D.q 1 rfl (by kernel_rfl) (by kernel_rfl) (q_field fo_24_2 rfl) (fun _ h => h.subD) ?_
  refine D.q 2 rfl (by kernel_rfl) (by kernel_rfl) (q_load1D ck_3 rfl) (fun _ h => h.subD) ?_
  refine D.q 3 rfl (by kernel_rfl) (by kernel_rfl) (q_move rfl) (fun _ h => h.subD) ?_
  refine D.q 4 rfl (by kernel_rfl) (by kernel_rfl) (q_ge rfl rfl) (fun _ h => h.subD) ?_
  refine D.all (rs := [5]) (by kernel_rfl) rfl (DAll.consN rfl (by kernel_rfl) (l_storeN ck_24 rfl rfl rfl (by simp [Value.oneCell']) (by repeat (first | exact Pick.here | apply Pick.there)) (by repeat (first | exact SetN.nil | apply SetN.cons | exact SetAt.here | apply SetAt.there))) (.inr (by rintro _ _ ⟨rfl, rfl⟩ w h; exact h.subD)) rfl ?_ DAll.nil)
  rintro _ _ ⟨rfl, rfl⟩
  refine D.all (rs := [6]) (by kernel_rfl) rfl (DAll.cons rfl (by kernel_rfl) (OpQ.loud (q_assign rfl)) (.inl (by kernel_rfl)) rfl ?_ DAll.nil)
  rintro _ _ ⟨rfl, rfl⟩
  refine D.done (by kernel_rfl) ?_
  repeat (first | refine K.seq ?_ | refine K.skip ?_ | refine K.block ?_ | refine K.inBlock ?_ | refine K.label ?_)
  refine K.ret (fn := Try.f18) Try.func18 (fun a w hk hs => resCT Try.results18 hk rfl ck_24 rfl (cells_pv (by repeat (first | exact List.Mem.head _ | apply List.Mem.tail)) w hs) rfl) (fun w hs => ?_)
  exact ⟨_, [], rfl, ⟨by rw [Msg.tried]; simp only [Msg.cells]; rw [hr], rfl⟩, hs.fitD⟩
theorem ref_Tried (m : Msg) (limit : Int) (h0 : -9223372036854775808 ≤ m.retry) : Fn Try.prog 19 [.agg m.cells.toArray, .int .i64 limit].toArray [] (fun v post => v = .tuple #[.agg m.tried.cells.toArray, .bool (decide (limit ≤ m.tried.retry))] ∧ post = []) := by
  obtain ⟨id, pri, retry, claimed, corr, body⟩ := m
  replace h0 : -9223372036854775808 ≤ retry := h0
  refine Fn.enter (N := 20) Try.func19 rfl Try.ntmps19 (by kernel_rfl) rfl (fun ρ L => ?_)
  repeat (first | refine K.seq ?_ | refine K.skip ?_ | refine K.block ?_ | refine K.inBlock ?_ | refine K.label ?_)
  refine K.region ?_
  refine KO.loud rfl (l_box rfl rfl) ?_
  rintro _ _ ⟨b2, rfl, rfl⟩
  refine KO.loud rfl (l_alloc zo_24) ?_
  rintro _ _ ⟨b4, rfl, rfl⟩
  refine KO.q rfl (q_assign rfl) ?_
  refine KO.done ?_
  repeat (first | refine K.seq ?_ | refine K.skip ?_ | refine K.block ?_ | refine K.inBlock ?_ | refine K.label ?_)
  repeat (first | refine K.seq ?_ | refine K.skip ?_ | refine K.block ?_ | refine K.inBlock ?_ | refine K.label ?_)
  refine K.region ?_
  refine KO.q rfl (q_field fo_24_3 rfl) ?_
  refine KO.loudN rfl (l_store1 ck_4 rfl rfl rfl (by repeat (first | exact Pick.here | apply Pick.there)) (by repeat (first | exact SetAt.here | apply SetAt.there))) ?_
  rintro _ _ ⟨rfl, rfl⟩
  refine KO.done ?_
  repeat (first | refine K.seq ?_ | refine K.skip ?_ | refine K.block ?_ | refine K.inBlock ?_ | refine K.label ?_)
  repeat (first | refine K.seq ?_ | refine K.skip ?_ | refine K.block ?_ | refine K.inBlock ?_ | refine K.label ?_)
  refine K.region ?_
  refine KO.q rfl (q_field fo_24_2 rfl) ?_
  refine KO.q rfl (q_load1D ck_3 rfl) ?_
  refine KO.q rfl (q_lt rfl rfl) ?_
  refine KO.done ?_
  repeat (first | refine K.seq ?_ | refine K.skip ?_ | refine K.block ?_ | refine K.inBlock ?_ | refine K.label ?_)
  refine K.dite rfl (fun h => ?_) (fun h => ?_)
  · replace h : retry < 1000 := h
    have hr : (if (999 : Int) < retry then (999 : Int) else retry) = retry := by split <;> omega
    repeat (first | refine K.seq ?_ | refine K.skip ?_ | refine K.block ?_ | refine K.inBlock ?_ | refine K.label ?_)
    refine K.region ?_
    refine KO.q rfl (q_field fo_24_2 rfl) ?_
    refine KO.q rfl (q_load1D ck_3 rfl) ?_
    refine KO.q rfl (q_add rfl rfl (by first | omega | (simp; omega)) (by first | omega | (simp; omega))) ?_
    refine KO.q rfl (q_field fo_24_2 rfl) ?_
    refine KO.loudN rfl (l_store1 ck_3 rfl rfl rfl (by repeat (first | exact Pick.here | apply Pick.there)) (by repeat (first | exact SetAt.here | apply SetAt.there))) ?_
    rintro _ _ ⟨rfl, rfl⟩
    refine KO.done ?_
    repeat (first | refine K.seq ?_ | refine K.skip ?_ | refine K.block ?_ | refine K.inBlock ?_ | refine K.label ?_)
    repeat (first | refine K.seq ?_ | refine K.skip ?_ | refine K.block ?_ | refine K.inBlock ?_ | refine K.label ?_)
    refine K.draw [pv b2 24 [.int .i64 id, .int .i64 pri, .int .i64 (retry + 1), .bool false, .string corr, .string body]] mixed ?_
    refine D.q 0 rfl (by kernel_rfl) (by kernel_rfl) (q_loadN ck_24 rfl rfl (by first | (apply cells_pv; (repeat (first | exact List.Mem.head _ | apply List.Mem.tail))) | (apply cells_fv; (repeat (first | exact List.Mem.head _ | apply List.Mem.tail))))) (fun _ h => h.subD) ?_
    refine D.q 1 rfl (by kernel_rfl) (by kernel_rfl) (q_field fo_24_2 rfl) (fun _ h => h.subD) ?_
    refine D.q 2 rfl (by kernel_rfl) (by kernel_rfl) (q_load1D ck_3 rfl) (fun _ h => h.subD) ?_
    refine D.q 3 rfl (by kernel_rfl) (by kernel_rfl) (q_move rfl) (fun _ h => h.subD) ?_
    refine D.q 4 rfl (by kernel_rfl) (by kernel_rfl) (q_ge rfl rfl) (fun _ h => h.subD) ?_
    refine D.all (rs := [5]) (by kernel_rfl) rfl (DAll.consN rfl (by kernel_rfl) (l_storeN ck_24 rfl rfl rfl (by simp [Value.oneCell']) (by repeat (first | exact Pick.here | apply Pick.there)) (by repeat (first | exact SetN.nil | apply SetN.cons | exact SetAt.here | apply SetAt.there))) (.inr (by rintro _ _ ⟨rfl, rfl⟩ w h; exact h.subD)) rfl ?_ DAll.nil)
    rintro _ _ ⟨rfl, rfl⟩
    refine D.all (rs := [6]) (by kernel_rfl) rfl (DAll.cons rfl (by kernel_rfl) (OpQ.loud (q_assign rfl)) (.inl (by kernel_rfl)) rfl ?_ DAll.nil)
    rintro _ _ ⟨rfl, rfl⟩
    refine D.done (by kernel_rfl) ?_
    repeat (first | refine K.seq ?_ | refine K.skip ?_ | refine K.block ?_ | refine K.inBlock ?_ | refine K.label ?_)
    refine K.ret (fn := Try.f19) Try.func19 (fun a w hk hs => resCT Try.results19 hk rfl ck_24 rfl (cells_pv (by repeat (first | exact List.Mem.head _ | apply List.Mem.tail)) w hs) rfl) (fun w hs => ?_)
    exact ⟨_, [], rfl, ⟨by rw [Msg.tried]; simp only [Msg.cells]; rw [hr], rfl⟩, hs.fitD⟩
  · replace h : ¬ retry < 1000 := h
    have hr : (if (999 : Int) < retry then (999 : Int) else retry) = 999 := by split <;> omega
    repeat (first | refine K.seq ?_ | refine K.skip ?_ | refine K.block ?_ | refine K.inBlock ?_ | refine K.label ?_)
    refine K.region ?_
    refine KO.q rfl (q_field fo_24_2 rfl) ?_
    refine KO.loudN rfl (l_store1 ck_3 rfl rfl rfl (by repeat (first | exact Pick.here | apply Pick.there)) (by repeat (first | exact SetAt.here | apply SetAt.there))) ?_
    rintro _ _ ⟨rfl, rfl⟩
    refine KO.done ?_
    repeat (first | refine K.seq ?_ | refine K.skip ?_ | refine K.block ?_ | refine K.inBlock ?_ | refine K.label ?_)
    repeat (first | refine K.seq ?_ | refine K.skip ?_ | refine K.block ?_ | refine K.inBlock ?_ | refine K.label ?_)
    refine K.draw [pv b2 24 [.int .i64 id, .int .i64 pri, .int .i64 1000, .bool false, .string corr, .string body]] mixed ?_
    refine D.q 0 rfl (by kernel_rfl) (by kernel_rfl) (q_loadN ck_24 rfl rfl (by first | (apply cells_pv; (repeat (first | exact List.Mem.head _ | apply List.Mem.tail))) | (apply cells_fv; (repeat (first | exact List.Mem.head _ | apply List.Mem.tail))))) (fun _ h => h.subD) ?_
    refine D.q 1 rfl (by kernel_rfl) (by kernel_rfl) (q_field fo_24_2 rfl) (fun _ h => h.subD) ?_
    refine D.q 2 rfl (by kernel_rfl) (by kernel_rfl) (q_load1D ck_3 rfl) (fun _ h => h.subD) ?_
    refine D.q 3 rfl (by kernel_rfl) (by kernel_rfl) (q_move rfl) (fun _ h => h.subD) ?_
    refine D.q 4 rfl (by kernel_rfl) (by kernel_rfl) (q_ge rfl rfl) (fun _ h => h.subD) ?_
    refine D.all (rs := [5]) (by kernel_rfl) rfl (DAll.consN rfl (by kernel_rfl) (l_storeN ck_24 rfl rfl rfl (by simp [Value.oneCell']) (by repeat (first | exact Pick.here | apply Pick.there)) (by repeat (first | exact SetN.nil | apply SetN.cons | exact SetAt.here | apply SetAt.there))) (.inr (by rintro _ _ ⟨rfl, rfl⟩ w h; exact h.subD)) rfl ?_ DAll.nil)
    rintro _ _ ⟨rfl, rfl⟩
    refine D.all (rs := [6]) (by kernel_rfl) rfl (DAll.cons rfl (by kernel_rfl) (OpQ.loud (q_assign rfl)) (.inl (by kernel_rfl)) rfl ?_ DAll.nil)
    rintro _ _ ⟨rfl, rfl⟩
    refine D.done (by kernel_rfl) ?_
    repeat (first | refine K.seq ?_ | refine K.skip ?_ | refine K.block ?_ | refine K.inBlock ?_ | refine K.label ?_)
    refine K.ret (fn := Try.f19) Try.func19 (fun a w hk hs => resCT Try.results19 hk rfl ck_24 rfl (cells_pv (by repeat (first | exact List.Mem.head _ | apply List.Mem.tail)) w hs) rfl) (fun w hs => ?_)
    exact ⟨_, [], rfl, ⟨by rw [Msg.tried]; simp only [Msg.cells]; rw [hr]; rfl, rfl⟩, hs.fitD⟩
theorem ref_Right (m : Msg) : Fn Try.prog 20 [.agg m.cells.toArray].toArray [] (fun v post => v = .bool m.right ∧ post = []) := by
  obtain ⟨id, pri, retry, claimed, corr, body⟩ := m
  refine Fn.enter (N := 43) Try.func20 rfl Try.ntmps20 (by kernel_rfl) rfl (fun ρ L => ?_)
  repeat (first | refine K.seq ?_ | refine K.skip ?_ | refine K.block ?_ | refine K.inBlock ?_ | refine K.label ?_)
  refine K.region ?_
  refine KO.loud rfl (l_box rfl rfl) ?_
  rintro _ _ ⟨b1, rfl, rfl⟩
  refine KO.q rfl (q_assign rfl) ?_
  refine KO.done ?_
  repeat (first | refine K.seq ?_ | refine K.skip ?_ | refine K.block ?_ | refine K.inBlock ?_ | refine K.label ?_)
  repeat (first | refine K.seq ?_ | refine K.skip ?_ | refine K.block ?_ | refine K.inBlock ?_ | refine K.label ?_)
  refine K.region ?_
  refine KO.q rfl (q_field fo_24_0 rfl) ?_
  refine KO.q rfl (q_load1D ck_3 rfl) ?_
  refine KO.q rfl (q_ge rfl rfl) ?_
  refine KO.q rfl (q_move rfl) ?_
  refine KO.dsplit 6 rfl (fun g6 => ?_) (fun g6 => ?_)
  · refine KO.q rfl (q_field fo_24_0 rfl) ?_
    refine KO.q rfl (q_load1D ck_3 rfl) ?_
    refine KO.q rfl (q_le rfl rfl) ?_
    refine KO.q rfl (q_pickT rfl rfl) ?_
    refine KO.q rfl (q_move rfl) ?_
    refine KO.dsplit 11 rfl (fun g11 => ?_) (fun g11 => ?_)
    · refine KO.q rfl (q_field fo_24_1 rfl) ?_
      refine KO.q rfl (q_load1D ck_3 rfl) ?_
      refine KO.q rfl (q_ge rfl rfl) ?_
      refine KO.q rfl (q_pickT rfl rfl) ?_
      refine KO.q rfl (q_move rfl) ?_
      refine KO.dsplit 16 rfl (fun g16 => ?_) (fun g16 => ?_)
      · refine KO.q rfl (q_field fo_24_1 rfl) ?_
        refine KO.q rfl (q_load1D ck_3 rfl) ?_
        refine KO.q rfl (q_le rfl rfl) ?_
        refine KO.q rfl (q_pickT rfl rfl) ?_
        refine KO.q rfl (q_move rfl) ?_
        refine KO.dsplit 21 rfl (fun g21 => ?_) (fun g21 => ?_)
        · refine KO.q rfl (q_field fo_24_2 rfl) ?_
          refine KO.q rfl (q_load1D ck_3 rfl) ?_
          refine KO.q rfl (q_ge rfl rfl) ?_
          refine KO.q rfl (q_pickT rfl rfl) ?_
          refine KO.q rfl (q_move rfl) ?_
          refine KO.dsplit 26 rfl (fun g26 => ?_) (fun g26 => ?_)
          · refine KO.q rfl (q_field fo_24_2 rfl) ?_
            refine KO.q rfl (q_load1D ck_3 rfl) ?_
            refine KO.q rfl (q_le rfl rfl) ?_
            refine KO.q rfl (q_pickT rfl rfl) ?_
            refine KO.q rfl (q_move rfl) ?_
            refine KO.dsplit 31 rfl (fun g31 => ?_) (fun g31 => ?_)
            · refine KO.q rfl (q_field fo_24_4 rfl) ?_
              refine KO.q rfl (q_load1D ck_9 rfl) ?_
              refine KO.q rfl (q_lenS Try.underlying9 rfl) ?_
              refine KO.q rfl (q_le rfl rfl) ?_
              refine KO.q rfl (q_pickT rfl rfl) ?_
              refine KO.q rfl (q_move rfl) ?_
              refine KO.dsplit 37 rfl (fun g37 => ?_) (fun g37 => ?_)
              · refine KO.q rfl (q_field fo_24_5 rfl) ?_
                refine KO.q rfl (q_load1D ck_9 rfl) ?_
                refine KO.q rfl (q_lenS Try.underlying9 rfl) ?_
                refine KO.q rfl (q_le rfl rfl) ?_
                refine KO.q rfl (q_pickT rfl rfl) ?_
                refine KO.q rfl (q_assign rfl) ?_
                refine KO.done ?_
                repeat (first | refine K.seq ?_ | refine K.skip ?_ | refine K.block ?_ | refine K.inBlock ?_ | refine K.label ?_)
                refine K.ret (fn := Try.f20) Try.func20 (fun a w hk hs => res1 Try.results20 hk rfl) (fun w hs => ?_)
                exact ⟨_, [], rfl, ⟨by simp [Msg.right, *], rfl⟩, hs.tail⟩
              · refine KO.skip rfl ?_
                refine KO.skip rfl ?_
                refine KO.skip rfl ?_
                refine KO.skip rfl ?_
                refine KO.q rfl (q_pickF rfl rfl) ?_
                refine KO.q rfl (q_assign rfl) ?_
                refine KO.done ?_
                repeat (first | refine K.seq ?_ | refine K.skip ?_ | refine K.block ?_ | refine K.inBlock ?_ | refine K.label ?_)
                refine K.ret (fn := Try.f20) Try.func20 (fun a w hk hs => res1 Try.results20 hk rfl) (fun w hs => ?_)
                exact ⟨_, [], rfl, ⟨by simp [Msg.right, *], rfl⟩, hs.tail⟩
            · refine KO.skip rfl ?_
              refine KO.skip rfl ?_
              refine KO.skip rfl ?_
              refine KO.skip rfl ?_
              refine KO.q rfl (q_pickF rfl rfl) ?_
              refine KO.q rfl (q_move rfl) ?_
              refine KO.skip rfl ?_
              refine KO.skip rfl ?_
              refine KO.skip rfl ?_
              refine KO.skip rfl ?_
              refine KO.q rfl (q_pickF rfl rfl) ?_
              refine KO.q rfl (q_assign rfl) ?_
              refine KO.done ?_
              repeat (first | refine K.seq ?_ | refine K.skip ?_ | refine K.block ?_ | refine K.inBlock ?_ | refine K.label ?_)
              refine K.ret (fn := Try.f20) Try.func20 (fun a w hk hs => res1 Try.results20 hk rfl) (fun w hs => ?_)
              exact ⟨_, [], rfl, ⟨by simp [Msg.right, *], rfl⟩, hs.tail⟩
          · refine KO.skip rfl ?_
            refine KO.skip rfl ?_
            refine KO.skip rfl ?_
            refine KO.q rfl (q_pickF rfl rfl) ?_
            refine KO.q rfl (q_move rfl) ?_
            refine KO.skip rfl ?_
            refine KO.skip rfl ?_
            refine KO.skip rfl ?_
            refine KO.skip rfl ?_
            refine KO.q rfl (q_pickF rfl rfl) ?_
            refine KO.q rfl (q_move rfl) ?_
            refine KO.skip rfl ?_
            refine KO.skip rfl ?_
            refine KO.skip rfl ?_
            refine KO.skip rfl ?_
            refine KO.q rfl (q_pickF rfl rfl) ?_
            refine KO.q rfl (q_assign rfl) ?_
            refine KO.done ?_
            repeat (first | refine K.seq ?_ | refine K.skip ?_ | refine K.block ?_ | refine K.inBlock ?_ | refine K.label ?_)
            refine K.ret (fn := Try.f20) Try.func20 (fun a w hk hs => res1 Try.results20 hk rfl) (fun w hs => ?_)
            exact ⟨_, [], rfl, ⟨by simp [Msg.right, *], rfl⟩, hs.tail⟩
        · refine KO.skip rfl ?_
          refine KO.skip rfl ?_
          refine KO.skip rfl ?_
          refine KO.q rfl (q_pickF rfl rfl) ?_
          refine KO.q rfl (q_move rfl) ?_
          refine KO.skip rfl ?_
          refine KO.skip rfl ?_
          refine KO.skip rfl ?_
          refine KO.q rfl (q_pickF rfl rfl) ?_
          refine KO.q rfl (q_move rfl) ?_
          refine KO.skip rfl ?_
          refine KO.skip rfl ?_
          refine KO.skip rfl ?_
          refine KO.skip rfl ?_
          refine KO.q rfl (q_pickF rfl rfl) ?_
          refine KO.q rfl (q_move rfl) ?_
          refine KO.skip rfl ?_
          refine KO.skip rfl ?_
          refine KO.skip rfl ?_
          refine KO.skip rfl ?_
          refine KO.q rfl (q_pickF rfl rfl) ?_
          refine KO.q rfl (q_assign rfl) ?_
          refine KO.done ?_
          repeat (first | refine K.seq ?_ | refine K.skip ?_ | refine K.block ?_ | refine K.inBlock ?_ | refine K.label ?_)
          refine K.ret (fn := Try.f20) Try.func20 (fun a w hk hs => res1 Try.results20 hk rfl) (fun w hs => ?_)
          exact ⟨_, [], rfl, ⟨by simp [Msg.right, *], rfl⟩, hs.tail⟩
      · refine KO.skip rfl ?_
        refine KO.skip rfl ?_
        refine KO.skip rfl ?_
        refine KO.q rfl (q_pickF rfl rfl) ?_
        refine KO.q rfl (q_move rfl) ?_
        refine KO.skip rfl ?_
        refine KO.skip rfl ?_
        refine KO.skip rfl ?_
        refine KO.q rfl (q_pickF rfl rfl) ?_
        refine KO.q rfl (q_move rfl) ?_
        refine KO.skip rfl ?_
        refine KO.skip rfl ?_
        refine KO.skip rfl ?_
        refine KO.q rfl (q_pickF rfl rfl) ?_
        refine KO.q rfl (q_move rfl) ?_
        refine KO.skip rfl ?_
        refine KO.skip rfl ?_
        refine KO.skip rfl ?_
        refine KO.skip rfl ?_
        refine KO.q rfl (q_pickF rfl rfl) ?_
        refine KO.q rfl (q_move rfl) ?_
        refine KO.skip rfl ?_
        refine KO.skip rfl ?_
        refine KO.skip rfl ?_
        refine KO.skip rfl ?_
        refine KO.q rfl (q_pickF rfl rfl) ?_
        refine KO.q rfl (q_assign rfl) ?_
        refine KO.done ?_
        repeat (first | refine K.seq ?_ | refine K.skip ?_ | refine K.block ?_ | refine K.inBlock ?_ | refine K.label ?_)
        refine K.ret (fn := Try.f20) Try.func20 (fun a w hk hs => res1 Try.results20 hk rfl) (fun w hs => ?_)
        exact ⟨_, [], rfl, ⟨by simp [Msg.right, *], rfl⟩, hs.tail⟩
    · refine KO.skip rfl ?_
      refine KO.skip rfl ?_
      refine KO.skip rfl ?_
      refine KO.q rfl (q_pickF rfl rfl) ?_
      refine KO.q rfl (q_move rfl) ?_
      refine KO.skip rfl ?_
      refine KO.skip rfl ?_
      refine KO.skip rfl ?_
      refine KO.q rfl (q_pickF rfl rfl) ?_
      refine KO.q rfl (q_move rfl) ?_
      refine KO.skip rfl ?_
      refine KO.skip rfl ?_
      refine KO.skip rfl ?_
      refine KO.q rfl (q_pickF rfl rfl) ?_
      refine KO.q rfl (q_move rfl) ?_
      refine KO.skip rfl ?_
      refine KO.skip rfl ?_
      refine KO.skip rfl ?_
      refine KO.q rfl (q_pickF rfl rfl) ?_
      refine KO.q rfl (q_move rfl) ?_
      refine KO.skip rfl ?_
      refine KO.skip rfl ?_
      refine KO.skip rfl ?_
      refine KO.skip rfl ?_
      refine KO.q rfl (q_pickF rfl rfl) ?_
      refine KO.q rfl (q_move rfl) ?_
      refine KO.skip rfl ?_
      refine KO.skip rfl ?_
      refine KO.skip rfl ?_
      refine KO.skip rfl ?_
      refine KO.q rfl (q_pickF rfl rfl) ?_
      refine KO.q rfl (q_assign rfl) ?_
      refine KO.done ?_
      repeat (first | refine K.seq ?_ | refine K.skip ?_ | refine K.block ?_ | refine K.inBlock ?_ | refine K.label ?_)
      refine K.ret (fn := Try.f20) Try.func20 (fun a w hk hs => res1 Try.results20 hk rfl) (fun w hs => ?_)
      exact ⟨_, [], rfl, ⟨by simp [Msg.right, *], rfl⟩, hs.tail⟩
  · refine KO.skip rfl ?_
    refine KO.skip rfl ?_
    refine KO.skip rfl ?_
    refine KO.q rfl (q_pickF rfl rfl) ?_
    refine KO.q rfl (q_move rfl) ?_
    refine KO.skip rfl ?_
    refine KO.skip rfl ?_
    refine KO.skip rfl ?_
    refine KO.q rfl (q_pickF rfl rfl) ?_
    refine KO.q rfl (q_move rfl) ?_
    refine KO.skip rfl ?_
    refine KO.skip rfl ?_
    refine KO.skip rfl ?_
    refine KO.q rfl (q_pickF rfl rfl) ?_
    refine KO.q rfl (q_move rfl) ?_
    refine KO.skip rfl ?_
    refine KO.skip rfl ?_
    refine KO.skip rfl ?_
    refine KO.q rfl (q_pickF rfl rfl) ?_
    refine KO.q rfl (q_move rfl) ?_
    refine KO.skip rfl ?_
    refine KO.skip rfl ?_
    refine KO.skip rfl ?_
    refine KO.q rfl (q_pickF rfl rfl) ?_
    refine KO.q rfl (q_move rfl) ?_
    refine KO.skip rfl ?_
    refine KO.skip rfl ?_
    refine KO.skip rfl ?_
    refine KO.skip rfl ?_
    refine KO.q rfl (q_pickF rfl rfl) ?_
    refine KO.q rfl (q_move rfl) ?_
    refine KO.skip rfl ?_
    refine KO.skip rfl ?_
    refine KO.skip rfl ?_
    refine KO.skip rfl ?_
    refine KO.q rfl (q_pickF rfl rfl) ?_
    refine KO.q rfl (q_assign rfl) ?_
    refine KO.done ?_
    repeat (first | refine K.seq ?_ | refine K.skip ?_ | refine K.block ?_ | refine K.inBlock ?_ | refine K.label ?_)
    refine K.ret (fn := Try.f20) Try.func20 (fun a w hk hs => res1 Try.results20 hk rfl) (fun w hs => ?_)
    exact ⟨_, [], rfl, ⟨by simp [Msg.right, *], rfl⟩, hs.tail⟩
theorem alive14 : Fn Try.prog 16 [].toArray [] (fun r post => r = .bool true ∧ post = []) := by
  refine Fn.enter (N := 28) Try.func16 rfl Try.ntmps16 (by kernel_rfl) rfl (fun ρ L => ?_)
  repeat (first | refine K.seq ?_ | refine K.skip ?_ | refine K.block ?_ | refine K.inBlock ?_ | refine K.label ?_)
  refine K.region ?_
  refine KO.q rfl (q_assign rfl) ?_
  refine KO.done ?_
  repeat (first | refine K.seq ?_ | refine K.skip ?_ | refine K.block ?_ | refine K.inBlock ?_ | refine K.label ?_)
  repeat (first | refine K.seq ?_ | refine K.skip ?_ | refine K.block ?_ | refine K.inBlock ?_ | refine K.label ?_)
  refine K.region ?_
  refine KO.q rfl (q_build st_24 rfl (by repeat (first | exact Fill.nil | (apply Fill.cons; rfl; rfl; rfl) | exact SetN.nil | apply SetN.cons | exact SetAt.here | apply SetAt.there))) ?_
  refine KO.loud rfl (OpL.callE rfl (msg_Tried ⟨1, 0, 0, true, ⟨#[]⟩, ⟨#[]⟩⟩ 1 (by decide))) ?_
  rintro _ _ ⟨_, ⟨rfl, rfl⟩, rfl⟩
  refine KO.q rfl (q_move rfl) ?_
  refine KO.q rfl (q_extract rfl rfl) ?_
  refine KO.q rfl (q_extract rfl rfl) ?_
  refine KO.loud rfl (l_alloc zo_24) ?_
  rintro _ _ ⟨b1, rfl, rfl⟩
  refine KO.loudN rfl (l_storeN ck_24 rfl rfl rfl (msg_one _) (by repeat (first | exact Pick.here | apply Pick.there)) (by repeat (first | exact SetN.nil | apply SetN.cons | exact SetAt.here | apply SetAt.there))) ?_
  rintro _ _ ⟨rfl, rfl⟩
  refine KO.q rfl (q_assign rfl) ?_
  refine KO.done ?_
  repeat (first | refine K.seq ?_ | refine K.skip ?_ | refine K.block ?_ | refine K.inBlock ?_ | refine K.label ?_)
  repeat (first | refine K.seq ?_ | refine K.skip ?_ | refine K.block ?_ | refine K.inBlock ?_ | refine K.label ?_)
  refine K.region ?_
  refine KO.q rfl (q_build st_24 rfl (by repeat (first | exact Fill.nil | (apply Fill.cons; rfl; rfl; rfl) | exact SetN.nil | apply SetN.cons | exact SetAt.here | apply SetAt.there))) ?_
  refine KO.loud rfl (OpL.callE rfl (msg_Right ⟨0, 0, 0, false, ⟨#[]⟩, ⟨#[]⟩⟩)) ?_
  rintro _ _ ⟨_, ⟨rfl, rfl⟩, rfl⟩
  refine KO.q rfl (q_not rfl) ?_
  refine KO.q rfl (q_move rfl) ?_
  refine KO.q rfl (q_build st_24 rfl (by repeat (first | exact Fill.nil | (apply Fill.cons; rfl; rfl; rfl) | exact SetN.nil | apply SetN.cons | exact SetAt.here | apply SetAt.there))) ?_
  refine KO.loud rfl (OpL.callE rfl (msg_Right ⟨1, 0, 0, false, ⟨#[]⟩, ⟨#[]⟩⟩)) ?_
  rintro _ _ ⟨_, ⟨rfl, rfl⟩, rfl⟩
  refine KO.q rfl (q_pickT rfl rfl) ?_
  refine KO.q rfl (q_move rfl) ?_
  refine KO.q rfl (q_field fo_24_2 rfl) ?_
  refine KO.q rfl (q_load1D ck_3 rfl) ?_
  refine KO.q rfl (q_eq rfl rfl) ?_
  refine KO.q rfl (q_pickT rfl rfl) ?_
  refine KO.q rfl (q_move rfl) ?_
  refine KO.q rfl (q_move rfl) ?_
  refine KO.q rfl (q_pickT rfl rfl) ?_
  refine KO.q rfl (q_move rfl) ?_
  refine KO.q rfl (q_field fo_24_3 rfl) ?_
  refine KO.q rfl (q_load1D ck_4 rfl) ?_
  refine KO.q rfl (q_not rfl) ?_
  refine KO.q rfl (q_pickT rfl rfl) ?_
  refine KO.q rfl (q_assign rfl) ?_
  refine KO.done ?_
  repeat (first | refine K.seq ?_ | refine K.skip ?_ | refine K.block ?_ | refine K.inBlock ?_ | refine K.label ?_)
  refine K.ret (fn := Try.f16) Try.func16 (fun a w hk hs => res1 Try.results16 hk rfl) (fun w hs => ?_)
  exact ⟨_, [], rfl, ⟨rfl, rfl⟩, hs.fitD⟩
end Go.Proofs.Ytlellgnklohclaa.L
/-! Walks: the bytes of a message, and what is read of bytes. -/
namespace Go.Proofs.Ytlellgnklohclaa.L
open Go Go.Proofs
attribute [local irreducible] pv fv pt fz RowF RowO rowP old pure_
set_option maxRecDepth 100000
set_option linter.unusedSimpArgs false
set_option linter.unusedVariables false

def Msg.bytes (m : Msg) : List UInt8 := wInt m.id ++ wInt m.pri ++ wInt m.retry ++ wFlag m.claimed ++ wText m.corr ++ wText m.body
def Msg.zero : Msg := ⟨0, 0, 0, false, ⟨#[]⟩, ⟨#[]⟩⟩
theorem msg_Write (p : Nat) (q : Option Addr) (cap : Nat) (xs : List UInt8) (m : Msg) (hb : xs.length ≤ 137438953472) (h1 : m.corr.size ≤ 140737488355328) (h2 : m.body.size ≤ 140737488355328) : Fn Try.prog 62 [.pointer (some ⟨p, 0, none⟩), .agg m.cells.toArray].toArray (WrL p q cap xs)
    (fun r post => ∃ q' cap', r = .tuple #[] ∧ post = WrL p q' cap' (xs ++ m.bytes)) := by
  obtain ⟨id, pri, retry, claimed, corr, body⟩ := m
  have l1 := wInt_length id
  have l2 := wInt_length pri
  have l3 := wInt_length retry
  have l4 := wFlag_length claimed
  have l5 := wText_length corr
  refine Fn.enter (N := 28) Try.func62 rfl Try.ntmps62 (by kernel_rfl) rfl (fun ρ L => ?_)
  repeat (first | refine K.seq ?_ | refine K.skip ?_ | refine K.block ?_ | refine K.inBlock ?_ | refine K.label ?_)
  refine K.region ?_
  refine KO.loud rfl (l_box rfl rfl) ?_
  rintro _ _ ⟨b3, rfl, rfl⟩
  refine KO.done ?_
  repeat (first | refine K.seq ?_ | refine K.skip ?_ | refine K.block ?_ | refine K.inBlock ?_ | refine K.label ?_)
  repeat (first | refine K.seq ?_ | refine K.skip ?_ | refine K.block ?_ | refine K.inBlock ?_ | refine K.label ?_)
  refine K.region ?_
  refine KO.q rfl (q_move rfl) ?_
  refine KO.q rfl (q_field fo_24_0 rfl) ?_
  refine KO.q rfl (q_load1D ck_3 rfl) ?_
  refine KO.loud rfl (OpL.callE rfl (wr_Int p q cap xs id (by omega))) ?_
  rintro _ _ ⟨_, ⟨q1, c1, rfl, rfl⟩, rfl⟩
  refine KO.done ?_
  repeat (first | refine K.seq ?_ | refine K.skip ?_ | refine K.block ?_ | refine K.inBlock ?_ | refine K.label ?_)
  repeat (first | refine K.seq ?_ | refine K.skip ?_ | refine K.block ?_ | refine K.inBlock ?_ | refine K.label ?_)
  refine K.region ?_
  refine KO.q rfl (q_move rfl) ?_
  refine KO.q rfl (q_field fo_24_1 rfl) ?_
  refine KO.q rfl (q_load1D ck_3 rfl) ?_
  refine KO.loud rfl (OpL.callE rfl (wr_Int p q1 c1 (xs ++ wInt id) pri (by simp; omega))) ?_
  rintro _ _ ⟨_, ⟨q2, c2, rfl, rfl⟩, rfl⟩
  refine KO.done ?_
  repeat (first | refine K.seq ?_ | refine K.skip ?_ | refine K.block ?_ | refine K.inBlock ?_ | refine K.label ?_)
  repeat (first | refine K.seq ?_ | refine K.skip ?_ | refine K.block ?_ | refine K.inBlock ?_ | refine K.label ?_)
  refine K.region ?_
  refine KO.q rfl (q_move rfl) ?_
  refine KO.q rfl (q_field fo_24_2 rfl) ?_
  refine KO.q rfl (q_load1D ck_3 rfl) ?_
  refine KO.loud rfl (OpL.callE rfl (wr_Int p q2 c2 (xs ++ wInt id ++ wInt pri) retry (by simp; omega))) ?_
  rintro _ _ ⟨_, ⟨q3, c3, rfl, rfl⟩, rfl⟩
  refine KO.done ?_
  repeat (first | refine K.seq ?_ | refine K.skip ?_ | refine K.block ?_ | refine K.inBlock ?_ | refine K.label ?_)
  repeat (first | refine K.seq ?_ | refine K.skip ?_ | refine K.block ?_ | refine K.inBlock ?_ | refine K.label ?_)
  refine K.region ?_
  refine KO.q rfl (q_move rfl) ?_
  refine KO.q rfl (q_field fo_24_3 rfl) ?_
  refine KO.q rfl (q_load1D ck_4 rfl) ?_
  refine KO.loud rfl (OpL.callE rfl (wr_Flag p q3 c3 (xs ++ wInt id ++ wInt pri ++ wInt retry) claimed (by simp; omega))) ?_
  rintro _ _ ⟨_, ⟨q4, c4, rfl, rfl⟩, rfl⟩
  refine KO.done ?_
  repeat (first | refine K.seq ?_ | refine K.skip ?_ | refine K.block ?_ | refine K.inBlock ?_ | refine K.label ?_)
  repeat (first | refine K.seq ?_ | refine K.skip ?_ | refine K.block ?_ | refine K.inBlock ?_ | refine K.label ?_)
  refine K.region ?_
  refine KO.q rfl (q_move rfl) ?_
  refine KO.q rfl (q_field fo_24_4 rfl) ?_
  refine KO.q rfl (q_load1D ck_9 rfl) ?_
  refine KO.loud rfl (OpL.callE rfl (wr_Text p q4 c4 (xs ++ wInt id ++ wInt pri ++ wInt retry ++ wFlag claimed) corr (by simp; omega) h1)) ?_
  rintro _ _ ⟨_, ⟨q5, c5, rfl, rfl⟩, rfl⟩
  refine KO.done ?_
  repeat (first | refine K.seq ?_ | refine K.skip ?_ | refine K.block ?_ | refine K.inBlock ?_ | refine K.label ?_)
  repeat (first | refine K.seq ?_ | refine K.skip ?_ | refine K.block ?_ | refine K.inBlock ?_ | refine K.label ?_)
  refine K.region ?_
  refine KO.q rfl (q_move rfl) ?_
  refine KO.q rfl (q_field fo_24_5 rfl) ?_
  refine KO.q rfl (q_load1D ck_9 rfl) ?_
  refine KO.loud rfl (OpL.callE rfl (wr_Text p q5 c5 (xs ++ wInt id ++ wInt pri ++ wInt retry ++ wFlag claimed ++ wText corr) body (by simp; omega) h2)) ?_
  rintro _ _ ⟨_, ⟨q6, c6, rfl, rfl⟩, rfl⟩
  refine KO.done ?_
  repeat (first | refine K.seq ?_ | refine K.skip ?_ | refine K.block ?_ | refine K.inBlock ?_ | refine K.label ?_)
  have e : xs ++ wInt id ++ wInt pri ++ wInt retry ++ wFlag claimed ++ wText corr ++ wText body = xs ++ (Msg.mk id pri retry claimed corr body).bytes := by simp [Msg.bytes]
  rw [e]
  refine K.fin (fn := Try.f62) Try.func62 (fun a w hk hs => res0 Try.results62) (fun w hs => ?_)
  exact ⟨_, WrL p q6 c6 (xs ++ (Msg.mk id pri retry claimed corr body).bytes), rfl, ⟨q6, c6, rfl, rfl⟩, hs.fitD⟩
theorem msg_Bytes (m : Msg) (h1 : m.corr.size ≤ 65535) (h2 : m.body.size ≤ 65535) : Fn Try.prog 21 [.agg m.cells.toArray].toArray []
    (fun r post => ∃ q cap, r = .slice q m.bytes.length cap ∧ post = [RowF Kd.u8 q m.bytes] ∧ m.bytes.length ≤ cap) := by
  have l1 := wInt_length m.id
  have l2 := wInt_length m.pri
  have l3 := wInt_length m.retry
  have l4 := wFlag_length m.claimed
  have l5 := wText_length m.corr
  have l6 := wText_length m.body
  have hl : ([] ++ m.bytes).length ≤ 1099511627776 := by simp [Msg.bytes]; omega
  refine Fn.enter (N := 11) Try.func21 rfl Try.ntmps21 (by kernel_rfl) rfl (fun ρ L => ?_)
  repeat (first | refine K.seq ?_ | refine K.skip ?_ | refine K.block ?_ | refine K.inBlock ?_ | refine K.label ?_)
  refine K.region ?_
  refine KO.loud rfl (l_box rfl rfl) ?_
  rintro _ _ ⟨b1, rfl, rfl⟩
  refine KO.q rfl (q_assign rfl) ?_
  refine KO.done ?_
  repeat (first | refine K.seq ?_ | refine K.skip ?_ | refine K.block ?_ | refine K.inBlock ?_ | refine K.label ?_)
  repeat (first | refine K.seq ?_ | refine K.skip ?_ | refine K.block ?_ | refine K.inBlock ?_ | refine K.label ?_)
  refine K.region ?_
  refine KO.q rfl (q_build st_35 rfl (by repeat (first | exact Fill.nil | (apply Fill.cons; rfl; rfl; rfl) | exact SetN.nil | apply SetN.cons | exact SetAt.here | apply SetAt.there))) ?_
  refine KO.loud rfl (l_box rfl rfl) ?_
  rintro _ _ ⟨b5, rfl, rfl⟩
  refine KO.q rfl (q_assign rfl) ?_
  refine KO.done ?_
  repeat (first | refine K.seq ?_ | refine K.skip ?_ | refine K.block ?_ | refine K.inBlock ?_ | refine K.label ?_)
  refine K.st (fun w h => rowO_nil (k := Kd.u8) 5 h) ?_
  repeat (first | refine K.seq ?_ | refine K.skip ?_ | refine K.block ?_ | refine K.inBlock ?_ | refine K.label ?_)
  refine K.region ?_
  refine KO.q rfl (q_move rfl) ?_
  refine KO.q rfl (q_loadN ck_24 rfl rfl (by first | (apply cells_pv; (repeat (first | exact List.Mem.head _ | apply List.Mem.tail))) | (apply cells_fv; (repeat (first | exact List.Mem.head _ | apply List.Mem.tail))))) ?_
  refine KO.loud rfl (OpL.callE rfl (msg_Write b5 none 0 [] m (by simp) (by omega) (by omega))) ?_
  rintro _ _ ⟨_, ⟨q1, c1, rfl, rfl⟩, rfl⟩
  refine KO.done ?_
  repeat (first | refine K.seq ?_ | refine K.skip ?_ | refine K.block ?_ | refine K.inBlock ?_ | refine K.label ?_)
  repeat (first | refine K.seq ?_ | refine K.skip ?_ | refine K.block ?_ | refine K.inBlock ?_ | refine K.label ?_)
  refine K.region ?_
  refine KO.q rfl (q_move rfl) ?_
  refine KO.loud rfl (OpL.callE rfl (wr_Bytes b5 q1 c1 ([] ++ m.bytes) hl)) ?_
  rintro _ _ ⟨_, ⟨q2, c2, rfl, rfl, h3⟩, rfl⟩
  refine KO.q rfl (q_assign rfl) ?_
  refine KO.done ?_
  repeat (first | refine K.seq ?_ | refine K.skip ?_ | refine K.block ?_ | refine K.inBlock ?_ | refine K.label ?_)
  refine K.ret (fn := Try.f21) Try.func21 (fun a w hk hs => res1 Try.results21 hk rfl) (fun w hs => ?_)
  exact ⟨_, [RowF Kd.u8 q2 m.bytes], rfl, ⟨q2, c2, rfl, rfl, h3⟩, hs.fitD⟩
/-- What is read of bytes. -/
def Rd.msgT (s : Rd) : Msg × Rd :=
  let a := s.int; let b := a.2.int; let c := b.2.int; let d := c.2.flag; let e := d.2.text; let f := e.2.text
  (⟨a.1, b.1, c.1, d.1, e.1, f.1⟩, f.2)
def Rd.msg (s : Rd) : Msg × Rd := if s.msgT.2.f then (Msg.zero, s.msgT.2) else s.msgT
def Rd.rmsgT (s : Rd) : Msg × Rd :=
  let a := s.rint; let b := a.2.rint; let c := b.2.rint; let d := c.2.rflag; let e := d.2.rtext; let f := e.2.rtext
  (⟨a.1, b.1, c.1, d.1, e.1, f.1⟩, f.2)
def Rd.rmsg (s : Rd) : Msg × Rd := if s.rmsgT.2.f then (Msg.zero, s.rmsgT.2) else s.rmsgT
theorem msg_Read (p : Nat) (q : Option Addr) (cap : Nat) (s : Rd) (hc : s.bs.length ≤ cap) : Fn Try.prog 41 [.pointer (some ⟨p, 0, none⟩)].toArray (RdL p q cap s)
    (fun r post => ∃ q' cap', r = .agg s.msg.1.cells.toArray ∧ post = RdL p q' cap' s.msg.2 ∧ s.msg.2.bs.length ≤ cap') := by
  refine Fn.enter (N := 27) Try.func41 rfl Try.ntmps41 (by kernel_rfl) rfl (fun ρ L => ?_)
  repeat (first | refine K.seq ?_ | refine K.skip ?_ | refine K.block ?_ | refine K.inBlock ?_ | refine K.label ?_)
  refine K.region ?_
  refine KO.loud rfl (l_alloc zo_24) ?_
  rintro _ _ ⟨b2, rfl, rfl⟩
  refine KO.done ?_
  repeat (first | refine K.seq ?_ | refine K.skip ?_ | refine K.block ?_ | refine K.inBlock ?_ | refine K.label ?_)
  repeat (first | refine K.seq ?_ | refine K.skip ?_ | refine K.block ?_ | refine K.inBlock ?_ | refine K.label ?_)
  refine K.region ?_
  refine KO.q rfl (q_move rfl) ?_
  refine KO.q rfl (q_pnil Try.underlying38 rfl rfl) ?_
  refine KO.done ?_
  repeat (first | refine K.seq ?_ | refine K.skip ?_ | refine K.block ?_ | refine K.inBlock ?_ | refine K.label ?_)
  refine K.no rfl ?_
  repeat (first | refine K.seq ?_ | refine K.skip ?_ | refine K.block ?_ | refine K.inBlock ?_ | refine K.label ?_)
  repeat (first | refine K.seq ?_ | refine K.skip ?_ | refine K.block ?_ | refine K.inBlock ?_ | refine K.label ?_)
  refine K.region ?_
  refine KO.q rfl (q_move rfl) ?_
  refine KO.loud rfl (OpL.callE rfl (rd_Int p q cap s hc)) ?_
  rintro _ _ ⟨_, ⟨q1, c1, rfl, rfl, h1⟩, rfl⟩
  refine KO.q rfl (q_move rfl) ?_
  refine KO.loud rfl (OpL.callE rfl (rd_Int p q1 c1 _ h1)) ?_
  rintro _ _ ⟨_, ⟨q2, c2, rfl, rfl, h2⟩, rfl⟩
  refine KO.q rfl (q_move rfl) ?_
  refine KO.loud rfl (OpL.callE rfl (rd_Int p q2 c2 _ h2)) ?_
  rintro _ _ ⟨_, ⟨q3, c3, rfl, rfl, h3⟩, rfl⟩
  refine KO.q rfl (q_build st_24 rfl (by repeat (first | exact Fill.nil | (apply Fill.cons; rfl; rfl; rfl) | exact SetN.nil | apply SetN.cons | exact SetAt.here | apply SetAt.there))) ?_
  refine KO.loud rfl (l_alloc zo_24) ?_
  rintro _ _ ⟨b3, rfl, rfl⟩
  refine KO.loudN rfl (l_storeN ck_24 rfl rfl rfl (by simp [Value.oneCell']) (by repeat (first | exact Pick.here | apply Pick.there)) (by repeat (first | exact SetN.nil | apply SetN.cons | exact SetAt.here | apply SetAt.there))) ?_
  rintro _ _ ⟨rfl, rfl⟩
  refine KO.done ?_
  repeat (first | refine K.seq ?_ | refine K.skip ?_ | refine K.block ?_ | refine K.inBlock ?_ | refine K.label ?_)
  repeat (first | refine K.seq ?_ | refine K.skip ?_ | refine K.block ?_ | refine K.inBlock ?_ | refine K.label ?_)
  refine K.region ?_
  refine KO.q rfl (q_move rfl) ?_
  refine KO.loud rfl (OpL.callE rfl (rd_Flag p q3 c3 _ h3)) ?_
  rintro _ _ ⟨_, ⟨q4, c4, rfl, rfl, h4⟩, rfl⟩
  refine KO.q rfl (q_field fo_24_3 rfl) ?_
  refine KO.loudN rfl (l_store1 ck_4 rfl rfl rfl (by repeat (first | exact Pick.here | apply Pick.there)) (by repeat (first | exact SetAt.here | apply SetAt.there))) ?_
  rintro _ _ ⟨rfl, rfl⟩
  refine KO.done ?_
  repeat (first | refine K.seq ?_ | refine K.skip ?_ | refine K.block ?_ | refine K.inBlock ?_ | refine K.label ?_)
  repeat (first | refine K.seq ?_ | refine K.skip ?_ | refine K.block ?_ | refine K.inBlock ?_ | refine K.label ?_)
  refine K.region ?_
  refine KO.q rfl (q_move rfl) ?_
  refine KO.loud rfl (OpL.callE rfl (rd_Text p q4 c4 _ h4)) ?_
  rintro _ _ ⟨_, ⟨q5, c5, rfl, rfl, h5⟩, rfl⟩
  refine KO.q rfl (q_field fo_24_4 rfl) ?_
  refine KO.loudN rfl (l_store1 ck_9 rfl rfl rfl (by repeat (first | exact Pick.here | apply Pick.there)) (by repeat (first | exact SetAt.here | apply SetAt.there))) ?_
  rintro _ _ ⟨rfl, rfl⟩
  refine KO.done ?_
  repeat (first | refine K.seq ?_ | refine K.skip ?_ | refine K.block ?_ | refine K.inBlock ?_ | refine K.label ?_)
  repeat (first | refine K.seq ?_ | refine K.skip ?_ | refine K.block ?_ | refine K.inBlock ?_ | refine K.label ?_)
  refine K.region ?_
  refine KO.q rfl (q_move rfl) ?_
  refine KO.loud rfl (OpL.callE rfl (rd_Text p q5 c5 _ h5)) ?_
  rintro _ _ ⟨_, ⟨q6, c6, rfl, rfl, h6⟩, rfl⟩
  refine KO.q rfl (q_field fo_24_5 rfl) ?_
  refine KO.loudN rfl (l_store1 ck_9 rfl rfl rfl (by repeat (first | exact Pick.here | apply Pick.there)) (by repeat (first | exact SetAt.here | apply SetAt.there))) ?_
  rintro _ _ ⟨rfl, rfl⟩
  refine KO.done ?_
  repeat (first | refine K.seq ?_ | refine K.skip ?_ | refine K.block ?_ | refine K.inBlock ?_ | refine K.label ?_)
  repeat (first | refine K.seq ?_ | refine K.skip ?_ | refine K.block ?_ | refine K.inBlock ?_ | refine K.label ?_)
  refine K.region ?_
  refine KO.q rfl (q_move rfl) ?_
  refine KO.loud rfl (OpL.callE rfl (rd_Failed p q6 c6 _)) ?_
  rintro _ _ ⟨_, ⟨rfl, rfl⟩, rfl⟩
  refine KO.done ?_
  repeat (first | refine K.seq ?_ | refine K.skip ?_ | refine K.block ?_ | refine K.inBlock ?_ | refine K.label ?_)
  refine K.ite rfl (fun h => ?_) (fun h => ?_)
  · have e : s.msg = (Msg.zero, s.msgT.2) := if_pos h
    repeat (first | refine K.seq ?_ | refine K.skip ?_ | refine K.block ?_ | refine K.inBlock ?_ | refine K.label ?_)
    refine K.region ?_
    refine KO.q rfl (q_build st_24 rfl (by repeat (first | exact Fill.nil | (apply Fill.cons; rfl; rfl; rfl) | exact SetN.nil | apply SetN.cons | exact SetAt.here | apply SetAt.there))) ?_
    refine KO.loudN rfl (l_storeN ck_24 rfl rfl rfl (by simp [Value.oneCell']) (by repeat (first | exact Pick.here | apply Pick.there)) (by repeat (first | exact SetN.nil | apply SetN.cons | exact SetAt.here | apply SetAt.there))) ?_
    rintro _ _ ⟨rfl, rfl⟩
    refine KO.done ?_
    repeat (first | refine K.seq ?_ | refine K.skip ?_ | refine K.block ?_ | refine K.inBlock ?_ | refine K.label ?_)
    refine K.ret (fn := Try.f41) Try.func41 (fun a w hk hs => resC Try.results41 hk rfl ck_24 rfl (cells_pv (by repeat (first | exact List.Mem.head _ | apply List.Mem.tail)) w hs)) (fun w hs => ?_)
    exact ⟨_, RdL p q6 c6 s.msgT.2, rfl, ⟨q6, c6, by rw [e]; rfl, by rw [e], by rw [e]; exact h6⟩, hs.fitD⟩
  · have e : s.msg = s.msgT := if_neg (by rw [show s.msgT.2.f = false from h]; simp)
    repeat (first | refine K.seq ?_ | refine K.skip ?_ | refine K.block ?_ | refine K.inBlock ?_ | refine K.label ?_)
    repeat (first | refine K.seq ?_ | refine K.skip ?_ | refine K.block ?_ | refine K.inBlock ?_ | refine K.label ?_)
    refine K.region ?_
    refine KO.q rfl (q_loadN ck_24 rfl rfl (by first | (apply cells_pv; (repeat (first | exact List.Mem.head _ | apply List.Mem.tail))) | (apply cells_fv; (repeat (first | exact List.Mem.head _ | apply List.Mem.tail))))) ?_
    refine KO.loudN rfl (l_storeN ck_24 rfl rfl rfl (by simp [Value.oneCell']) (by repeat (first | exact Pick.here | apply Pick.there)) (by repeat (first | exact SetN.nil | apply SetN.cons | exact SetAt.here | apply SetAt.there))) ?_
    rintro _ _ ⟨rfl, rfl⟩
    refine KO.done ?_
    repeat (first | refine K.seq ?_ | refine K.skip ?_ | refine K.block ?_ | refine K.inBlock ?_ | refine K.label ?_)
    refine K.ret (fn := Try.f41) Try.func41 (fun a w hk hs => resC Try.results41 hk rfl ck_24 rfl (cells_pv (by repeat (first | exact List.Mem.head _ | apply List.Mem.tail)) w hs)) (fun w hs => ?_)
    exact ⟨_, RdL p q6 c6 s.msgT.2, rfl, ⟨q6, c6, by rw [e]; rfl, by rw [e], by rw [e]; exact h6⟩, hs.fitD⟩
theorem ref_GetMsg (p : Nat) (q : Option Addr) (cap : Nat) (s : Rd) (hc : s.bs.length ≤ cap) : Fn Try.prog 42 [.pointer (some ⟨p, 0, none⟩)].toArray (RfL p q cap s)
    (fun r post => ∃ q' cap', r = .agg s.rmsg.1.cells.toArray ∧ post = RfL p q' cap' s.rmsg.2 ∧ s.rmsg.2.bs.length ≤ cap') := by
  refine Fn.enter (N := 21) Try.func42 rfl Try.ntmps42 (by kernel_rfl) rfl (fun ρ L => ?_)
  repeat (first | refine K.seq ?_ | refine K.skip ?_ | refine K.block ?_ | refine K.inBlock ?_ | refine K.label ?_)
  refine K.region ?_
  refine KO.loud rfl (l_alloc zo_24) ?_
  rintro _ _ ⟨b2, rfl, rfl⟩
  refine KO.done ?_
  repeat (first | refine K.seq ?_ | refine K.skip ?_ | refine K.block ?_ | refine K.inBlock ?_ | refine K.label ?_)
  repeat (first | refine K.seq ?_ | refine K.skip ?_ | refine K.block ?_ | refine K.inBlock ?_ | refine K.label ?_)
  refine K.region ?_
  refine KO.q rfl (q_move rfl) ?_
  refine KO.loud rfl (OpL.callE rfl (rf_Int p q cap s hc)) ?_
  rintro _ _ ⟨_, ⟨q1, c1, rfl, rfl, h1⟩, rfl⟩
  refine KO.q rfl (q_move rfl) ?_
  refine KO.loud rfl (OpL.callE rfl (rf_Int p q1 c1 _ h1)) ?_
  rintro _ _ ⟨_, ⟨q2, c2, rfl, rfl, h2⟩, rfl⟩
  refine KO.q rfl (q_move rfl) ?_
  refine KO.loud rfl (OpL.callE rfl (rf_Int p q2 c2 _ h2)) ?_
  rintro _ _ ⟨_, ⟨q3, c3, rfl, rfl, h3⟩, rfl⟩
  refine KO.q rfl (q_move rfl) ?_
  refine KO.loud rfl (OpL.callE rfl (rf_Flag p q3 c3 _ h3)) ?_
  rintro _ _ ⟨_, ⟨q4, c4, rfl, rfl, h4⟩, rfl⟩
  refine KO.q rfl (q_move rfl) ?_
  refine KO.loud rfl (OpL.callE rfl (rf_Text p q4 c4 _ h4)) ?_
  rintro _ _ ⟨_, ⟨q5, c5, rfl, rfl, h5⟩, rfl⟩
  refine KO.q rfl (q_move rfl) ?_
  refine KO.loud rfl (OpL.callE rfl (rf_Text p q5 c5 _ h5)) ?_
  rintro _ _ ⟨_, ⟨q6, c6, rfl, rfl, h6⟩, rfl⟩
  refine KO.q rfl (q_build st_24 rfl (by repeat (first | exact Fill.nil | (apply Fill.cons; rfl; rfl; rfl) | exact SetN.nil | apply SetN.cons | exact SetAt.here | apply SetAt.there))) ?_
  refine KO.loud rfl (l_alloc zo_24) ?_
  rintro _ _ ⟨b3, rfl, rfl⟩
  refine KO.loudN rfl (l_storeN ck_24 rfl rfl rfl (by simp [Value.oneCell']) (by repeat (first | exact Pick.here | apply Pick.there)) (by repeat (first | exact SetN.nil | apply SetN.cons | exact SetAt.here | apply SetAt.there))) ?_
  rintro _ _ ⟨rfl, rfl⟩
  refine KO.done ?_
  repeat (first | refine K.seq ?_ | refine K.skip ?_ | refine K.block ?_ | refine K.inBlock ?_ | refine K.label ?_)
  repeat (first | refine K.seq ?_ | refine K.skip ?_ | refine K.block ?_ | refine K.inBlock ?_ | refine K.label ?_)
  refine K.region ?_
  refine KO.q rfl (q_move rfl) ?_
  refine KO.loud rfl (OpL.callE rfl (rf_Bad p q6 c6 _)) ?_
  rintro _ _ ⟨_, ⟨rfl, rfl⟩, rfl⟩
  refine KO.done ?_
  repeat (first | refine K.seq ?_ | refine K.skip ?_ | refine K.block ?_ | refine K.inBlock ?_ | refine K.label ?_)
  refine K.ite rfl (fun h => ?_) (fun h => ?_)
  · have e : s.rmsg = (Msg.zero, s.rmsgT.2) := if_pos h
    repeat (first | refine K.seq ?_ | refine K.skip ?_ | refine K.block ?_ | refine K.inBlock ?_ | refine K.label ?_)
    refine K.region ?_
    refine KO.q rfl (q_build st_24 rfl (by repeat (first | exact Fill.nil | (apply Fill.cons; rfl; rfl; rfl) | exact SetN.nil | apply SetN.cons | exact SetAt.here | apply SetAt.there))) ?_
    refine KO.loudN rfl (l_storeN ck_24 rfl rfl rfl (by simp [Value.oneCell']) (by repeat (first | exact Pick.here | apply Pick.there)) (by repeat (first | exact SetN.nil | apply SetN.cons | exact SetAt.here | apply SetAt.there))) ?_
    rintro _ _ ⟨rfl, rfl⟩
    refine KO.done ?_
    repeat (first | refine K.seq ?_ | refine K.skip ?_ | refine K.block ?_ | refine K.inBlock ?_ | refine K.label ?_)
    refine K.ret (fn := Try.f42) Try.func42 (fun a w hk hs => resC Try.results42 hk rfl ck_24 rfl (cells_pv (by repeat (first | exact List.Mem.head _ | apply List.Mem.tail)) w hs)) (fun w hs => ?_)
    exact ⟨_, RfL p q6 c6 s.rmsgT.2, rfl, ⟨q6, c6, by rw [e]; rfl, by rw [e], by rw [e]; exact h6⟩, hs.fitD⟩
  · have e : s.rmsg = s.rmsgT := if_neg (by rw [show s.rmsgT.2.f = false from h]; simp)
    repeat (first | refine K.seq ?_ | refine K.skip ?_ | refine K.block ?_ | refine K.inBlock ?_ | refine K.label ?_)
    repeat (first | refine K.seq ?_ | refine K.skip ?_ | refine K.block ?_ | refine K.inBlock ?_ | refine K.label ?_)
    refine K.region ?_
    refine KO.q rfl (q_loadN ck_24 rfl rfl (by first | (apply cells_pv; (repeat (first | exact List.Mem.head _ | apply List.Mem.tail))) | (apply cells_fv; (repeat (first | exact List.Mem.head _ | apply List.Mem.tail))))) ?_
    refine KO.loudN rfl (l_storeN ck_24 rfl rfl rfl (by simp [Value.oneCell']) (by repeat (first | exact Pick.here | apply Pick.there)) (by repeat (first | exact SetN.nil | apply SetN.cons | exact SetAt.here | apply SetAt.there))) ?_
    rintro _ _ ⟨rfl, rfl⟩
    refine KO.done ?_
    repeat (first | refine K.seq ?_ | refine K.skip ?_ | refine K.block ?_ | refine K.inBlock ?_ | refine K.label ?_)
    refine K.ret (fn := Try.f42) Try.func42 (fun a w hk hs => resC Try.results42 hk rfl ck_24 rfl (cells_pv (by repeat (first | exact List.Mem.head _ | apply List.Mem.tail)) w hs)) (fun w hs => ?_)
    exact ⟨_, RfL p q6 c6 s.rmsgT.2, rfl, ⟨q6, c6, by rw [e]; rfl, by rw [e], by rw [e]; exact h6⟩, hs.fitD⟩
theorem ref_putMsg (p : Nat) (q : Option Addr) (cap : Nat) (xs : List UInt8) (m : Msg) (hb : xs.length ≤ 137438953472) (h1 : m.corr.size ≤ 65535) (h2 : m.body.size ≤ 65535) : Fn Try.prog 63 [.pointer (some ⟨p, 0, none⟩), .agg m.cells.toArray].toArray (WfL p q cap xs)
    (fun r post => ∃ q' cap', r = .tuple #[] ∧ post = WfL p q' cap' (xs ++ m.bytes)) := by
  obtain ⟨id, pri, retry, claimed, corr, body⟩ := m
  have l1 := wInt_length id
  have l2 := wInt_length pri
  have l3 := wInt_length retry
  have l4 := wFlag_length claimed
  have l5 := wText_length corr
  refine Fn.enter (N := 28) Try.func63 rfl Try.ntmps63 (by kernel_rfl) rfl (fun ρ L => ?_)
  repeat (first | refine K.seq ?_ | refine K.skip ?_ | refine K.block ?_ | refine K.inBlock ?_ | refine K.label ?_)
  refine K.region ?_
  refine KO.loud rfl (l_box rfl rfl) ?_
  rintro _ _ ⟨b3, rfl, rfl⟩
  refine KO.done ?_
  repeat (first | refine K.seq ?_ | refine K.skip ?_ | refine K.block ?_ | refine K.inBlock ?_ | refine K.label ?_)
  repeat (first | refine K.seq ?_ | refine K.skip ?_ | refine K.block ?_ | refine K.inBlock ?_ | refine K.label ?_)
  refine K.region ?_
  refine KO.q rfl (q_move rfl) ?_
  refine KO.q rfl (q_field fo_24_0 rfl) ?_
  refine KO.q rfl (q_load1D ck_3 rfl) ?_
  refine KO.loud rfl (OpL.callE rfl (wf_Int p q cap xs id (by omega))) ?_
  rintro _ _ ⟨_, ⟨q1, c1, rfl, rfl⟩, rfl⟩
  refine KO.done ?_
  repeat (first | refine K.seq ?_ | refine K.skip ?_ | refine K.block ?_ | refine K.inBlock ?_ | refine K.label ?_)
  repeat (first | refine K.seq ?_ | refine K.skip ?_ | refine K.block ?_ | refine K.inBlock ?_ | refine K.label ?_)
  refine K.region ?_
  refine KO.q rfl (q_move rfl) ?_
  refine KO.q rfl (q_field fo_24_1 rfl) ?_
  refine KO.q rfl (q_load1D ck_3 rfl) ?_
  refine KO.loud rfl (OpL.callE rfl (wf_Int p q1 c1 (xs ++ wInt id) pri (by simp; omega))) ?_
  rintro _ _ ⟨_, ⟨q2, c2, rfl, rfl⟩, rfl⟩
  refine KO.done ?_
  repeat (first | refine K.seq ?_ | refine K.skip ?_ | refine K.block ?_ | refine K.inBlock ?_ | refine K.label ?_)
  repeat (first | refine K.seq ?_ | refine K.skip ?_ | refine K.block ?_ | refine K.inBlock ?_ | refine K.label ?_)
  refine K.region ?_
  refine KO.q rfl (q_move rfl) ?_
  refine KO.q rfl (q_field fo_24_2 rfl) ?_
  refine KO.q rfl (q_load1D ck_3 rfl) ?_
  refine KO.loud rfl (OpL.callE rfl (wf_Int p q2 c2 (xs ++ wInt id ++ wInt pri) retry (by simp; omega))) ?_
  rintro _ _ ⟨_, ⟨q3, c3, rfl, rfl⟩, rfl⟩
  refine KO.done ?_
  repeat (first | refine K.seq ?_ | refine K.skip ?_ | refine K.block ?_ | refine K.inBlock ?_ | refine K.label ?_)
  repeat (first | refine K.seq ?_ | refine K.skip ?_ | refine K.block ?_ | refine K.inBlock ?_ | refine K.label ?_)
  refine K.region ?_
  refine KO.q rfl (q_move rfl) ?_
  refine KO.q rfl (q_field fo_24_3 rfl) ?_
  refine KO.q rfl (q_load1D ck_4 rfl) ?_
  refine KO.loud rfl (OpL.callE rfl (wf_Flag p q3 c3 (xs ++ wInt id ++ wInt pri ++ wInt retry) claimed (by simp; omega))) ?_
  rintro _ _ ⟨_, ⟨q4, c4, rfl, rfl⟩, rfl⟩
  refine KO.done ?_
  repeat (first | refine K.seq ?_ | refine K.skip ?_ | refine K.block ?_ | refine K.inBlock ?_ | refine K.label ?_)
  repeat (first | refine K.seq ?_ | refine K.skip ?_ | refine K.block ?_ | refine K.inBlock ?_ | refine K.label ?_)
  refine K.region ?_
  refine KO.q rfl (q_move rfl) ?_
  refine KO.q rfl (q_field fo_24_4 rfl) ?_
  refine KO.q rfl (q_load1D ck_9 rfl) ?_
  refine KO.loud rfl (OpL.callE rfl (wf_Text p q4 c4 (xs ++ wInt id ++ wInt pri ++ wInt retry ++ wFlag claimed) corr (by simp; omega) h1)) ?_
  rintro _ _ ⟨_, ⟨q5, c5, rfl, rfl⟩, rfl⟩
  refine KO.done ?_
  repeat (first | refine K.seq ?_ | refine K.skip ?_ | refine K.block ?_ | refine K.inBlock ?_ | refine K.label ?_)
  repeat (first | refine K.seq ?_ | refine K.skip ?_ | refine K.block ?_ | refine K.inBlock ?_ | refine K.label ?_)
  refine K.region ?_
  refine KO.q rfl (q_move rfl) ?_
  refine KO.q rfl (q_field fo_24_5 rfl) ?_
  refine KO.q rfl (q_load1D ck_9 rfl) ?_
  refine KO.loud rfl (OpL.callE rfl (wf_Text p q5 c5 (xs ++ wInt id ++ wInt pri ++ wInt retry ++ wFlag claimed ++ wText corr) body (by simp; omega) h2)) ?_
  rintro _ _ ⟨_, ⟨q6, c6, rfl, rfl⟩, rfl⟩
  refine KO.done ?_
  repeat (first | refine K.seq ?_ | refine K.skip ?_ | refine K.block ?_ | refine K.inBlock ?_ | refine K.label ?_)
  have e : xs ++ wInt id ++ wInt pri ++ wInt retry ++ wFlag claimed ++ wText corr ++ wText body = xs ++ (Msg.mk id pri retry claimed corr body).bytes := by simp [Msg.bytes]
  rw [e]
  refine K.fin (fn := Try.f63) Try.func63 (fun a w hk hs => res0 Try.results63) (fun w hs => ?_)
  exact ⟨_, WfL p q6 c6 (xs ++ (Msg.mk id pri retry claimed corr body).bytes), rfl, ⟨q6, c6, rfl, rfl⟩, hs.fitD⟩
theorem ref_MsgBytes (m : Msg) (h1 : m.corr.size ≤ 65535) (h2 : m.body.size ≤ 65535) : Fn Try.prog 22 [.agg m.cells.toArray].toArray []
    (fun r post => ∃ q cap, r = .slice q m.bytes.length cap ∧ post = [RowF Kd.u8 q m.bytes]) := by
  refine Fn.enter (N := 13) Try.func22 rfl Try.ntmps22 (by kernel_rfl) rfl (fun ρ L => ?_)
  repeat (first | refine K.seq ?_ | refine K.skip ?_ | refine K.block ?_ | refine K.inBlock ?_ | refine K.label ?_)
  refine K.region ?_
  refine KO.loud rfl (l_box rfl rfl) ?_
  rintro _ _ ⟨b1, rfl, rfl⟩
  refine KO.q rfl (q_assign rfl) ?_
  refine KO.done ?_
  repeat (first | refine K.seq ?_ | refine K.skip ?_ | refine K.block ?_ | refine K.inBlock ?_ | refine K.label ?_)
  repeat (first | refine K.seq ?_ | refine K.skip ?_ | refine K.block ?_ | refine K.inBlock ?_ | refine K.label ?_)
  refine K.region ?_
  refine KO.q rfl (q_build st_52 rfl (by repeat (first | exact Fill.nil | (apply Fill.cons; rfl; rfl; rfl) | exact SetN.nil | apply SetN.cons | exact SetAt.here | apply SetAt.there))) ?_
  refine KO.loud rfl (l_box rfl rfl) ?_
  rintro _ _ ⟨b5, rfl, rfl⟩
  refine KO.q rfl (q_assign rfl) ?_
  refine KO.done ?_
  repeat (first | refine K.seq ?_ | refine K.skip ?_ | refine K.block ?_ | refine K.inBlock ?_ | refine K.label ?_)
  refine K.st (fun w h => rowO_nil (k := Kd.u8) 5 h) ?_
  repeat (first | refine K.seq ?_ | refine K.skip ?_ | refine K.block ?_ | refine K.inBlock ?_ | refine K.label ?_)
  refine K.region ?_
  refine KO.q rfl (q_move rfl) ?_
  refine KO.q rfl (q_loadN ck_24 rfl rfl (by first | (apply cells_pv; (repeat (first | exact List.Mem.head _ | apply List.Mem.tail))) | (apply cells_fv; (repeat (first | exact List.Mem.head _ | apply List.Mem.tail))))) ?_
  refine KO.loud rfl (OpL.callE rfl (ref_putMsg b5 none 0 [] m (by simp) h1 h2)) ?_
  rintro _ _ ⟨_, ⟨q1, c1, rfl, rfl⟩, rfl⟩
  refine KO.done ?_
  repeat (first | refine K.seq ?_ | refine K.skip ?_ | refine K.block ?_ | refine K.inBlock ?_ | refine K.label ?_)
  rw [List.nil_append]
  refine K.st (fun w h => rowO_freeze (h.pick (.there .here))) ?_
  repeat (first | refine K.seq ?_ | refine K.skip ?_ | refine K.block ?_ | refine K.inBlock ?_ | refine K.label ?_)
  refine K.region ?_
  refine KO.q rfl (q_move rfl) ?_
  refine KO.q rfl (q_nilCheck rfl) ?_
  refine KO.q rfl (q_field fo_52_0 rfl) ?_
  refine KO.q rfl (q_load1D ck_25 rfl) ?_
  refine KO.q rfl (q_assign rfl) ?_
  refine KO.done ?_
  repeat (first | refine K.seq ?_ | refine K.skip ?_ | refine K.block ?_ | refine K.inBlock ?_ | refine K.label ?_)
  refine K.ret (fn := Try.f22) Try.func22 (fun a w hk hs => res1 Try.results22 hk rfl) (fun w hs => ?_)
  exact ⟨_, [RowF Kd.u8 q1 m.bytes], rfl, ⟨q1, c1, rfl, rfl⟩, hs.fitD⟩
end Go.Proofs.Ytlellgnklohclaa.L
/-! Walks: postelaw14.MessageReads, MessageBack. -/
namespace Go.Proofs.Ytlellgnklohclaa.L
open Go Go.Proofs
attribute [local irreducible] pv fv pt fz RowF RowO rowP old pure_
set_option maxRecDepth 100000
set_option linter.unusedSimpArgs false
set_option linter.unusedVariables false

def Msg.beq (a b : Msg) : Bool := (a.id == b.id) && ((a.pri == b.pri) && ((a.retry == b.retry) && ((a.claimed == b.claimed) && ((a.corr == b.corr) && ((a.body == b.body) && true)))))
theorem Msg.beq_self {a b : Msg} (h : a = b) : a.beq b = true := by subst h; simp [Msg.beq, beq_toListBytes]
theorem msg_hp : Try.prog.stoodInHeld 24 = false := by kernel_rfl
theorem msg_hg : Try.prog.eqGuardType Try.prog.depth 24 = false := by kernel_rfl
theorem msg_eqF (a b : Msg) {fs : Array Field} (h : Try.prog.underlying 24 = some (.struct fs)) : EqF Try.prog a.cells b.cells fs.toList (a.beq b) := by
  rw [Try.underlying24] at h
  cases h
  exact .cons rfl ck_3 rfl rfl (.int Try.underlying3) (.cons rfl ck_3 rfl rfl (.int Try.underlying3) (.cons rfl ck_3 rfl rfl (.int Try.underlying3) (.cons rfl ck_4 rfl rfl (.bool Try.underlying4) (.cons rfl ck_9 rfl rfl (.str Try.underlying9) (.cons rfl ck_9 rfl rfl (.str Try.underlying9) .nil)))))
theorem msg_eqT {a b : Msg} (e : a = b) {fs : Array Field} (h : Try.prog.underlying 24 = some (.struct fs)) : EqF Try.prog a.cells b.cells fs.toList true := by
  have := msg_eqF a b h
  rwa [Msg.beq_self e] at this
theorem Alike.msgT {s t : Rd} (h : Alike s t) : Alike s.msgT.2 t.rmsgT.2 ∧ s.msgT.1 = t.rmsgT.1 := by
  have h1 := h.int
  have h2 := h1.1.int
  have h3 := h2.1.int
  have h4 := h3.1.flag
  have h5 := h4.1.text
  have h6 := h5.1.text
  unfold Rd.msgT Rd.rmsgT
  refine ⟨h6.1, ?_⟩
  show Msg.mk _ _ _ _ _ _ = Msg.mk _ _ _ _ _ _
  rw [h1.2, h2.2, h3.2, h4.2, h5.2, h6.2]
theorem Alike.msg {s t : Rd} (h : Alike s t) : Alike s.msg.2 t.rmsg.2 ∧ s.msg.1 = t.rmsg.1 := by
  have h1 := h.msgT
  unfold Rd.msg Rd.rmsg
  rw [← h1.1.1]
  by_cases hf : s.msgT.2.f = true
  · rw [if_pos hf, if_pos hf]; exact ⟨h1.1, rfl⟩
  · rw [if_neg hf, if_neg hf]; exact h1
theorem Rd.msg_app (m : Msg) (hf : -9223372036854775808 ≤ m.id ∧ m.id ≤ 9223372036854775807) (hp : -9223372036854775808 ≤ m.pri ∧ m.pri ≤ 9223372036854775807) (hr : -9223372036854775808 ≤ m.retry ∧ m.retry ≤ 9223372036854775807) (h1 : m.corr.size ≤ 65535) (h2 : m.body.size ≤ 65535) (r : List UInt8) :
    Rd.msg ⟨m.bytes ++ r, false⟩ = (m, ⟨r, false⟩) := by
  have e : m.bytes ++ r = wInt m.id ++ (wInt m.pri ++ (wInt m.retry ++ (wFlag m.claimed ++ (wText m.corr ++ (wText m.body ++ r))))) := by simp [Msg.bytes]
  have hT : Rd.msgT ⟨m.bytes ++ r, false⟩ = (m, ⟨r, false⟩) := by
    unfold Rd.msgT
    rw [e]
    simp only [Rd.int_app hf.1 hf.2, Rd.int_app hp.1 hp.2, Rd.int_app hr.1 hr.2, Rd.flag_app, Rd.text_app' m.corr h1, Rd.text_app' m.body h2]
  unfold Rd.msg
  rw [hT, if_neg (by simp)]
set_option maxHeartbeats 800000 in
theorem law_MessageReads (q : Option Addr) (cap : Nat) (xs : List UInt8) (hc : xs.length ≤ cap) : Fn Try.prog 9 [.slice q xs.length cap].toArray [RowF Kd.u8 q xs] (fun r post => r = .bool true ∧ post = []) := by
  by_cases hout : 1000 < (xs.length : Int)
  · refine Fn.enter (N := 52) Try.func9 rfl Try.ntmps9 (by kernel_rfl) rfl (fun ρ L => ?_)
    repeat (first | refine K.seq ?_ | refine K.skip ?_ | refine K.block ?_ | refine K.inBlock ?_ | refine K.label ?_)
    refine K.region ?_
    refine KO.q rfl (q_assign rfl) ?_
    refine KO.done ?_
    repeat (first | refine K.seq ?_ | refine K.skip ?_ | refine K.block ?_ | refine K.inBlock ?_ | refine K.label ?_)
    repeat (first | refine K.seq ?_ | refine K.skip ?_ | refine K.block ?_ | refine K.inBlock ?_ | refine K.label ?_)
    refine K.region ?_
    refine KO.loud rfl (OpL.call rfl alive14 (by repeat (first | exact Give.nil | (apply Give.perI; (repeat (first | exact List.Mem.head _ | apply List.Mem.tail))) | (apply Give.own; (repeat (first | exact Pick.here | apply Pick.there)))))) ?_
    rintro _ _ ⟨_, ⟨rfl, rfl⟩, rfl⟩
    refine KO.q rfl (q_assign rfl) ?_
    refine KO.done ?_
    repeat (first | refine K.seq ?_ | refine K.skip ?_ | refine K.block ?_ | refine K.inBlock ?_ | refine K.label ?_)
    repeat (first | refine K.seq ?_ | refine K.skip ?_ | refine K.block ?_ | refine K.inBlock ?_ | refine K.label ?_)
    refine K.region ?_
    refine KO.q rfl (q_move rfl) ?_
    refine KO.q rfl (q_not rfl) ?_
    refine KO.q rfl (q_move rfl) ?_
    refine KO.q rfl (q_move rfl) ?_
    refine KO.q rfl (q_len Try.underlying25 rfl) ?_
    refine KO.q rfl (q_gt rfl rfl) ?_
    refine KO.q rfl (q_pickF rfl rfl) ?_
    refine KO.done ?_
    repeat (first | refine K.seq ?_ | refine K.skip ?_ | refine K.block ?_ | refine K.inBlock ?_ | refine K.label ?_)
    refine K.dite rfl (fun _ => ?_) (fun hh => absurd hout hh)
    repeat (first | refine K.seq ?_ | refine K.skip ?_ | refine K.block ?_ | refine K.inBlock ?_ | refine K.label ?_)
    refine K.region ?_
    refine KO.q rfl (q_move rfl) ?_
    refine KO.q rfl (q_assign rfl) ?_
    refine KO.done ?_
    repeat (first | refine K.seq ?_ | refine K.skip ?_ | refine K.block ?_ | refine K.inBlock ?_ | refine K.label ?_)
    refine K.ret (fn := Try.f9) Try.func9 (fun a w hk hs => res1 Try.results9 hk rfl) (fun w hs => ?_)
    exact ⟨_, [], rfl, ⟨rfl, rfl⟩, hs.fitD⟩
  · refine Fn.enter (N := 52) Try.func9 rfl Try.ntmps9 (by kernel_rfl) rfl (fun ρ L => ?_)
    repeat (first | refine K.seq ?_ | refine K.skip ?_ | refine K.block ?_ | refine K.inBlock ?_ | refine K.label ?_)
    refine K.region ?_
    refine KO.q rfl (q_assign rfl) ?_
    refine KO.done ?_
    repeat (first | refine K.seq ?_ | refine K.skip ?_ | refine K.block ?_ | refine K.inBlock ?_ | refine K.label ?_)
    repeat (first | refine K.seq ?_ | refine K.skip ?_ | refine K.block ?_ | refine K.inBlock ?_ | refine K.label ?_)
    refine K.region ?_
    refine KO.loud rfl (OpL.call rfl alive14 (by repeat (first | exact Give.nil | (apply Give.perI; (repeat (first | exact List.Mem.head _ | apply List.Mem.tail))) | (apply Give.own; (repeat (first | exact Pick.here | apply Pick.there)))))) ?_
    rintro _ _ ⟨_, ⟨rfl, rfl⟩, rfl⟩
    refine KO.q rfl (q_assign rfl) ?_
    refine KO.done ?_
    repeat (first | refine K.seq ?_ | refine K.skip ?_ | refine K.block ?_ | refine K.inBlock ?_ | refine K.label ?_)
    repeat (first | refine K.seq ?_ | refine K.skip ?_ | refine K.block ?_ | refine K.inBlock ?_ | refine K.label ?_)
    refine K.region ?_
    refine KO.q rfl (q_move rfl) ?_
    refine KO.q rfl (q_not rfl) ?_
    refine KO.q rfl (q_move rfl) ?_
    refine KO.q rfl (q_move rfl) ?_
    refine KO.q rfl (q_len Try.underlying25 rfl) ?_
    refine KO.q rfl (q_gt rfl rfl) ?_
    refine KO.q rfl (q_pickF rfl rfl) ?_
    refine KO.done ?_
    repeat (first | refine K.seq ?_ | refine K.skip ?_ | refine K.block ?_ | refine K.inBlock ?_ | refine K.label ?_)
    refine K.dite rfl (fun hh => absurd hh hout) (fun _ => ?_)
    repeat (first | refine K.seq ?_ | refine K.skip ?_ | refine K.block ?_ | refine K.inBlock ?_ | refine K.label ?_)
    refine K.st (fun w h => rowO_nil (k := Kd.u8) 5 h) ?_
    repeat (first | refine K.seq ?_ | refine K.skip ?_ | refine K.block ?_ | refine K.inBlock ?_ | refine K.label ?_)
    refine K.region ?_
    refine KO.q rfl (q_move rfl) ?_
    refine KO.loud rfl (l_append Kd.u8 se_25 Try.underlying25 ⟨_, ze_5, rfl⟩ (by decide) rfl rfl Pick.here isF (by repeat (first | exact List.Mem.head _ | apply List.Mem.tail)) rfl rfl (by simp; omega)) ?_
    rintro _ _ ⟨q4, cap4, rfl, rfl⟩
    rw [List.nil_append]
    refine KO.fact (rowO_cap (List.Mem.head _)) (fun h4 => ?_)
    refine KO.st (fun w h => rowO_freeze h) ?_
    refine KO.loud rfl (OpL.callE rfl (rd_New q4 cap4 xs (by omega))) ?_
    rintro _ _ ⟨_, ⟨p1, q1, c1, rfl, rfl, hc1⟩, rfl⟩
    refine KO.q rfl (q_assign rfl) ?_
    refine KO.done ?_
    repeat (first | refine K.seq ?_ | refine K.skip ?_ | refine K.block ?_ | refine K.inBlock ?_ | refine K.label ?_)
    repeat (first | refine K.seq ?_ | refine K.skip ?_ | refine K.block ?_ | refine K.inBlock ?_ | refine K.label ?_)
    refine K.region ?_
    refine KO.q rfl (q_move rfl) ?_
    refine KO.loud rfl (OpL.callE rfl (rf_New q cap xs)) ?_
    rintro _ _ ⟨_, ⟨p2, rfl, rfl⟩, rfl⟩
    refine KO.q rfl (q_assign rfl) ?_
    refine KO.done ?_
    repeat (first | refine K.seq ?_ | refine K.skip ?_ | refine K.block ?_ | refine K.inBlock ?_ | refine K.label ?_)
    have hA := (Alike.refl ⟨xs, false⟩).msg
    repeat (first | refine K.seq ?_ | refine K.skip ?_ | refine K.block ?_ | refine K.inBlock ?_ | refine K.label ?_)
    refine K.region ?_
    refine KO.q rfl (q_move rfl) ?_
    refine KO.loud rfl (OpL.callE rfl (msg_Read p1 q1 c1 ⟨xs, false⟩ hc1)) ?_
    rintro _ _ ⟨_, ⟨q2, c2, rfl, rfl, hc2⟩, rfl⟩
    refine KO.loud rfl (l_alloc zo_24) ?_
    rintro _ _ ⟨b6, rfl, rfl⟩
    refine KO.loudN rfl (l_storeN ck_24 rfl rfl rfl (msg_one _) (by repeat (first | exact Pick.here | apply Pick.there)) (by repeat (first | exact SetN.nil | apply SetN.cons | exact SetAt.here | apply SetAt.there))) ?_
    rintro _ _ ⟨rfl, rfl⟩
    refine KO.done ?_
    repeat (first | refine K.seq ?_ | refine K.skip ?_ | refine K.block ?_ | refine K.inBlock ?_ | refine K.label ?_)
    repeat (first | refine K.seq ?_ | refine K.skip ?_ | refine K.block ?_ | refine K.inBlock ?_ | refine K.label ?_)
    refine K.region ?_
    refine KO.q rfl (q_move rfl) ?_
    refine KO.loud rfl (OpL.callE rfl (ref_GetMsg p2 q cap ⟨xs, false⟩ hc)) ?_
    rintro _ _ ⟨_, ⟨q3, c3, rfl, rfl, hc3⟩, rfl⟩
    refine KO.loud rfl (l_alloc zo_24) ?_
    rintro _ _ ⟨b7, rfl, rfl⟩
    refine KO.loudN rfl (l_storeN ck_24 rfl rfl rfl (msg_one _) (by repeat (first | exact Pick.here | apply Pick.there)) (by repeat (first | exact SetN.nil | apply SetN.cons | exact SetAt.here | apply SetAt.there))) ?_
    rintro _ _ ⟨rfl, rfl⟩
    refine KO.done ?_
    repeat (first | refine K.seq ?_ | refine K.skip ?_ | refine K.block ?_ | refine K.inBlock ?_ | refine K.label ?_)
    generalize Rd.msg ⟨xs, false⟩ = U at hA hc2 ⊢
    generalize Rd.rmsg ⟨xs, false⟩ = V at hA hc3 ⊢
    obtain ⟨m, s⟩ := U
    obtain ⟨m', t⟩ := V
    replace hA : Alike s t ∧ m = m' := hA
    obtain ⟨ha, hm⟩ := hA
    repeat (first | refine K.seq ?_ | refine K.skip ?_ | refine K.block ?_ | refine K.inBlock ?_ | refine K.label ?_)
    refine K.region ?_
    refine KO.q rfl (q_move rfl) ?_
    refine KO.q rfl (q_pnil Try.underlying38 rfl rfl) ?_
    refine KO.q rfl (q_move rfl) ?_
    refine KO.q rfl (q_loadN ck_24 rfl rfl (by first | (apply cells_pv; (repeat (first | exact List.Mem.head _ | apply List.Mem.tail))) | (apply cells_fv; (repeat (first | exact List.Mem.head _ | apply List.Mem.tail))))) ?_
    refine KO.q rfl (q_loadN ck_24 rfl rfl (by first | (apply cells_pv; (repeat (first | exact List.Mem.head _ | apply List.Mem.tail))) | (apply cells_fv; (repeat (first | exact List.Mem.head _ | apply List.Mem.tail))))) ?_
    refine KO.q rfl (q_recN Try.underlying24 msg_hp msg_hg rfl rfl (msg_eqT hm Try.underlying24)) ?_
    refine KO.q rfl (q_pickF rfl rfl) ?_
    refine KO.q rfl (q_move rfl) ?_
    refine KO.q rfl (q_move rfl) ?_
    refine KO.loud rfl (OpL.callE rfl (rd_Done p1 q2 c2 s)) ?_
    rintro _ _ ⟨_, ⟨rfl, rfl⟩, rfl⟩
    refine KO.q rfl (q_move rfl) ?_
    refine KO.loud rfl (OpL.callE rfl (rf_Done p2 q3 c3 t)) ?_
    rintro _ _ ⟨_, ⟨rfl, rfl⟩, rfl⟩
    refine KO.q rfl (q_bneF Try.underlying4 rfl rfl ha.done) ?_
    refine KO.q rfl (q_pickF rfl rfl) ?_
    refine KO.done ?_
    repeat (first | refine K.seq ?_ | refine K.skip ?_ | refine K.block ?_ | refine K.inBlock ?_ | refine K.label ?_)
    refine K.no rfl ?_
    repeat (first | refine K.seq ?_ | refine K.skip ?_ | refine K.block ?_ | refine K.inBlock ?_ | refine K.label ?_)
    refine K.region ?_
    refine KO.q rfl (q_move rfl) ?_
    refine KO.loud rfl (OpL.callE rfl (rd_Int p1 q2 c2 s hc2)) ?_
    rintro _ _ ⟨_, ⟨q5, c5, rfl, rfl, hc5⟩, rfl⟩
    refine KO.q rfl (q_move rfl) ?_
    refine KO.loud rfl (OpL.callE rfl (rf_Int p2 q3 c3 t hc3)) ?_
    rintro _ _ ⟨_, ⟨q6, c6, rfl, rfl, hc6⟩, rfl⟩
    refine KO.q rfl (q_eqT rfl rfl ha.int.2) ?_
    refine KO.q rfl (q_move rfl) ?_
    refine KO.q rfl (q_move rfl) ?_
    refine KO.loud rfl (OpL.callE rfl (rd_Done p1 q5 c5 s.int.2)) ?_
    rintro _ _ ⟨_, ⟨rfl, rfl⟩, rfl⟩
    refine KO.q rfl (q_move rfl) ?_
    refine KO.loud rfl (OpL.callE rfl (rf_Done p2 q6 c6 t.rint.2)) ?_
    rintro _ _ ⟨_, ⟨rfl, rfl⟩, rfl⟩
    refine KO.q rfl (q_beqT Try.underlying4 rfl rfl ha.int.1.done) ?_
    refine KO.q rfl (q_pickT rfl rfl) ?_
    refine KO.q rfl (q_assign rfl) ?_
    refine KO.done ?_
    repeat (first | refine K.seq ?_ | refine K.skip ?_ | refine K.block ?_ | refine K.inBlock ?_ | refine K.label ?_)
    refine K.ret (fn := Try.f9) Try.func9 (fun a w hk hs => res1 Try.results9 hk rfl) (fun w hs => ?_)
    exact ⟨_, [], rfl, ⟨rfl, rfl⟩, hs.fitD⟩
set_option maxHeartbeats 800000 in
theorem law_MessageBack (m : Msg) (hf : -9223372036854775808 ≤ m.id ∧ m.id ≤ 9223372036854775807) (hp : -9223372036854775808 ≤ m.pri ∧ m.pri ≤ 9223372036854775807) (hr : -9223372036854775808 ≤ m.retry ∧ m.retry ≤ 9223372036854775807) : Fn Try.prog 10 [.agg m.cells.toArray].toArray [] (fun r post => r = .bool true ∧ post = []) := by
  by_cases h0 : 200 < (m.corr.size : Int)
  · refine Fn.enter (N := 32) Try.func10 rfl Try.ntmps10 (by kernel_rfl) rfl (fun ρ L => ?_)
    repeat (first | refine K.seq ?_ | refine K.skip ?_ | refine K.block ?_ | refine K.inBlock ?_ | refine K.label ?_)
    refine K.region ?_
    refine KO.loud rfl (l_box rfl rfl) ?_
    rintro _ _ ⟨b1, rfl, rfl⟩
    refine KO.q rfl (q_assign rfl) ?_
    refine KO.done ?_
    repeat (first | refine K.seq ?_ | refine K.skip ?_ | refine K.block ?_ | refine K.inBlock ?_ | refine K.label ?_)
    repeat (first | refine K.seq ?_ | refine K.skip ?_ | refine K.block ?_ | refine K.inBlock ?_ | refine K.label ?_)
    refine K.region ?_
    refine KO.loud rfl (OpL.call rfl alive14 (by repeat (first | exact Give.nil | (apply Give.perI; (repeat (first | exact List.Mem.head _ | apply List.Mem.tail))) | (apply Give.own; (repeat (first | exact Pick.here | apply Pick.there)))))) ?_
    rintro _ _ ⟨_, ⟨rfl, rfl⟩, rfl⟩
    refine KO.q rfl (q_assign rfl) ?_
    refine KO.done ?_
    repeat (first | refine K.seq ?_ | refine K.skip ?_ | refine K.block ?_ | refine K.inBlock ?_ | refine K.label ?_)
    repeat (first | refine K.seq ?_ | refine K.skip ?_ | refine K.block ?_ | refine K.inBlock ?_ | refine K.label ?_)
    refine K.region ?_
    refine KO.q rfl (q_move rfl) ?_
    refine KO.q rfl (q_not rfl) ?_
    refine KO.q rfl (q_move rfl) ?_
    refine KO.q rfl (q_field fo_24_4 rfl) ?_
    refine KO.q rfl (q_load1D ck_9 rfl) ?_
    refine KO.q rfl (q_lenS Try.underlying9 rfl) ?_
    refine KO.q rfl (q_gt rfl rfl) ?_
    refine KO.q rfl (q_pickF rfl rfl) ?_
    refine KO.q rfl (q_move rfl) ?_
    refine KO.split 14 rfl (fun _ => ?_) (fun hh => absurd h0 (of_decide_eq_false hh))
    refine KO.skip rfl ?_
    refine KO.skip rfl ?_
    refine KO.skip rfl ?_
    refine KO.skip rfl ?_
    refine KO.q rfl (q_pickT rfl rfl) ?_
    refine KO.done ?_
    repeat (first | refine K.seq ?_ | refine K.skip ?_ | refine K.block ?_ | refine K.inBlock ?_ | refine K.label ?_)
    refine K.yes rfl ?_
    repeat (first | refine K.seq ?_ | refine K.skip ?_ | refine K.block ?_ | refine K.inBlock ?_ | refine K.label ?_)
    refine K.region ?_
    refine KO.q rfl (q_move rfl) ?_
    refine KO.q rfl (q_assign rfl) ?_
    refine KO.done ?_
    repeat (first | refine K.seq ?_ | refine K.skip ?_ | refine K.block ?_ | refine K.inBlock ?_ | refine K.label ?_)
    refine K.ret (fn := Try.f10) Try.func10 (fun a w hk hs => res1 Try.results10 hk rfl) (fun w hs => ?_)
    exact ⟨_, [], rfl, ⟨rfl, rfl⟩, hs.fitD⟩
  · by_cases h1 : 300 < (m.body.size : Int)
    · refine Fn.enter (N := 32) Try.func10 rfl Try.ntmps10 (by kernel_rfl) rfl (fun ρ L => ?_)
      repeat (first | refine K.seq ?_ | refine K.skip ?_ | refine K.block ?_ | refine K.inBlock ?_ | refine K.label ?_)
      refine K.region ?_
      refine KO.loud rfl (l_box rfl rfl) ?_
      rintro _ _ ⟨b1, rfl, rfl⟩
      refine KO.q rfl (q_assign rfl) ?_
      refine KO.done ?_
      repeat (first | refine K.seq ?_ | refine K.skip ?_ | refine K.block ?_ | refine K.inBlock ?_ | refine K.label ?_)
      repeat (first | refine K.seq ?_ | refine K.skip ?_ | refine K.block ?_ | refine K.inBlock ?_ | refine K.label ?_)
      refine K.region ?_
      refine KO.loud rfl (OpL.call rfl alive14 (by repeat (first | exact Give.nil | (apply Give.perI; (repeat (first | exact List.Mem.head _ | apply List.Mem.tail))) | (apply Give.own; (repeat (first | exact Pick.here | apply Pick.there)))))) ?_
      rintro _ _ ⟨_, ⟨rfl, rfl⟩, rfl⟩
      refine KO.q rfl (q_assign rfl) ?_
      refine KO.done ?_
      repeat (first | refine K.seq ?_ | refine K.skip ?_ | refine K.block ?_ | refine K.inBlock ?_ | refine K.label ?_)
      repeat (first | refine K.seq ?_ | refine K.skip ?_ | refine K.block ?_ | refine K.inBlock ?_ | refine K.label ?_)
      refine K.region ?_
      refine KO.q rfl (q_move rfl) ?_
      refine KO.q rfl (q_not rfl) ?_
      refine KO.q rfl (q_move rfl) ?_
      refine KO.q rfl (q_field fo_24_4 rfl) ?_
      refine KO.q rfl (q_load1D ck_9 rfl) ?_
      refine KO.q rfl (q_lenS Try.underlying9 rfl) ?_
      refine KO.q rfl (q_gt rfl rfl) ?_
      refine KO.q rfl (q_pickF rfl rfl) ?_
      refine KO.q rfl (q_move rfl) ?_
      refine KO.split 14 rfl (fun hh => absurd (of_decide_eq_true hh) h0) (fun _ => ?_)
      refine KO.q rfl (q_field fo_24_5 rfl) ?_
      refine KO.q rfl (q_load1D ck_9 rfl) ?_
      refine KO.q rfl (q_lenS Try.underlying9 rfl) ?_
      refine KO.q rfl (q_gt rfl rfl) ?_
      refine KO.q rfl (q_pickF rfl rfl) ?_
      refine KO.done ?_
      repeat (first | refine K.seq ?_ | refine K.skip ?_ | refine K.block ?_ | refine K.inBlock ?_ | refine K.label ?_)
      refine K.dite rfl (fun _ => ?_) (fun hh => absurd h1 hh)
      repeat (first | refine K.seq ?_ | refine K.skip ?_ | refine K.block ?_ | refine K.inBlock ?_ | refine K.label ?_)
      refine K.region ?_
      refine KO.q rfl (q_move rfl) ?_
      refine KO.q rfl (q_assign rfl) ?_
      refine KO.done ?_
      repeat (first | refine K.seq ?_ | refine K.skip ?_ | refine K.block ?_ | refine K.inBlock ?_ | refine K.label ?_)
      refine K.ret (fn := Try.f10) Try.func10 (fun a w hk hs => res1 Try.results10 hk rfl) (fun w hs => ?_)
      exact ⟨_, [], rfl, ⟨rfl, rfl⟩, hs.fitD⟩
    · have he := Rd.msg_app m hf hp hr (by omega) (by omega) []
      rw [List.append_nil] at he
      have l1 := wInt_length m.id
      have l2 := wInt_length m.pri
      have l3 := wInt_length m.retry
      have l4 := wFlag_length m.claimed
      have l5 := wText_length m.corr
      have l6 := wText_length m.body
      have hl : m.bytes.length ≤ 1099511627776 := by simp [Msg.bytes]; omega
      refine Fn.enter (N := 32) Try.func10 rfl Try.ntmps10 (by kernel_rfl) rfl (fun ρ L => ?_)
      repeat (first | refine K.seq ?_ | refine K.skip ?_ | refine K.block ?_ | refine K.inBlock ?_ | refine K.label ?_)
      refine K.region ?_
      refine KO.loud rfl (l_box rfl rfl) ?_
      rintro _ _ ⟨b1, rfl, rfl⟩
      refine KO.q rfl (q_assign rfl) ?_
      refine KO.done ?_
      repeat (first | refine K.seq ?_ | refine K.skip ?_ | refine K.block ?_ | refine K.inBlock ?_ | refine K.label ?_)
      repeat (first | refine K.seq ?_ | refine K.skip ?_ | refine K.block ?_ | refine K.inBlock ?_ | refine K.label ?_)
      refine K.region ?_
      refine KO.loud rfl (OpL.call rfl alive14 (by repeat (first | exact Give.nil | (apply Give.perI; (repeat (first | exact List.Mem.head _ | apply List.Mem.tail))) | (apply Give.own; (repeat (first | exact Pick.here | apply Pick.there)))))) ?_
      rintro _ _ ⟨_, ⟨rfl, rfl⟩, rfl⟩
      refine KO.q rfl (q_assign rfl) ?_
      refine KO.done ?_
      repeat (first | refine K.seq ?_ | refine K.skip ?_ | refine K.block ?_ | refine K.inBlock ?_ | refine K.label ?_)
      repeat (first | refine K.seq ?_ | refine K.skip ?_ | refine K.block ?_ | refine K.inBlock ?_ | refine K.label ?_)
      refine K.region ?_
      refine KO.q rfl (q_move rfl) ?_
      refine KO.q rfl (q_not rfl) ?_
      refine KO.q rfl (q_move rfl) ?_
      refine KO.q rfl (q_field fo_24_4 rfl) ?_
      refine KO.q rfl (q_load1D ck_9 rfl) ?_
      refine KO.q rfl (q_lenS Try.underlying9 rfl) ?_
      refine KO.q rfl (q_gt rfl rfl) ?_
      refine KO.q rfl (q_pickF rfl rfl) ?_
      refine KO.q rfl (q_move rfl) ?_
      refine KO.split 14 rfl (fun hh => absurd (of_decide_eq_true hh) h0) (fun _ => ?_)
      refine KO.q rfl (q_field fo_24_5 rfl) ?_
      refine KO.q rfl (q_load1D ck_9 rfl) ?_
      refine KO.q rfl (q_lenS Try.underlying9 rfl) ?_
      refine KO.q rfl (q_gt rfl rfl) ?_
      refine KO.q rfl (q_pickF rfl rfl) ?_
      refine KO.done ?_
      repeat (first | refine K.seq ?_ | refine K.skip ?_ | refine K.block ?_ | refine K.inBlock ?_ | refine K.label ?_)
      refine K.dite rfl (fun hh => absurd hh h1) (fun _ => ?_)
      repeat (first | refine K.seq ?_ | refine K.skip ?_ | refine K.block ?_ | refine K.inBlock ?_ | refine K.label ?_)
      refine K.region ?_
      refine KO.q rfl (q_loadN ck_24 rfl rfl (by first | (apply cells_pv; (repeat (first | exact List.Mem.head _ | apply List.Mem.tail))) | (apply cells_fv; (repeat (first | exact List.Mem.head _ | apply List.Mem.tail))))) ?_
      refine KO.loud rfl (OpL.callE rfl (msg_Bytes m (by omega) (by omega))) ?_
      rintro _ _ ⟨_, ⟨q1, c1, rfl, rfl, hc1⟩, rfl⟩
      refine KO.loud rfl (OpL.callE rfl (rd_New q1 c1 m.bytes hl)) ?_
      rintro _ _ ⟨_, ⟨p2, q2, c2, rfl, rfl, hc2⟩, rfl⟩
      refine KO.q rfl (q_assign rfl) ?_
      refine KO.done ?_
      repeat (first | refine K.seq ?_ | refine K.skip ?_ | refine K.block ?_ | refine K.inBlock ?_ | refine K.label ?_)
      repeat (first | refine K.seq ?_ | refine K.skip ?_ | refine K.block ?_ | refine K.inBlock ?_ | refine K.label ?_)
      refine K.draw [pv b1 24 m.cells] mixed ?_
      refine D.q 0 rfl (by kernel_rfl) (by kernel_rfl) (q_move rfl) (fun _ h => h.subD) ?_
      refine D.q 2 rfl (by kernel_rfl) (by kernel_rfl) (q_loadN ck_24 rfl rfl (by first | (apply cells_pv; (repeat (first | exact List.Mem.head _ | apply List.Mem.tail))) | (apply cells_fv; (repeat (first | exact List.Mem.head _ | apply List.Mem.tail))))) (fun _ h => h.subD) ?_
      refine D.all (rs := [1]) (by kernel_rfl) rfl (DAll.cons rfl (by kernel_rfl) (OpL.callE rfl (msg_Read p2 q2 c2 ⟨m.bytes, false⟩ hc2)) (.inr (by rintro _ _ ⟨_, ⟨q3, c3, rfl, rfl, hc3⟩, rfl⟩ w h; exact h.subD)) rfl ?_ DAll.nil)
      rintro _ _ ⟨_, ⟨q3, c3, rfl, rfl, hc3⟩, rfl⟩
      refine D.all (rs := [3]) (by kernel_rfl) rfl (DAll.cons rfl (by kernel_rfl) (OpQ.loud (q_recE Try.underlying24 msg_hp msg_hg rfl rfl (msg_eqT (congrArg Prod.fst he) Try.underlying24))) (.inl (by kernel_rfl)) rfl ?_ DAll.nil)
      rintro _ _ ⟨rfl, rfl⟩
      refine D.all (rs := [4]) (by kernel_rfl) rfl (DAll.cons rfl (by kernel_rfl) (OpQ.loud (q_move rfl)) (.inl (by kernel_rfl)) rfl ?_ DAll.nil)
      rintro _ _ ⟨rfl, rfl⟩
      refine D.all (rs := [5]) (by kernel_rfl) rfl (DAll.cons rfl (by kernel_rfl) (OpQ.loud (q_move rfl)) (.inl (by kernel_rfl)) rfl ?_ DAll.nil)
      rintro _ _ ⟨rfl, rfl⟩
      refine D.all (rs := [6]) (by kernel_rfl) rfl (DAll.cons rfl (by kernel_rfl) (OpL.callE rfl (rd_Done p2 q3 c3 (Rd.msg ⟨m.bytes, false⟩).2)) (.inl (by kernel_rfl)) rfl ?_ DAll.nil)
      rintro _ _ ⟨_, ⟨rfl, rfl⟩, rfl⟩
      refine D.all (rs := [7]) (by kernel_rfl) rfl (DAll.cons rfl (by kernel_rfl) (OpQ.loud (q_pickT rfl rfl)) (.inl (by kernel_rfl)) rfl ?_ DAll.nil)
      rintro _ _ ⟨rfl, rfl⟩
      refine D.all (rs := [8]) (by kernel_rfl) rfl (DAll.cons rfl (by kernel_rfl) (OpQ.loud (q_assign rfl)) (.inl (by kernel_rfl)) rfl ?_ DAll.nil)
      rintro _ _ ⟨rfl, rfl⟩
      refine D.done (by kernel_rfl) ?_
      repeat (first | refine K.seq ?_ | refine K.skip ?_ | refine K.block ?_ | refine K.inBlock ?_ | refine K.label ?_)
      refine K.ret (fn := Try.f10) Try.func10 (fun a w hk hs => res1 Try.results10 hk rfl) (fun w hs => ?_)
      exact ⟨_, [], rfl, ⟨by rw [he]; rfl, rfl⟩, hs.fitD⟩
end Go.Proofs.Ytlellgnklohclaa.L
/-! A message as an argument. -/
namespace Go.Proofs.Ytlellgnklohclaa.L
open Go Go.RowKit Go.ChangeShapes

def Msg.fits (x : Msg) : Prop := (-9223372036854775808 ≤ x.id ∧ x.id ≤ 9223372036854775807) ∧ (-9223372036854775808 ≤ x.pri ∧ x.pri ≤ 9223372036854775807) ∧ (-9223372036854775808 ≤ x.retry ∧ x.retry ≤ 9223372036854775807) ∧ True ∧ (x.corr.size : Int) ≤ 9223372036854775807 ∧ (x.body.size : Int) ≤ 9223372036854775807
theorem msg_len (cs : List Value) (h : cs.length = 6) : ∃ v0 v1 v2 v3 v4 v5, cs = [v0, v1, v2, v3, v4, v5] := by
  match cs, h with
  | [v0, v1, v2, v3, v4, v5], _ => exact ⟨v0, v1, v2, v3, v4, v5, rfl⟩
theorem opens_msg {H : Type} {enc : TypeId × Value → H} {W : World} : Opens enc Try.prog W Kd.msg 24 Msg.fits := fun fuel cs y h => by
  obtain ⟨hl, n, hf⟩ := opens_fields Try.underlying24 h
  have hl2 : cs.length = 6 := hl.trans (by kernel_rfl)
  obtain ⟨v0, v1, v2, v3, v4, v5, rfl⟩ := msg_len cs hl2
  have cb : Try.prog.cellsOf 4 = 1 := by kernel_rfl
  have ci : Try.prog.cellsOf 3 = 1 := by kernel_rfl
  have cs : Try.prog.cellsOf 9 = 1 := by kernel_rfl
  obtain ⟨y0, h0⟩ := hf 0 _ rfl
  replace h0 : DataW.trod enc Try.prog W 0 (fun _ => true) true n 3 (([v0, v1, v2, v3, v4, v5].drop 0).take (Try.prog.cellsOf 3)) = some y0 := h0
  rw [ci] at h0
  obtain ⟨x0, e0, b0⟩ := opens_int Try.underlying3 _ _ _ h0
  have u0 : v0 = Value.int .i64 x0 := (List.cons.inj (show [v0] = [Value.int .i64 x0] from e0)).1
  obtain ⟨y1, h1⟩ := hf 1 _ rfl
  replace h1 : DataW.trod enc Try.prog W 0 (fun _ => true) true n 3 (([v0, v1, v2, v3, v4, v5].drop 1).take (Try.prog.cellsOf 3)) = some y1 := h1
  rw [ci] at h1
  obtain ⟨x1, e1, b1⟩ := opens_int Try.underlying3 _ _ _ h1
  have u1 : v1 = Value.int .i64 x1 := (List.cons.inj (show [v1] = [Value.int .i64 x1] from e1)).1
  obtain ⟨y2, h2⟩ := hf 2 _ rfl
  replace h2 : DataW.trod enc Try.prog W 0 (fun _ => true) true n 3 (([v0, v1, v2, v3, v4, v5].drop 2).take (Try.prog.cellsOf 3)) = some y2 := h2
  rw [ci] at h2
  obtain ⟨x2, e2, b2⟩ := opens_int Try.underlying3 _ _ _ h2
  have u2 : v2 = Value.int .i64 x2 := (List.cons.inj (show [v2] = [Value.int .i64 x2] from e2)).1
  obtain ⟨y3, h3⟩ := hf 3 _ rfl
  replace h3 : DataW.trod enc Try.prog W 0 (fun _ => true) true n 4 (([v0, v1, v2, v3, v4, v5].drop 3).take (Try.prog.cellsOf 4)) = some y3 := h3
  rw [cb] at h3
  obtain ⟨x3, e3, b3⟩ := opens_bool Try.underlying4 _ _ _ h3
  have u3 : v3 = Value.bool x3 := (List.cons.inj (show [v3] = [Value.bool x3] from e3)).1
  obtain ⟨y4, h4⟩ := hf 4 _ rfl
  replace h4 : DataW.trod enc Try.prog W 0 (fun _ => true) true n 9 (([v0, v1, v2, v3, v4, v5].drop 4).take (Try.prog.cellsOf 9)) = some y4 := h4
  rw [cs] at h4
  obtain ⟨x4, e4, b4⟩ := opens_str Try.underlying9 _ _ _ h4
  have u4 : v4 = Value.string x4 := (List.cons.inj (show [v4] = [Value.string x4] from e4)).1
  obtain ⟨y5, h5⟩ := hf 5 _ rfl
  replace h5 : DataW.trod enc Try.prog W 0 (fun _ => true) true n 9 (([v0, v1, v2, v3, v4, v5].drop 5).take (Try.prog.cellsOf 9)) = some y5 := h5
  rw [cs] at h5
  obtain ⟨x5, e5, b5⟩ := opens_str Try.underlying9 _ _ _ h5
  have u5 : v5 = Value.string x5 := (List.cons.inj (show [v5] = [Value.string x5] from e5)).1
  subst u0 u1 u2 u3 u4 u5
  exact ⟨⟨x0, x1, x2, x3, x4, x5⟩, rfl, b0, b1, b2, b3, b4, b5⟩
end Go.Proofs.Ytlellgnklohclaa.L
/-! Messages and rows as records: equality is decided. -/
namespace Go.Proofs.Ytlellgnklohclaa.L
open Go Go.Proofs
attribute [local irreducible] pv fv pt fz RowF RowO rowP old pure_ elA
set_option maxRecDepth 100000
set_option linter.unusedSimpArgs false
set_option linter.unusedVariables false
open Go.RowKit Go.ChangeShapes

--%rec api.Msg Msg
theorem msg_sz (x : Msg) : x.cells.length = 6 := rfl
theorem q_as_msg {X : Fx} {o : Oper} {E : Env} {L : List HP} {cs : List Value} {id_ : Int} {pri_ : Int} {retry_ : Int} {claimed_ : Bool} {corr_ : ByteArray} {body_ : ByteArray} (h : OpQ X o E L (.agg cs.toArray)) (e : cs = [.int .i64 id_, .int .i64 pri_, .int .i64 retry_, .bool claimed_, .string corr_, .string body_]) : OpQ X o E L (.agg (Msg.cells ⟨id_, pri_, retry_, claimed_, corr_, body_⟩).toArray) := q_as h e
theorem msg_ext {a b : Msg} : a = b ↔ a.id = b.id ∧ a.pri = b.pri ∧ a.retry = b.retry ∧ a.claimed = b.claimed ∧ a.corr = b.corr ∧ a.body = b.body := by cases a; cases b; simp
instance : DecidableEq Msg := fun _ _ => decidable_of_iff _ msg_ext.symm
theorem msg_beqD (a b : Msg) : a.beq b = decide (a = b) := by rw [Bool.eq_iff_iff, decide_eq_true_iff, msg_ext]; simp [Msg.beq, bbeq]
theorem msg_eqD (a b : Msg) {fs : Array Field} (h : Try.prog.underlying 24 = some (.struct fs)) : EqG Try.prog a.cells b.cells fs.toList (decide (a = b)) := by
  rw [Try.underlying24] at h
  cases h
  have e : ((a.id == b.id) && ((a.pri == b.pri) && ((a.retry == b.retry) && ((a.claimed == b.claimed) && ((a.corr == b.corr) && ((a.body == b.body) && true)))))) = decide (a = b) := by rw [Bool.eq_iff_iff, decide_eq_true_iff, msg_ext]; simp [bbeq]
  rw [← e]
  exact (.cons rfl ck_3 rfl rfl (.int Try.underlying3) (.cons rfl ck_3 rfl rfl (.int Try.underlying3) (.cons rfl ck_3 rfl rfl (.int Try.underlying3) (.cons rfl ck_4 rfl rfl (.bool Try.underlying4) (.cons rfl ck_9 rfl rfl (.str Try.underlying9) (.cons rfl ck_9 rfl rfl (.str Try.underlying9) .nil))))))
/-- A row of a table. -/
--%rec api.Row Rw
structure Rw where
  key : ByteArray
  value : ByteArray
def Rw.cells (x : Rw) : List Value := [.string x.key, .string x.value]
theorem rw_sz (x : Rw) : x.cells.length = 2 := rfl
theorem rw_one (x : Rw) : ∀ v ∈ x.cells, v.oneCell' = true := fun v h => by simp [Rw.cells] at h; rcases h with rfl | rfl <;> rfl
def Kd.rw : Kd Rw := Kd.flat 2 Rw.cells rw_sz rw_one
theorem q_as_rw {X : Fx} {o : Oper} {E : Env} {L : List HP} {cs : List Value} {key_ : ByteArray} {value_ : ByteArray} (h : OpQ X o E L (.agg cs.toArray)) (e : cs = [.string key_, .string value_]) : OpQ X o E L (.agg (Rw.cells ⟨key_, value_⟩).toArray) := q_as h e
theorem rw_ext {a b : Rw} : a = b ↔ a.key = b.key ∧ a.value = b.value := by cases a; cases b; simp
instance : DecidableEq Rw := fun _ _ => decidable_of_iff _ rw_ext.symm
theorem rw_hp : Try.prog.stoodInHeld 103 = false := by kernel_rfl
theorem rw_hg : Try.prog.eqGuardType Try.prog.depth 103 = false := by kernel_rfl
theorem rw_eqD (a b : Rw) {fs : Array Field} (h : Try.prog.underlying 103 = some (.struct fs)) : EqG Try.prog a.cells b.cells fs.toList (decide (a = b)) := by
  rw [Try.underlying103] at h
  cases h
  have e : ((a.key == b.key) && ((a.value == b.value) && true)) = decide (a = b) := by rw [Bool.eq_iff_iff, decide_eq_true_iff, rw_ext]; simp [bbeq]
  rw [← e]
  exact (.cons rfl ck_9 rfl rfl (.str Try.underlying9) (.cons rfl ck_9 rfl rfl (.str Try.underlying9) .nil))
def Rw.beq (a b : Rw) : Bool := (a.key == b.key) && ((a.value == b.value) && true)
theorem rw_beqD (a b : Rw) : a.beq b = decide (a = b) := by rw [Bool.eq_iff_iff, decide_eq_true_iff, rw_ext]; simp [Rw.beq, bbeq]
theorem rw_eqF (a b : Rw) {fs : Array Field} (h : Try.prog.underlying 103 = some (.struct fs)) : EqF Try.prog a.cells b.cells fs.toList (a.beq b) := by
  rw [Try.underlying103] at h
  cases h
  exact (.cons rfl ck_9 rfl rfl (.str Try.underlying9) (.cons rfl ck_9 rfl rfl (.str Try.underlying9) .nil))
def Rw.fits (x : Rw) : Prop := (x.key.size : Int) ≤ 9223372036854775807 ∧ (x.value.size : Int) ≤ 9223372036854775807
theorem rw_len (cs : List Value) (h : cs.length = 2) : ∃ v0 v1, cs = [v0, v1] := by
  match cs, h with
  | [v0, v1], _ => exact ⟨v0, v1, rfl⟩
theorem opens_rw {H : Type} {enc : TypeId × Value → H} {W : World} : Opens enc Try.prog W Kd.rw 103 Rw.fits := fun fuel cs y h => by
  obtain ⟨hl, n, hf⟩ := opens_fields Try.underlying103 h
  have hl2 : cs.length = 2 := hl.trans (by kernel_rfl)
  obtain ⟨v0, v1, rfl⟩ := rw_len cs hl2
  have cstring : Try.prog.cellsOf 9 = 1 := by kernel_rfl
  obtain ⟨y0, h0⟩ := hf 0 _ rfl
  replace h0 : DataW.trod enc Try.prog W 0 (fun _ => true) true n 9 (([v0, v1].drop 0).take (Try.prog.cellsOf 9)) = some y0 := h0
  rw [cstring] at h0
  obtain ⟨x0, e0, b0⟩ := opens_str Try.underlying9 _ _ _ h0
  have u0 : v0 = Value.string x0 := (List.cons.inj (show [v0] = [Value.string x0] from e0)).1
  obtain ⟨y1, h1⟩ := hf 1 _ rfl
  replace h1 : DataW.trod enc Try.prog W 0 (fun _ => true) true n 9 (([v0, v1].drop 1).take (Try.prog.cellsOf 9)) = some y1 := h1
  rw [cstring] at h1
  obtain ⟨x1, e1, b1⟩ := opens_str Try.underlying9 _ _ _ h1
  have u1 : v1 = Value.string x1 := (List.cons.inj (show [v1] = [Value.string x1] from e1)).1
  refine ⟨⟨x0, x1⟩, ?_, b0, b1⟩
  show [v0, v1] = Rw.cells _
  simp only [Rw.cells]
  subst u0 u1
  rfl
end Go.Proofs.Ytlellgnklohclaa.L
/-! Walks: texts of any length, written; messages of any texts. -/
namespace Go.Proofs.Ytlellgnklohclaa.L
open Go Go.Proofs
attribute [local irreducible] pv fv pt fz RowF RowO rowP old pure_ elA
set_option maxRecDepth 100000
set_option linter.unusedSimpArgs false
set_option linter.unusedVariables false

--%call poste/bytes.NewReader := rd_New _ _ _ (by first | omega | (simp; omega)) !! ⟨_, ⟨p#, q#, c#, rfl, rfl, hc#⟩, rfl⟩
--%call (*poste/bytes.Reader).Int := rd_Int _ _ _ _ (by assumption) !! ⟨_, ⟨q#, c#, rfl, rfl, hc#⟩, rfl⟩
--%call (*poste/bytes.Reader).Text := rd_Text _ _ _ _ (by assumption) !! ⟨_, ⟨q#, c#, rfl, rfl, hc#⟩, rfl⟩
--%call (*poste/bytes.Reader).Flag := rd_Flag _ _ _ _ (by assumption) !! ⟨_, ⟨q#, c#, rfl, rfl, hc#⟩, rfl⟩
--%call (*poste/bytes.Reader).Failed := rd_Failed _ _ _ _
--%call (*poste/bytes.Reader).Left := rd_Left _ _ _ _
--%call (*poste/bytes.Reader).Done := rd_Done _ _ _ _
--%call poste/posteref1.NewReader := rf_New _ _ _ !! ⟨_, ⟨p#, rfl, rfl⟩, rfl⟩
--%call (*poste/posteref1.Reader).Int := rf_Int _ _ _ _ (by assumption) !! ⟨_, ⟨q#, c#, rfl, rfl, hc#⟩, rfl⟩
--%call (*poste/posteref1.Reader).Text := rf_Text _ _ _ _ (by assumption) !! ⟨_, ⟨q#, c#, rfl, rfl, hc#⟩, rfl⟩
--%call (*poste/posteref1.Reader).Flag := rf_Flag _ _ _ _ (by assumption) !! ⟨_, ⟨q#, c#, rfl, rfl, hc#⟩, rfl⟩
--%call (*poste/posteref1.Reader).Bad := rf_Bad _ _ _ _
--%call (*poste/posteref1.Reader).Done := rf_Done _ _ _ _
--%call (*poste/bytes.Writer).Int := wr_Int _ _ _ _ _ (by first | omega | (simp [wInt_length, wFlag_length, wText_length]; omega)) !! ⟨_, ⟨q#, c#, rfl, rfl⟩, rfl⟩
--%call (*poste/bytes.Writer).Text := wr_TextA _ _ _ _ _ (by first | omega | (simp [wInt_length, wFlag_length, wText_length]; omega)) !! ⟨_, ⟨q#, c#, rfl, rfl⟩, rfl⟩
--%call (*poste/bytes.Writer).Flag := wr_Flag _ _ _ _ _ (by first | omega | (simp [wInt_length, wFlag_length, wText_length]; omega)) !! ⟨_, ⟨q#, c#, rfl, rfl⟩, rfl⟩
--%call (*poste/bytes.Writer).Bytes := wr_Bytes _ _ _ _ (by first | omega | (simp [wInt_length, wFlag_length, wText_length]; omega)) !! ⟨_, ⟨q#, c#, rfl, rfl, hc#⟩, rfl⟩
--%call (*poste/posteref1.Writer).Int := wf_Int _ _ _ _ _ (by first | omega | (simp [wInt_length, wFlag_length, wText_length]; omega)) !! ⟨_, ⟨q#, c#, rfl, rfl⟩, rfl⟩
--%call (*poste/posteref1.Writer).Text := wf_TextA _ _ _ _ _ (by first | omega | (simp [wInt_length, wFlag_length, wText_length]; omega)) !! ⟨_, ⟨q#, c#, rfl, rfl⟩, rfl⟩
--%call (*poste/posteref1.Writer).Flag := wf_Flag _ _ _ _ _ (by first | omega | (simp [wInt_length, wFlag_length, wText_length]; omega)) !! ⟨_, ⟨q#, c#, rfl, rfl⟩, rfl⟩
--%call poste/message.Write := msg_WriteA _ _ _ _ _ (by first | omega | (simp [wInt_length, wFlag_length, wText_length]; omega)) !! ⟨_, ⟨q#, c#, rfl, rfl⟩, rfl⟩
--%call poste/posteref14.putMsg := ref_putMsgA _ _ _ _ _ (by first | omega | (simp [wInt_length, wFlag_length, wText_length]; omega)) !! ⟨_, ⟨q#, c#, rfl, rfl⟩, rfl⟩
--%call poste/message.Read := msg_Read _ _ _ _ (by assumption) !! ⟨_, ⟨q#, c#, rfl, rfl, hc#⟩, rfl⟩
--%call poste/posteref14.GetMsg := ref_GetMsg _ _ _ _ (by assumption) !! ⟨_, ⟨q#, c#, rfl, rfl, hc#⟩, rfl⟩
theorem wr_TextA (p : Nat) (q : Option Addr) (cap : Nat) (xs : List UInt8) (s : ByteArray) (hb : xs.length ≤ 549755813888) : Fn Try.prog 24 [.pointer (some ⟨p, 0, none⟩), .string s].toArray (WrL p q cap xs)
    (fun r post => ∃ q' cap', r = .tuple #[] ∧ post = WrL p q' cap' (xs ++ wText s)) := by
  have hmin : (if (65535 : Int) < (s.size : Int) then (65535 : Int) else (s.size : Int)) = ((min s.size 65535 : Nat) : Int) := by split <;> omega
  refine Fn.enter (N := 23) Try.func24 rfl Try.ntmps24 (by kernel_rfl) rfl (fun ρ L => ?_)
  repeat (first | refine K.seq ?_ | refine K.skip ?_ | refine K.block ?_ | refine K.inBlock ?_ | refine K.label ?_)
  refine K.region ?_
  refine KO.q rfl (q_move rfl) ?_
  refine KO.q rfl (q_move rfl) ?_
  refine KO.q rfl (q_lenS Try.underlying9 rfl) ?_
  refine KO.q rfl (q_min rfl rfl) ?_
  rw [hmin]
  refine KO.q rfl (q_scutH Try.underlying9 rfl rfl (by first | omega | (simp; omega)) (by first | omega | (simp; omega))) ?_
  refine KO.q rfl (q_assign rfl) ?_
  refine KO.done ?_
  repeat (first | refine K.seq ?_ | refine K.skip ?_ | refine K.block ?_ | refine K.inBlock ?_ | refine K.label ?_)
  have hsz : (s.extract 0 ((min s.size 65535 : Nat) : Int).toNat).size = min s.size 65535 := by simp <;> omega
  repeat (first | refine K.seq ?_ | refine K.skip ?_ | refine K.block ?_ | refine K.inBlock ?_ | refine K.label ?_)
  refine K.region ?_
  refine KO.q rfl (q_move rfl) ?_
  refine KO.q rfl (q_move rfl) ?_
  refine KO.q rfl (q_lenS Try.underlying9 rfl) ?_
  refine KO.q rfl (q_conv Try.underlying87 (by rw [Try.underlying3]; rfl) rfl (wrap_u64 (by omega) (by rw [hsz]; omega))) ?_
  refine KO.loud rfl (OpL.callE rfl (wr_number p q cap xs _ 2 (by omega) (by decide) (by decide) (by omega))) ?_
  rintro _ _ ⟨_, ⟨q', cap', rfl, rfl⟩, rfl⟩
  refine KO.done ?_
  repeat (first | refine K.seq ?_ | refine K.skip ?_ | refine K.block ?_ | refine K.inBlock ?_ | refine K.label ?_)
  have hl2 := leb_length ((s.extract 0 ((min s.size 65535 : Nat) : Int).toNat).size : Int) 2
  repeat (first | refine K.seq ?_ | refine K.skip ?_ | refine K.block ?_ | refine K.inBlock ?_ | refine K.label ?_)
  refine K.region ?_
  refine KO.q rfl (q_move rfl) ?_
  refine KO.q rfl (q_move rfl) ?_
  refine KO.q rfl (q_nilCheck rfl) ?_
  refine KO.q rfl (q_field fo_35_0 rfl) ?_
  refine KO.q rfl (q_load1D ck_25 rfl) ?_
  refine KO.q rfl (q_move rfl) ?_
  refine KO.loud rfl (l_appendS se_25 Try.underlying9 ⟨_, ze_5, rfl⟩ (by decide) rfl rfl (Pick.there Pick.here) rfl (by rw [hsz]; simp [leb_length]; omega)) ?_
  rintro _ _ ⟨q'', cap'', rfl, rfl⟩
  refine KO.q rfl (q_nilCheck rfl) ?_
  refine KO.q rfl (q_field fo_35_0 rfl) ?_
  refine KO.loudN rfl (l_store1 ck_25 rfl rfl rfl (by repeat (first | exact Pick.here | apply Pick.there)) (by repeat (first | exact SetAt.here | apply SetAt.there))) ?_
  rintro _ _ ⟨rfl, rfl⟩
  refine KO.done ?_
  repeat (first | refine K.seq ?_ | refine K.skip ?_ | refine K.block ?_ | refine K.inBlock ?_ | refine K.label ?_)
  refine K.fin (fn := Try.f24) Try.func24 (fun a w hk hs => res0 Try.results24) (fun w hs => ?_)
  have e : xs ++ leb ((s.extract 0 ((min s.size 65535 : Nat) : Int).toNat).size : Int) (2 : Int).toNat ++ bytesOf (s.extract 0 ((min s.size 65535 : Nat) : Int).toNat) = xs ++ wText s := by
    unfold wText
    rw [hsz, List.append_assoc]
    show xs ++ (leb _ 2 ++ _) = _
    congr 2
    have h1 : bytesOf (s.extract 0 ((min s.size 65535 : Nat) : Int).toNat) = (bytesOf s).take (min s.size 65535) := by
      simp [bytesOf]
    rw [h1]
    by_cases h : s.size ≤ 65535
    · rw [Nat.min_eq_left h, List.take_of_length_le (by simp [bytesOf]), List.take_of_length_le (by simp [bytesOf]; exact h)]
    · rw [Nat.min_eq_right (by omega)]
  rw [e] at hs
  exact ⟨_, WrL p q'' cap'' (xs ++ wText s), rfl, ⟨q'', cap'', rfl, rfl⟩, hs.fitD⟩
theorem wText_cut (s : ByteArray) (h : 65535 < s.size) : wText (s.extract 0 65535) = wText s := by
  have h1 : bytesOf (s.extract 0 65535) = (bytesOf s).take 65535 := by simp [bytesOf]
  have h2 : (s.extract 0 65535).size = 65535 := by simp; omega
  unfold wText
  rw [h1, h2, Nat.min_eq_right (by omega : 65535 ≤ s.size), List.take_take]
  rfl
theorem wf_TextA (p : Nat) (q : Option Addr) (cap : Nat) (xs : List UInt8) (s : ByteArray) (hb : xs.length ≤ 549755813888) : Fn Try.prog 38 [.pointer (some ⟨p, 0, none⟩), .string s].toArray (WfL p q cap xs)
    (fun r post => ∃ q' cap', r = .tuple #[] ∧ post = WfL p q' cap' (xs ++ wText s)) := by
  by_cases hbig : 65535 < s.size
  · rw [← wText_cut s hbig]
    have hz : (s.extract 0 65535).size = 65535 := by simp; omega
    generalize hs' : s.extract 0 65535 = s' at hz ⊢
    have hbw0 := byte_wrap (s'.size : Int) 0 (by omega) (by omega)
    have hbw1 := byte_wrap (s'.size : Int) 1 (by omega) (by omega)
    have hab := and_byteI (s'.size : Int) (by omega) (by omega)
    have h0 : IntKind.u8.wrap (s'.size : Int) = ((byteAt (s'.size : Int) 0).toNat : Int) := by rw [byteAt_toNat, wrap_u8_mod]; simp
    have e : xs ++ [byteAt (s'.size : Int) 0, byteAt (s'.size : Int) 1] ++ bytesOf s' = xs ++ wText s' := by
      unfold wText
      rw [Nat.min_eq_left (by omega), List.take_of_length_le (by rw [bytesOf_length]; omega), List.append_assoc]
      rfl
    refine Fn.enter (N := 35) Try.func38 rfl Try.ntmps38 (by kernel_rfl) rfl (fun ρ L => ?_)
    repeat (first | refine K.seq ?_ | refine K.skip ?_ | refine K.block ?_ | refine K.inBlock ?_ | refine K.label ?_)
    refine K.region ?_
    refine KO.q rfl (q_move rfl) ?_
    refine KO.q rfl (q_lenS Try.underlying9 rfl) ?_
    refine KO.q rfl (q_gt rfl rfl) ?_
    refine KO.done ?_
    repeat (first | refine K.seq ?_ | refine K.skip ?_ | refine K.block ?_ | refine K.inBlock ?_ | refine K.label ?_)
    refine K.dite rfl (fun _ => ?_) (fun h => absurd (by omega) h)
    repeat (first | refine K.seq ?_ | refine K.skip ?_ | refine K.block ?_ | refine K.inBlock ?_ | refine K.label ?_)
    refine K.region ?_
    refine KO.q rfl (q_move rfl) ?_
    refine KO.q rfl (q_scutH Try.underlying9 rfl rfl (by first | omega | (simp; omega)) (by first | omega | (simp; omega))) ?_
    refine KO.q rfl (q_assign rfl) ?_
    refine KO.done ?_
    repeat (first | refine K.seq ?_ | refine K.skip ?_ | refine K.block ?_ | refine K.inBlock ?_ | refine K.label ?_)
    rw [show ((65535 : Int).toNat) = 65535 from rfl, hs']
    repeat (first | refine K.seq ?_ | refine K.skip ?_ | refine K.block ?_ | refine K.inBlock ?_ | refine K.label ?_)
    refine K.region ?_
    refine KO.q rfl (q_move rfl) ?_
    refine KO.q rfl (q_move rfl) ?_
    refine KO.q rfl (q_nilCheck rfl) ?_
    refine KO.q rfl (q_field fo_52_0 rfl) ?_
    refine KO.q rfl (q_load1D ck_25 rfl) ?_
    refine KO.q rfl (q_move rfl) ?_
    refine KO.q rfl (q_lenS Try.underlying9 rfl) ?_
    refine KO.q rfl (q_and rfl rfl) ?_
    refine KO.q rfl (q_convw Try.underlying5 (by rw [Try.underlying3]; rfl) rfl) ?_
    refine KO.q rfl (q_move rfl) ?_
    refine KO.q rfl (q_lenS Try.underlying9 rfl) ?_
    refine KO.q rfl (q_shr rfl rfl (by first | omega | (simp; omega))) ?_
    refine KO.q rfl (q_convw Try.underlying5 (by rw [Try.underlying3]; rfl) rfl) ?_
    refine KO.loud rfl (l_slice sz_25_2 rfl (by repeat (first | exact Fill.nil | (apply Fill.cons; rfl; rfl; rfl) | exact SetN.nil | apply SetN.cons | exact SetAt.here | apply SetAt.there))) ?_
    rintro _ _ ⟨b22, rfl, rfl⟩
    refine KO.st (fun w h => pv_rowU [byteAt (s'.size : Int) 0, byteAt (s'.size : Int) 1] (show [Value.int .u8 _, Value.int .u8 _] = [Value.int .u8 _, Value.int .u8 _] from congr (congrArg List.cons (congrArg (Value.int .u8) (hab.trans h0))) (congrArg (fun z => [Value.int .u8 z]) hbw1)) h) ?_
    refine KO.loud rfl (l_append Kd.u8 se_25 Try.underlying25 ⟨_, ze_5, rfl⟩ (by decide) rfl rfl (by repeat (first | exact Pick.here | apply Pick.there)) isF (List.Mem.head _) rfl rfl (by simp; omega)) ?_
    rintro _ _ ⟨q', cap', rfl, rfl⟩
    refine KO.q rfl (q_nilCheck rfl) ?_
    refine KO.q rfl (q_field fo_52_0 rfl) ?_
    refine KO.loudN rfl (l_store1 ck_25 rfl rfl rfl (by repeat (first | exact Pick.here | apply Pick.there)) (by repeat (first | exact SetAt.here | apply SetAt.there))) ?_
    rintro _ _ ⟨rfl, rfl⟩
    refine KO.done ?_
    repeat (first | refine K.seq ?_ | refine K.skip ?_ | refine K.block ?_ | refine K.inBlock ?_ | refine K.label ?_)
    repeat (first | refine K.seq ?_ | refine K.skip ?_ | refine K.block ?_ | refine K.inBlock ?_ | refine K.label ?_)
    refine K.region ?_
    refine KO.q rfl (q_move rfl) ?_
    refine KO.q rfl (q_move rfl) ?_
    refine KO.q rfl (q_nilCheck rfl) ?_
    refine KO.q rfl (q_field fo_52_0 rfl) ?_
    refine KO.q rfl (q_load1D ck_25 rfl) ?_
    refine KO.q rfl (q_move rfl) ?_
    refine KO.loud rfl (l_appendS se_25 Try.underlying9 ⟨_, ze_5, rfl⟩ (by decide) rfl rfl (by repeat (first | exact Pick.here | apply Pick.there)) rfl (by simp; omega)) ?_
    rintro _ _ ⟨q'', cap'', rfl, rfl⟩
    refine KO.q rfl (q_nilCheck rfl) ?_
    refine KO.q rfl (q_field fo_52_0 rfl) ?_
    refine KO.loudN rfl (l_store1 ck_25 rfl rfl rfl (by repeat (first | exact Pick.here | apply Pick.there)) (by repeat (first | exact SetAt.here | apply SetAt.there))) ?_
    rintro _ _ ⟨rfl, rfl⟩
    refine KO.done ?_
    repeat (first | refine K.seq ?_ | refine K.skip ?_ | refine K.block ?_ | refine K.inBlock ?_ | refine K.label ?_)
    rw [e]
    refine K.fin (fn := Try.f38) Try.func38 (fun a w hk hs => res0 Try.results38) (fun w hs => ?_)
    exact ⟨_, WfL p q'' cap'' (xs ++ wText s'), rfl, ⟨q'', cap'', rfl, rfl⟩, hs.fitD⟩
  · exact wf_Text p q cap xs s hb (by omega)
theorem Msg.bytes_length (m : Msg) : m.bytes.length ≤ 131100 := by
  unfold Msg.bytes
  simp only [List.length_append, wInt_length, wFlag_length, wText_length]
  omega
theorem msg_WriteA (p : Nat) (q : Option Addr) (cap : Nat) (xs : List UInt8) (m : Msg) (hb : xs.length ≤ 137438953472) : Fn Try.prog 62 [.pointer (some ⟨p, 0, none⟩), .agg m.cells.toArray].toArray (WrL p q cap xs)
    (fun r post => ∃ q' cap', r = .tuple #[] ∧ post = WrL p q' cap' (xs ++ m.bytes)) := by
  refine Fn.enter (N := 28) Try.func62 rfl Try.ntmps62 (by kernel_rfl) rfl (fun ρ L => ?_)
  refine K.seq ?_
  refine K.region ?_
  refine KO.loud rfl (l_box rfl rfl) ?_
  rintro _ _ ⟨b3, rfl, rfl⟩
  refine KO.done ?_
  refine K.seq ?_
  refine K.region ?_
  refine KO.q rfl (q_move rfl) ?_
  refine KO.q rfl (q_field fo_24_0 rfl) ?_
  refine KO.q rfl (q_load1D ck_3 rfl) ?_
  refine KO.loud rfl (OpL.callD rfl (h := wr_Int _ _ _ _ _ (by first | omega | (simp [wInt_length, wFlag_length, wText_length]; omega)))) ?_
  rintro _ _ ⟨_, ⟨q1, c1, rfl, rfl⟩, rfl⟩
  refine KO.done ?_
  refine K.seq ?_
  refine K.region ?_
  refine KO.q rfl (q_move rfl) ?_
  refine KO.q rfl (q_field fo_24_1 rfl) ?_
  refine KO.q rfl (q_load1D ck_3 rfl) ?_
  refine KO.loud rfl (OpL.callD rfl (h := wr_Int _ _ _ _ _ (by first | omega | (simp [wInt_length, wFlag_length, wText_length]; omega)))) ?_
  rintro _ _ ⟨_, ⟨q2, c2, rfl, rfl⟩, rfl⟩
  refine KO.done ?_
  refine K.seq ?_
  refine K.region ?_
  refine KO.q rfl (q_move rfl) ?_
  refine KO.q rfl (q_field fo_24_2 rfl) ?_
  refine KO.q rfl (q_load1D ck_3 rfl) ?_
  refine KO.loud rfl (OpL.callD rfl (h := wr_Int _ _ _ _ _ (by first | omega | (simp [wInt_length, wFlag_length, wText_length]; omega)))) ?_
  rintro _ _ ⟨_, ⟨q3, c3, rfl, rfl⟩, rfl⟩
  refine KO.done ?_
  refine K.seq ?_
  refine K.region ?_
  refine KO.q rfl (q_move rfl) ?_
  refine KO.q rfl (q_field fo_24_3 rfl) ?_
  refine KO.q rfl (q_load1D ck_4 rfl) ?_
  refine KO.loud rfl (OpL.callD rfl (h := wr_Flag _ _ _ _ _ (by first | omega | (simp [wInt_length, wFlag_length, wText_length]; omega)))) ?_
  rintro _ _ ⟨_, ⟨q4, c4, rfl, rfl⟩, rfl⟩
  refine KO.done ?_
  refine K.seq ?_
  refine K.region ?_
  refine KO.q rfl (q_move rfl) ?_
  refine KO.q rfl (q_field fo_24_4 rfl) ?_
  refine KO.q rfl (q_load1D ck_9 rfl) ?_
  refine KO.loud rfl (OpL.callD rfl (h := wr_TextA _ _ _ _ _ (by first | omega | (simp [wInt_length, wFlag_length, wText_length]; omega)))) ?_
  rintro _ _ ⟨_, ⟨q5, c5, rfl, rfl⟩, rfl⟩
  refine KO.done ?_
  refine K.region ?_
  refine KO.q rfl (q_move rfl) ?_
  refine KO.q rfl (q_field fo_24_5 rfl) ?_
  refine KO.q rfl (q_load1D ck_9 rfl) ?_
  refine KO.loud rfl (OpL.callD rfl (h := wr_TextA _ _ _ _ _ (by first | omega | (simp [wInt_length, wFlag_length, wText_length]; omega)))) ?_
  rintro _ _ ⟨_, ⟨q6, c6, rfl, rfl⟩, rfl⟩
  refine KO.done ?_
  refine K.fin (fn := Try.f62) Try.func62 (fun a w hk hs => res0 Try.results62) (fun w hs => ?_)
  refine ⟨_, WrL p q6 c6 (xs ++ m.bytes), rfl, ⟨q6, c6, rfl, rfl⟩, ?_⟩
  have e : xs ++ wInt m.id ++ wInt m.pri ++ wInt m.retry ++ wFlag m.claimed ++ wText m.corr ++ wText m.body = xs ++ m.bytes := by simp [Msg.bytes]
  rw [e] at hs
  exact hs.fitD
theorem ref_putMsgA (p : Nat) (q : Option Addr) (cap : Nat) (xs : List UInt8) (m : Msg) (hb : xs.length ≤ 137438953472) : Fn Try.prog 63 [.pointer (some ⟨p, 0, none⟩), .agg m.cells.toArray].toArray (WfL p q cap xs)
    (fun r post => ∃ q' cap', r = .tuple #[] ∧ post = WfL p q' cap' (xs ++ m.bytes)) := by
  refine Fn.enter (N := 28) Try.func63 rfl Try.ntmps63 (by kernel_rfl) rfl (fun ρ L => ?_)
  refine K.seq ?_
  refine K.region ?_
  refine KO.loud rfl (l_box rfl rfl) ?_
  rintro _ _ ⟨b3, rfl, rfl⟩
  refine KO.done ?_
  refine K.seq ?_
  refine K.region ?_
  refine KO.q rfl (q_move rfl) ?_
  refine KO.q rfl (q_field fo_24_0 rfl) ?_
  refine KO.q rfl (q_load1D ck_3 rfl) ?_
  refine KO.loud rfl (OpL.callD rfl (h := wf_Int _ _ _ _ _ (by first | omega | (simp [wInt_length, wFlag_length, wText_length]; omega)))) ?_
  rintro _ _ ⟨_, ⟨q1, c1, rfl, rfl⟩, rfl⟩
  refine KO.done ?_
  refine K.seq ?_
  refine K.region ?_
  refine KO.q rfl (q_move rfl) ?_
  refine KO.q rfl (q_field fo_24_1 rfl) ?_
  refine KO.q rfl (q_load1D ck_3 rfl) ?_
  refine KO.loud rfl (OpL.callD rfl (h := wf_Int _ _ _ _ _ (by first | omega | (simp [wInt_length, wFlag_length, wText_length]; omega)))) ?_
  rintro _ _ ⟨_, ⟨q2, c2, rfl, rfl⟩, rfl⟩
  refine KO.done ?_
  refine K.seq ?_
  refine K.region ?_
  refine KO.q rfl (q_move rfl) ?_
  refine KO.q rfl (q_field fo_24_2 rfl) ?_
  refine KO.q rfl (q_load1D ck_3 rfl) ?_
  refine KO.loud rfl (OpL.callD rfl (h := wf_Int _ _ _ _ _ (by first | omega | (simp [wInt_length, wFlag_length, wText_length]; omega)))) ?_
  rintro _ _ ⟨_, ⟨q3, c3, rfl, rfl⟩, rfl⟩
  refine KO.done ?_
  refine K.seq ?_
  refine K.region ?_
  refine KO.q rfl (q_move rfl) ?_
  refine KO.q rfl (q_field fo_24_3 rfl) ?_
  refine KO.q rfl (q_load1D ck_4 rfl) ?_
  refine KO.loud rfl (OpL.callD rfl (h := wf_Flag _ _ _ _ _ (by first | omega | (simp [wInt_length, wFlag_length, wText_length]; omega)))) ?_
  rintro _ _ ⟨_, ⟨q4, c4, rfl, rfl⟩, rfl⟩
  refine KO.done ?_
  refine K.seq ?_
  refine K.region ?_
  refine KO.q rfl (q_move rfl) ?_
  refine KO.q rfl (q_field fo_24_4 rfl) ?_
  refine KO.q rfl (q_load1D ck_9 rfl) ?_
  refine KO.loud rfl (OpL.callD rfl (h := wf_TextA _ _ _ _ _ (by first | omega | (simp [wInt_length, wFlag_length, wText_length]; omega)))) ?_
  rintro _ _ ⟨_, ⟨q5, c5, rfl, rfl⟩, rfl⟩
  refine KO.done ?_
  refine K.region ?_
  refine KO.q rfl (q_move rfl) ?_
  refine KO.q rfl (q_field fo_24_5 rfl) ?_
  refine KO.q rfl (q_load1D ck_9 rfl) ?_
  refine KO.loud rfl (OpL.callD rfl (h := wf_TextA _ _ _ _ _ (by first | omega | (simp [wInt_length, wFlag_length, wText_length]; omega)))) ?_
  rintro _ _ ⟨_, ⟨q6, c6, rfl, rfl⟩, rfl⟩
  refine KO.done ?_
  refine K.fin (fn := Try.f63) Try.func63 (fun a w hk hs => res0 Try.results63) (fun w hs => ?_)
  refine ⟨_, WfL p q6 c6 (xs ++ m.bytes), rfl, ⟨q6, c6, rfl, rfl⟩, ?_⟩
  have e : xs ++ wInt m.id ++ wInt m.pri ++ wInt m.retry ++ wFlag m.claimed ++ wText m.corr ++ wText m.body = xs ++ m.bytes := by simp [Msg.bytes]
  rw [e] at hs
  exact hs.fitD
end Go.Proofs.Ytlellgnklohclaa.L
