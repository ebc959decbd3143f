/- Walks: messages. Walks: the bytes of a message, and what is read of bytes. Walks: postelaw14.MessageReads, MessageBack. A message as an argument. Messages and rows as records: equality is decided. Walks: texts of any length, written; messages of any texts. -/
import Derived.Test.YthnmoiilaaoooaaGreatLC
import Derived.Test.YthnmoiilaaoooaaGreatWA
import Derived.WalkKit
import Derived.Test.YthnmoiilaaoooaaGreatLB
/-! Walks: messages. -/
namespace Go.Proofs.YthnmoiilaaoooaaGreat.L
open Go Go.Proofs
attribute [local irreducible] pv fv pt fz RowF RowO rowP old pure_
set_option maxRecDepth 100000
set_option linter.unusedSimpArgs false
set_option linter.unusedVariables false

/-- A message. -/
structure Msg where
  id : Int
  pri : Int
  retry : Int
  claimed : Bool
  corr : ByteArray
  body : ByteArray
def Msg.cells (x : Msg) : List Value := [.int .i64 x.id, .int .i64 x.pri, .int .i64 x.retry, .bool x.claimed, .string x.corr, .string x.body]
def Kd.msg : Kd Msg := Kd.flat 6 Msg.cells (fun _ => rfl) (fun _ v h => by simp [Msg.cells] at h; rcases h with rfl | rfl | rfl | rfl | rfl | rfl <;> rfl)
theorem msg_one (x : Msg) : ∀ v ∈ x.cells, v.oneCell' = true := fun v h => by simp [Msg.cells] at h; rcases h with rfl | rfl | rfl | rfl | rfl | rfl <;> rfl
theorem msg_cell {ρ : World} {L : List HP} {b o : Nat} {l : List Msg} {i j : Nat} {x : Msg} {v : Value} (m : RowF Kd.msg (some ⟨b, o, none⟩) l ∈ L) (hx : l[i]? = some x) (hv : x.cells[j]? = some v) : ∀ w, St ρ L w → w.cell? ⟨b, o + i * 6 + j, none⟩ = some v := rowF_cell m hx hv
def Msg.right (m : Msg) : Bool := decide (1 ≤ m.id) && decide (m.id ≤ 1099511627776) && decide (-1000 ≤ m.pri) && decide (m.pri ≤ 1000) && decide (0 ≤ m.retry) && decide (m.retry ≤ 1000) && decide ((m.corr.size : Int) ≤ 40) && decide ((m.body.size : Int) ≤ 100)
theorem msg_Right (m : Msg) : Fn Tryz.prog 67 [.agg m.cells.toArray].toArray [] (fun v post => v = .bool m.right ∧ post = []) := message_Right m.id m.pri m.retry m.claimed m.corr m.body
def Msg.tried (m : Msg) : Msg := { m with claimed := false, retry := (if 999 < m.retry then 999 else m.retry) + 1 }
theorem msg_Tried (m : Msg) (limit : Int) (h0 : -9223372036854775808 ≤ m.retry) : Fn Tryz.prog 99 [.agg m.cells.toArray, .int .i64 limit].toArray [] (fun v post => v = .tuple #[.agg m.tried.cells.toArray, .bool (decide (limit ≤ m.tried.retry))] ∧ post = []) := by
  obtain ⟨id, pri, retry, claimed, corr, body⟩ := m
  replace h0 : -9223372036854775808 ≤ retry := h0
  refine Fn.enter (N := 17) Tryz.func99 rfl Tryz.ntmps99 (by kernel_rfl) rfl (fun ρ L => ?_)
  repeat (first | refine K.seq ?_ | refine K.skip ?_ | refine K.block ?_ | refine K.inBlock ?_ | refine K.label ?_)
  refine K.region ?_
  refine KO.loud rfl (l_box rfl rfl) ?_
  rintro _ _ ⟨b2, rfl, rfl⟩
  refine KO.loud rfl (l_alloc zo_39) ?_
  rintro _ _ ⟨b4, rfl, rfl⟩
  refine KO.q rfl (q_assign rfl) ?_
  refine KO.done ?_
  repeat (first | refine K.seq ?_ | refine K.skip ?_ | refine K.block ?_ | refine K.inBlock ?_ | refine K.label ?_)
  repeat (first | refine K.seq ?_ | refine K.skip ?_ | refine K.block ?_ | refine K.inBlock ?_ | refine K.label ?_)
  refine K.region ?_
  refine KO.q rfl (q_field fo_39_3 rfl) ?_
  refine KO.loudN rfl (l_store1 ck_4 rfl rfl rfl (by repeat (first | exact Pick.here | apply Pick.there)) (by repeat (first | exact SetAt.here | apply SetAt.there))) ?_
  rintro _ _ ⟨rfl, rfl⟩
  refine KO.done ?_
  repeat (first | refine K.seq ?_ | refine K.skip ?_ | refine K.block ?_ | refine K.inBlock ?_ | refine K.label ?_)
  repeat (first | refine K.seq ?_ | refine K.skip ?_ | refine K.block ?_ | refine K.inBlock ?_ | refine K.label ?_)
  refine K.region ?_
  refine KO.q rfl (q_field fo_39_2 rfl) ?_
  refine KO.q rfl (q_load1D ck_3 rfl) ?_
  refine KO.q rfl (q_min rfl rfl) ?_
  have hm : (if (999 : Int) < retry then (999 : Int) else retry) = (if 999 < retry then 999 else retry) := rfl
  generalize hr : (if (999 : Int) < retry then (999 : Int) else retry) = r
  have hr1 : -9223372036854775808 ≤ r ∧ r ≤ 999 := by rw [← hr]; split <;> omega
  refine KO.q rfl (q_add rfl rfl (by first | omega | (simp; omega)) (by first | omega | (simp; omega))) ?_
  refine KO.q rfl (q_field fo_39_2 rfl) ?_
  refine KO.loudN rfl (l_store1 ck_3 rfl rfl rfl (by repeat (first | exact Pick.here | apply Pick.there)) (by repeat (first | exact SetAt.here | apply SetAt.there))) ?_
  rintro _ _ ⟨rfl, rfl⟩
  refine KO.done ?_
  repeat (first | refine K.seq ?_ | refine K.skip ?_ | refine K.block ?_ | refine K.inBlock ?_ | refine K.label ?_)
  repeat (first | refine K.seq ?_ | refine K.skip ?_ | refine K.block ?_ | refine K.inBlock ?_ | refine K.label ?_)
  refine K.draw [pv b2 39 [.int .i64 id, .int .i64 pri, .int .i64 (r + 1), .bool false, .string corr, .string body]] mixed ?_
  refine D.q 0 rfl (by kernel_rfl) (by kernel_rfl) (q_loadN ck_39 rfl rfl (by first | (apply cells_pv; (repeat (first | exact List.Mem.head _ | apply List.Mem.tail))) | (apply cells_fv; (repeat (first | exact List.Mem.head _ | apply List.Mem.tail))))) (fun _ h => h.subD) ?_
  refine D.q 1 rfl (by kernel_rfl) (by kernel_rfl) (q_field fo_39_2 rfl) (fun _ h => h.subD) ?_
  refine D.q 2 rfl (by kernel_rfl) (by kernel_rfl) (q_load1D ck_3 rfl) (fun _ h => h.subD) ?_
  refine D.q 3 rfl (by kernel_rfl) (by kernel_rfl) (q_move rfl) (fun _ h => h.subD) ?_
  refine D.q 4 rfl (by kernel_rfl) (by kernel_rfl) (q_ge rfl rfl) (fun _ h => h.subD) ?_
  refine D.all (rs := [5]) (by kernel_rfl) rfl (DAll.consN rfl (by kernel_rfl) (l_storeN ck_39 rfl rfl rfl (by simp [Value.oneCell']) (by repeat (first | exact Pick.here | apply Pick.there)) (by repeat (first | exact SetN.nil | apply SetN.cons | exact SetAt.here | apply SetAt.there))) (.inr (by rintro _ _ ⟨rfl, rfl⟩ w h; exact h.subD)) rfl ?_ DAll.nil)
  rintro _ _ ⟨rfl, rfl⟩
  refine D.all (rs := [6]) (by kernel_rfl) rfl (DAll.cons rfl (by kernel_rfl) (OpQ.loud (q_assign rfl)) (.inl (by kernel_rfl)) rfl ?_ DAll.nil)
  rintro _ _ ⟨rfl, rfl⟩
  refine D.done (by kernel_rfl) ?_
  repeat (first | refine K.seq ?_ | refine K.skip ?_ | refine K.block ?_ | refine K.inBlock ?_ | refine K.label ?_)
  refine K.ret (fn := Tryz.f99) Tryz.func99 (fun a w hk hs => resCT Tryz.results99 hk rfl ck_39 rfl (cells_pv (by repeat (first | exact List.Mem.head _ | apply List.Mem.tail)) w hs) rfl) (fun w hs => ?_)
  exact ⟨_, [], rfl, ⟨by rw [Msg.tried]; simp only [Msg.cells]; rw [hr], rfl⟩, hs.fitD⟩
theorem ref_Right (m : Msg) : Fn Tryz.prog 25 [.agg m.cells.toArray].toArray [] (fun v post => v = .bool m.right ∧ post = []) := by
  obtain ⟨id, pri, retry, claimed, corr, body⟩ := m
  refine Fn.enter (N := 43) Tryz.func25 rfl Tryz.ntmps25 (by kernel_rfl) rfl (fun ρ L => ?_)
  repeat (first | refine K.seq ?_ | refine K.skip ?_ | refine K.block ?_ | refine K.inBlock ?_ | refine K.label ?_)
  refine K.region ?_
  refine KO.loud rfl (l_box rfl rfl) ?_
  rintro _ _ ⟨b1, rfl, rfl⟩
  refine KO.q rfl (q_assign rfl) ?_
  refine KO.done ?_
  repeat (first | refine K.seq ?_ | refine K.skip ?_ | refine K.block ?_ | refine K.inBlock ?_ | refine K.label ?_)
  repeat (first | refine K.seq ?_ | refine K.skip ?_ | refine K.block ?_ | refine K.inBlock ?_ | refine K.label ?_)
  refine K.region ?_
  refine KO.q rfl (q_field fo_39_0 rfl) ?_
  refine KO.q rfl (q_load1D ck_3 rfl) ?_
  refine KO.q rfl (q_ge rfl rfl) ?_
  refine KO.q rfl (q_move rfl) ?_
  refine KO.dsplit 6 rfl (fun g6 => ?_) (fun g6 => ?_)
  · refine KO.q rfl (q_field fo_39_0 rfl) ?_
    refine KO.q rfl (q_load1D ck_3 rfl) ?_
    refine KO.q rfl (q_le rfl rfl) ?_
    refine KO.q rfl (q_pickT rfl rfl) ?_
    refine KO.q rfl (q_move rfl) ?_
    refine KO.dsplit 11 rfl (fun g11 => ?_) (fun g11 => ?_)
    · refine KO.q rfl (q_field fo_39_1 rfl) ?_
      refine KO.q rfl (q_load1D ck_3 rfl) ?_
      refine KO.q rfl (q_ge rfl rfl) ?_
      refine KO.q rfl (q_pickT rfl rfl) ?_
      refine KO.q rfl (q_move rfl) ?_
      refine KO.dsplit 16 rfl (fun g16 => ?_) (fun g16 => ?_)
      · refine KO.q rfl (q_field fo_39_1 rfl) ?_
        refine KO.q rfl (q_load1D ck_3 rfl) ?_
        refine KO.q rfl (q_le rfl rfl) ?_
        refine KO.q rfl (q_pickT rfl rfl) ?_
        refine KO.q rfl (q_move rfl) ?_
        refine KO.dsplit 21 rfl (fun g21 => ?_) (fun g21 => ?_)
        · refine KO.q rfl (q_field fo_39_2 rfl) ?_
          refine KO.q rfl (q_load1D ck_3 rfl) ?_
          refine KO.q rfl (q_ge rfl rfl) ?_
          refine KO.q rfl (q_pickT rfl rfl) ?_
          refine KO.q rfl (q_move rfl) ?_
          refine KO.dsplit 26 rfl (fun g26 => ?_) (fun g26 => ?_)
          · refine KO.q rfl (q_field fo_39_2 rfl) ?_
            refine KO.q rfl (q_load1D ck_3 rfl) ?_
            refine KO.q rfl (q_le rfl rfl) ?_
            refine KO.q rfl (q_pickT rfl rfl) ?_
            refine KO.q rfl (q_move rfl) ?_
            refine KO.dsplit 31 rfl (fun g31 => ?_) (fun g31 => ?_)
            · refine KO.q rfl (q_field fo_39_4 rfl) ?_
              refine KO.q rfl (q_load1D ck_9 rfl) ?_
              refine KO.q rfl (q_lenS Tryz.underlying9 rfl) ?_
              refine KO.q rfl (q_le rfl rfl) ?_
              refine KO.q rfl (q_pickT rfl rfl) ?_
              refine KO.q rfl (q_move rfl) ?_
              refine KO.dsplit 37 rfl (fun g37 => ?_) (fun g37 => ?_)
              · refine KO.q rfl (q_field fo_39_5 rfl) ?_
                refine KO.q rfl (q_load1D ck_9 rfl) ?_
                refine KO.q rfl (q_lenS Tryz.underlying9 rfl) ?_
                refine KO.q rfl (q_le rfl rfl) ?_
                refine KO.q rfl (q_pickT rfl rfl) ?_
                refine KO.q rfl (q_assign rfl) ?_
                refine KO.done ?_
                repeat (first | refine K.seq ?_ | refine K.skip ?_ | refine K.block ?_ | refine K.inBlock ?_ | refine K.label ?_)
                refine K.ret (fn := Tryz.f25) Tryz.func25 (fun a w hk hs => res1 Tryz.results25 hk rfl) (fun w hs => ?_)
                exact ⟨_, [], rfl, ⟨by simp [Msg.right, *], rfl⟩, hs.tail⟩
              · refine KO.skip rfl ?_
                refine KO.skip rfl ?_
                refine KO.skip rfl ?_
                refine KO.skip rfl ?_
                refine KO.q rfl (q_pickF rfl rfl) ?_
                refine KO.q rfl (q_assign rfl) ?_
                refine KO.done ?_
                repeat (first | refine K.seq ?_ | refine K.skip ?_ | refine K.block ?_ | refine K.inBlock ?_ | refine K.label ?_)
                refine K.ret (fn := Tryz.f25) Tryz.func25 (fun a w hk hs => res1 Tryz.results25 hk rfl) (fun w hs => ?_)
                exact ⟨_, [], rfl, ⟨by simp [Msg.right, *], rfl⟩, hs.tail⟩
            · refine KO.skip rfl ?_
              refine KO.skip rfl ?_
              refine KO.skip rfl ?_
              refine KO.skip rfl ?_
              refine KO.q rfl (q_pickF rfl rfl) ?_
              refine KO.q rfl (q_move rfl) ?_
              refine KO.skip rfl ?_
              refine KO.skip rfl ?_
              refine KO.skip rfl ?_
              refine KO.skip rfl ?_
              refine KO.q rfl (q_pickF rfl rfl) ?_
              refine KO.q rfl (q_assign rfl) ?_
              refine KO.done ?_
              repeat (first | refine K.seq ?_ | refine K.skip ?_ | refine K.block ?_ | refine K.inBlock ?_ | refine K.label ?_)
              refine K.ret (fn := Tryz.f25) Tryz.func25 (fun a w hk hs => res1 Tryz.results25 hk rfl) (fun w hs => ?_)
              exact ⟨_, [], rfl, ⟨by simp [Msg.right, *], rfl⟩, hs.tail⟩
          · refine KO.skip rfl ?_
            refine KO.skip rfl ?_
            refine KO.skip rfl ?_
            refine KO.q rfl (q_pickF rfl rfl) ?_
            refine KO.q rfl (q_move rfl) ?_
            refine KO.skip rfl ?_
            refine KO.skip rfl ?_
            refine KO.skip rfl ?_
            refine KO.skip rfl ?_
            refine KO.q rfl (q_pickF rfl rfl) ?_
            refine KO.q rfl (q_move rfl) ?_
            refine KO.skip rfl ?_
            refine KO.skip rfl ?_
            refine KO.skip rfl ?_
            refine KO.skip rfl ?_
            refine KO.q rfl (q_pickF rfl rfl) ?_
            refine KO.q rfl (q_assign rfl) ?_
            refine KO.done ?_
            repeat (first | refine K.seq ?_ | refine K.skip ?_ | refine K.block ?_ | refine K.inBlock ?_ | refine K.label ?_)
            refine K.ret (fn := Tryz.f25) Tryz.func25 (fun a w hk hs => res1 Tryz.results25 hk rfl) (fun w hs => ?_)
            exact ⟨_, [], rfl, ⟨by simp [Msg.right, *], rfl⟩, hs.tail⟩
        · refine KO.skip rfl ?_
          refine KO.skip rfl ?_
          refine KO.skip rfl ?_
          refine KO.q rfl (q_pickF rfl rfl) ?_
          refine KO.q rfl (q_move rfl) ?_
          refine KO.skip rfl ?_
          refine KO.skip rfl ?_
          refine KO.skip rfl ?_
          refine KO.q rfl (q_pickF rfl rfl) ?_
          refine KO.q rfl (q_move rfl) ?_
          refine KO.skip rfl ?_
          refine KO.skip rfl ?_
          refine KO.skip rfl ?_
          refine KO.skip rfl ?_
          refine KO.q rfl (q_pickF rfl rfl) ?_
          refine KO.q rfl (q_move rfl) ?_
          refine KO.skip rfl ?_
          refine KO.skip rfl ?_
          refine KO.skip rfl ?_
          refine KO.skip rfl ?_
          refine KO.q rfl (q_pickF rfl rfl) ?_
          refine KO.q rfl (q_assign rfl) ?_
          refine KO.done ?_
          repeat (first | refine K.seq ?_ | refine K.skip ?_ | refine K.block ?_ | refine K.inBlock ?_ | refine K.label ?_)
          refine K.ret (fn := Tryz.f25) Tryz.func25 (fun a w hk hs => res1 Tryz.results25 hk rfl) (fun w hs => ?_)
          exact ⟨_, [], rfl, ⟨by simp [Msg.right, *], rfl⟩, hs.tail⟩
      · refine KO.skip rfl ?_
        refine KO.skip rfl ?_
        refine KO.skip rfl ?_
        refine KO.q rfl (q_pickF rfl rfl) ?_
        refine KO.q rfl (q_move rfl) ?_
        refine KO.skip rfl ?_
        refine KO.skip rfl ?_
        refine KO.skip rfl ?_
        refine KO.q rfl (q_pickF rfl rfl) ?_
        refine KO.q rfl (q_move rfl) ?_
        refine KO.skip rfl ?_
        refine KO.skip rfl ?_
        refine KO.skip rfl ?_
        refine KO.q rfl (q_pickF rfl rfl) ?_
        refine KO.q rfl (q_move rfl) ?_
        refine KO.skip rfl ?_
        refine KO.skip rfl ?_
        refine KO.skip rfl ?_
        refine KO.skip rfl ?_
        refine KO.q rfl (q_pickF rfl rfl) ?_
        refine KO.q rfl (q_move rfl) ?_
        refine KO.skip rfl ?_
        refine KO.skip rfl ?_
        refine KO.skip rfl ?_
        refine KO.skip rfl ?_
        refine KO.q rfl (q_pickF rfl rfl) ?_
        refine KO.q rfl (q_assign rfl) ?_
        refine KO.done ?_
        repeat (first | refine K.seq ?_ | refine K.skip ?_ | refine K.block ?_ | refine K.inBlock ?_ | refine K.label ?_)
        refine K.ret (fn := Tryz.f25) Tryz.func25 (fun a w hk hs => res1 Tryz.results25 hk rfl) (fun w hs => ?_)
        exact ⟨_, [], rfl, ⟨by simp [Msg.right, *], rfl⟩, hs.tail⟩
    · refine KO.skip rfl ?_
      refine KO.skip rfl ?_
      refine KO.skip rfl ?_
      refine KO.q rfl (q_pickF rfl rfl) ?_
      refine KO.q rfl (q_move rfl) ?_
      refine KO.skip rfl ?_
      refine KO.skip rfl ?_
      refine KO.skip rfl ?_
      refine KO.q rfl (q_pickF rfl rfl) ?_
      refine KO.q rfl (q_move rfl) ?_
      refine KO.skip rfl ?_
      refine KO.skip rfl ?_
      refine KO.skip rfl ?_
      refine KO.q rfl (q_pickF rfl rfl) ?_
      refine KO.q rfl (q_move rfl) ?_
      refine KO.skip rfl ?_
      refine KO.skip rfl ?_
      refine KO.skip rfl ?_
      refine KO.q rfl (q_pickF rfl rfl) ?_
      refine KO.q rfl (q_move rfl) ?_
      refine KO.skip rfl ?_
      refine KO.skip rfl ?_
      refine KO.skip rfl ?_
      refine KO.skip rfl ?_
      refine KO.q rfl (q_pickF rfl rfl) ?_
      refine KO.q rfl (q_move rfl) ?_
      refine KO.skip rfl ?_
      refine KO.skip rfl ?_
      refine KO.skip rfl ?_
      refine KO.skip rfl ?_
      refine KO.q rfl (q_pickF rfl rfl) ?_
      refine KO.q rfl (q_assign rfl) ?_
      refine KO.done ?_
      repeat (first | refine K.seq ?_ | refine K.skip ?_ | refine K.block ?_ | refine K.inBlock ?_ | refine K.label ?_)
      refine K.ret (fn := Tryz.f25) Tryz.func25 (fun a w hk hs => res1 Tryz.results25 hk rfl) (fun w hs => ?_)
      exact ⟨_, [], rfl, ⟨by simp [Msg.right, *], rfl⟩, hs.tail⟩
  · refine KO.skip rfl ?_
    refine KO.skip rfl ?_
    refine KO.skip rfl ?_
    refine KO.q rfl (q_pickF rfl rfl) ?_
    refine KO.q rfl (q_move rfl) ?_
    refine KO.skip rfl ?_
    refine KO.skip rfl ?_
    refine KO.skip rfl ?_
    refine KO.q rfl (q_pickF rfl rfl) ?_
    refine KO.q rfl (q_move rfl) ?_
    refine KO.skip rfl ?_
    refine KO.skip rfl ?_
    refine KO.skip rfl ?_
    refine KO.q rfl (q_pickF rfl rfl) ?_
    refine KO.q rfl (q_move rfl) ?_
    refine KO.skip rfl ?_
    refine KO.skip rfl ?_
    refine KO.skip rfl ?_
    refine KO.q rfl (q_pickF rfl rfl) ?_
    refine KO.q rfl (q_move rfl) ?_
    refine KO.skip rfl ?_
    refine KO.skip rfl ?_
    refine KO.skip rfl ?_
    refine KO.q rfl (q_pickF rfl rfl) ?_
    refine KO.q rfl (q_move rfl) ?_
    refine KO.skip rfl ?_
    refine KO.skip rfl ?_
    refine KO.skip rfl ?_
    refine KO.skip rfl ?_
    refine KO.q rfl (q_pickF rfl rfl) ?_
    refine KO.q rfl (q_move rfl) ?_
    refine KO.skip rfl ?_
    refine KO.skip rfl ?_
    refine KO.skip rfl ?_
    refine KO.skip rfl ?_
    refine KO.q rfl (q_pickF rfl rfl) ?_
    refine KO.q rfl (q_assign rfl) ?_
    refine KO.done ?_
    repeat (first | refine K.seq ?_ | refine K.skip ?_ | refine K.block ?_ | refine K.inBlock ?_ | refine K.label ?_)
    refine K.ret (fn := Tryz.f25) Tryz.func25 (fun a w hk hs => res1 Tryz.results25 hk rfl) (fun w hs => ?_)
    exact ⟨_, [], rfl, ⟨by simp [Msg.right, *], rfl⟩, hs.tail⟩
end Go.Proofs.YthnmoiilaaoooaaGreat.L
/-! Walks: postelaw14.MessageReads, MessageBack. -/
namespace Go.Proofs.YthnmoiilaaoooaaGreat.L
open Go Go.Proofs
attribute [local irreducible] pv fv pt fz RowF RowO rowP old pure_
set_option maxRecDepth 100000
set_option linter.unusedSimpArgs false
set_option linter.unusedVariables false

def Msg.beq (a b : Msg) : Bool := (a.id == b.id) && ((a.pri == b.pri) && ((a.retry == b.retry) && ((a.claimed == b.claimed) && ((a.corr == b.corr) && ((a.body == b.body) && true)))))
theorem Msg.beq_self {a b : Msg} (h : a = b) : a.beq b = true := by subst h; simp [Msg.beq, beq_toListBytes]
theorem msg_hp : Tryz.prog.stoodInHeld 39 = false := by kernel_rfl
theorem msg_hg : Tryz.prog.eqGuardType Tryz.prog.depth 39 = false := by kernel_rfl
theorem msg_eqF (a b : Msg) {fs : Array Field} (h : Tryz.prog.underlying 39 = some (.struct fs)) : EqF Tryz.prog a.cells b.cells fs.toList (a.beq b) := by
  rw [Tryz.underlying39] at h
  cases h
  exact .cons rfl ck_3 rfl rfl (.int Tryz.underlying3) (.cons rfl ck_3 rfl rfl (.int Tryz.underlying3) (.cons rfl ck_3 rfl rfl (.int Tryz.underlying3) (.cons rfl ck_4 rfl rfl (.bool Tryz.underlying4) (.cons rfl ck_9 rfl rfl (.str Tryz.underlying9) (.cons rfl ck_9 rfl rfl (.str Tryz.underlying9) .nil)))))
theorem msg_eqT {a b : Msg} (e : a = b) {fs : Array Field} (h : Tryz.prog.underlying 39 = some (.struct fs)) : EqF Tryz.prog a.cells b.cells fs.toList true := by
  have := msg_eqF a b h
  rwa [Msg.beq_self e] at this
end Go.Proofs.YthnmoiilaaoooaaGreat.L
/-! A message as an argument. -/
namespace Go.Proofs.YthnmoiilaaoooaaGreat.L
open Go Go.RowKit Go.ChangeShapes

def Msg.fits (x : Msg) : Prop := (-9223372036854775808 ≤ x.id ∧ x.id ≤ 9223372036854775807) ∧ (-9223372036854775808 ≤ x.pri ∧ x.pri ≤ 9223372036854775807) ∧ (-9223372036854775808 ≤ x.retry ∧ x.retry ≤ 9223372036854775807) ∧ True ∧ (x.corr.size : Int) ≤ 9223372036854775807 ∧ (x.body.size : Int) ≤ 9223372036854775807
theorem msg_len (cs : List Value) (h : cs.length = 6) : ∃ v0 v1 v2 v3 v4 v5, cs = [v0, v1, v2, v3, v4, v5] := by
  match cs, h with
  | [v0, v1, v2, v3, v4, v5], _ => exact ⟨v0, v1, v2, v3, v4, v5, rfl⟩
theorem opens_msg {H : Type} {enc : TypeId × Value → H} {W : World} : Opens enc Tryz.prog W Kd.msg 39 Msg.fits := fun fuel cs y h => by
  obtain ⟨hl, n, hf⟩ := opens_fields Tryz.underlying39 h
  have hl2 : cs.length = 6 := hl.trans (by kernel_rfl)
  obtain ⟨v0, v1, v2, v3, v4, v5, rfl⟩ := msg_len cs hl2
  have cb : Tryz.prog.cellsOf 4 = 1 := by kernel_rfl
  have ci : Tryz.prog.cellsOf 3 = 1 := by kernel_rfl
  have cs : Tryz.prog.cellsOf 9 = 1 := by kernel_rfl
  obtain ⟨y0, h0⟩ := hf 0 _ rfl
  replace h0 : DataW.trod enc Tryz.prog W 0 (fun _ => true) true n 3 (([v0, v1, v2, v3, v4, v5].drop 0).take (Tryz.prog.cellsOf 3)) = some y0 := h0
  rw [ci] at h0
  obtain ⟨x0, e0, b0⟩ := opens_int Tryz.underlying3 _ _ _ h0
  have u0 : v0 = Value.int .i64 x0 := (List.cons.inj (show [v0] = [Value.int .i64 x0] from e0)).1
  obtain ⟨y1, h1⟩ := hf 1 _ rfl
  replace h1 : DataW.trod enc Tryz.prog W 0 (fun _ => true) true n 3 (([v0, v1, v2, v3, v4, v5].drop 1).take (Tryz.prog.cellsOf 3)) = some y1 := h1
  rw [ci] at h1
  obtain ⟨x1, e1, b1⟩ := opens_int Tryz.underlying3 _ _ _ h1
  have u1 : v1 = Value.int .i64 x1 := (List.cons.inj (show [v1] = [Value.int .i64 x1] from e1)).1
  obtain ⟨y2, h2⟩ := hf 2 _ rfl
  replace h2 : DataW.trod enc Tryz.prog W 0 (fun _ => true) true n 3 (([v0, v1, v2, v3, v4, v5].drop 2).take (Tryz.prog.cellsOf 3)) = some y2 := h2
  rw [ci] at h2
  obtain ⟨x2, e2, b2⟩ := opens_int Tryz.underlying3 _ _ _ h2
  have u2 : v2 = Value.int .i64 x2 := (List.cons.inj (show [v2] = [Value.int .i64 x2] from e2)).1
  obtain ⟨y3, h3⟩ := hf 3 _ rfl
  replace h3 : DataW.trod enc Tryz.prog W 0 (fun _ => true) true n 4 (([v0, v1, v2, v3, v4, v5].drop 3).take (Tryz.prog.cellsOf 4)) = some y3 := h3
  rw [cb] at h3
  obtain ⟨x3, e3, b3⟩ := opens_bool Tryz.underlying4 _ _ _ h3
  have u3 : v3 = Value.bool x3 := (List.cons.inj (show [v3] = [Value.bool x3] from e3)).1
  obtain ⟨y4, h4⟩ := hf 4 _ rfl
  replace h4 : DataW.trod enc Tryz.prog W 0 (fun _ => true) true n 9 (([v0, v1, v2, v3, v4, v5].drop 4).take (Tryz.prog.cellsOf 9)) = some y4 := h4
  rw [cs] at h4
  obtain ⟨x4, e4, b4⟩ := opens_str Tryz.underlying9 _ _ _ h4
  have u4 : v4 = Value.string x4 := (List.cons.inj (show [v4] = [Value.string x4] from e4)).1
  obtain ⟨y5, h5⟩ := hf 5 _ rfl
  replace h5 : DataW.trod enc Tryz.prog W 0 (fun _ => true) true n 9 (([v0, v1, v2, v3, v4, v5].drop 5).take (Tryz.prog.cellsOf 9)) = some y5 := h5
  rw [cs] at h5
  obtain ⟨x5, e5, b5⟩ := opens_str Tryz.underlying9 _ _ _ h5
  have u5 : v5 = Value.string x5 := (List.cons.inj (show [v5] = [Value.string x5] from e5)).1
  subst u0 u1 u2 u3 u4 u5
  exact ⟨⟨x0, x1, x2, x3, x4, x5⟩, rfl, b0, b1, b2, b3, b4, b5⟩
end Go.Proofs.YthnmoiilaaoooaaGreat.L
/-! Messages and rows as records: equality is decided. -/
namespace Go.Proofs.YthnmoiilaaoooaaGreat.L
open Go Go.Proofs
attribute [local irreducible] pv fv pt fz RowF RowO rowP old pure_ elA
set_option maxRecDepth 100000
set_option linter.unusedSimpArgs false
set_option linter.unusedVariables false
open Go.RowKit Go.ChangeShapes

--%rec api.Msg Msg
theorem msg_sz (x : Msg) : x.cells.length = 6 := rfl
theorem q_as_msg {X : Fx} {o : Oper} {E : Env} {L : List HP} {cs : List Value} {id_ : Int} {pri_ : Int} {retry_ : Int} {claimed_ : Bool} {corr_ : ByteArray} {body_ : ByteArray} (h : OpQ X o E L (.agg cs.toArray)) (e : cs = [.int .i64 id_, .int .i64 pri_, .int .i64 retry_, .bool claimed_, .string corr_, .string body_]) : OpQ X o E L (.agg (Msg.cells ⟨id_, pri_, retry_, claimed_, corr_, body_⟩).toArray) := q_as h e
theorem msg_ext {a b : Msg} : a = b ↔ a.id = b.id ∧ a.pri = b.pri ∧ a.retry = b.retry ∧ a.claimed = b.claimed ∧ a.corr = b.corr ∧ a.body = b.body := by cases a; cases b; simp
instance : DecidableEq Msg := fun _ _ => decidable_of_iff _ msg_ext.symm
theorem msg_beqD (a b : Msg) : a.beq b = decide (a = b) := by rw [Bool.eq_iff_iff, decide_eq_true_iff, msg_ext]; simp [Msg.beq, bbeq]
theorem msg_eqD (a b : Msg) {fs : Array Field} (h : Tryz.prog.underlying 39 = some (.struct fs)) : EqG Tryz.prog a.cells b.cells fs.toList (decide (a = b)) := by
  rw [Tryz.underlying39] at h
  cases h
  have e : ((a.id == b.id) && ((a.pri == b.pri) && ((a.retry == b.retry) && ((a.claimed == b.claimed) && ((a.corr == b.corr) && ((a.body == b.body) && true)))))) = decide (a = b) := by rw [Bool.eq_iff_iff, decide_eq_true_iff, msg_ext]; simp [bbeq]
  rw [← e]
  exact (.cons rfl ck_3 rfl rfl (.int Tryz.underlying3) (.cons rfl ck_3 rfl rfl (.int Tryz.underlying3) (.cons rfl ck_3 rfl rfl (.int Tryz.underlying3) (.cons rfl ck_4 rfl rfl (.bool Tryz.underlying4) (.cons rfl ck_9 rfl rfl (.str Tryz.underlying9) (.cons rfl ck_9 rfl rfl (.str Tryz.underlying9) .nil))))))
/-- A row of a table. -/
--%rec api.Row Rw
structure Rw where
  key : ByteArray
  value : ByteArray
def Rw.cells (x : Rw) : List Value := [.string x.key, .string x.value]
theorem rw_sz (x : Rw) : x.cells.length = 2 := rfl
theorem rw_one (x : Rw) : ∀ v ∈ x.cells, v.oneCell' = true := fun v h => by simp [Rw.cells] at h; rcases h with rfl | rfl <;> rfl
def Kd.rw : Kd Rw := Kd.flat 2 Rw.cells rw_sz rw_one
theorem q_as_rw {X : Fx} {o : Oper} {E : Env} {L : List HP} {cs : List Value} {key_ : ByteArray} {value_ : ByteArray} (h : OpQ X o E L (.agg cs.toArray)) (e : cs = [.string key_, .string value_]) : OpQ X o E L (.agg (Rw.cells ⟨key_, value_⟩).toArray) := q_as h e
theorem rw_ext {a b : Rw} : a = b ↔ a.key = b.key ∧ a.value = b.value := by cases a; cases b; simp
instance : DecidableEq Rw := fun _ _ => decidable_of_iff _ rw_ext.symm
theorem rw_hp : Tryz.prog.stoodInHeld 29 = false := by kernel_rfl
theorem rw_hg : Tryz.prog.eqGuardType Tryz.prog.depth 29 = false := by kernel_rfl
theorem rw_eqD (a b : Rw) {fs : Array Field} (h : Tryz.prog.underlying 29 = some (.struct fs)) : EqG Tryz.prog a.cells b.cells fs.toList (decide (a = b)) := by
  rw [Tryz.underlying29] at h
  cases h
  have e : ((a.key == b.key) && ((a.value == b.value) && true)) = decide (a = b) := by rw [Bool.eq_iff_iff, decide_eq_true_iff, rw_ext]; simp [bbeq]
  rw [← e]
  exact (.cons rfl ck_9 rfl rfl (.str Tryz.underlying9) (.cons rfl ck_9 rfl rfl (.str Tryz.underlying9) .nil))
def Rw.beq (a b : Rw) : Bool := (a.key == b.key) && ((a.value == b.value) && true)
theorem rw_beqD (a b : Rw) : a.beq b = decide (a = b) := by rw [Bool.eq_iff_iff, decide_eq_true_iff, rw_ext]; simp [Rw.beq, bbeq]
theorem rw_eqF (a b : Rw) {fs : Array Field} (h : Tryz.prog.underlying 29 = some (.struct fs)) : EqF Tryz.prog a.cells b.cells fs.toList (a.beq b) := by
  rw [Tryz.underlying29] at h
  cases h
  exact (.cons rfl ck_9 rfl rfl (.str Tryz.underlying9) (.cons rfl ck_9 rfl rfl (.str Tryz.underlying9) .nil))
def Rw.fits (x : Rw) : Prop := (x.key.size : Int) ≤ 9223372036854775807 ∧ (x.value.size : Int) ≤ 9223372036854775807
theorem rw_len (cs : List Value) (h : cs.length = 2) : ∃ v0 v1, cs = [v0, v1] := by
  match cs, h with
  | [v0, v1], _ => exact ⟨v0, v1, rfl⟩
theorem opens_rw {H : Type} {enc : TypeId × Value → H} {W : World} : Opens enc Tryz.prog W Kd.rw 29 Rw.fits := fun fuel cs y h => by
  obtain ⟨hl, n, hf⟩ := opens_fields Tryz.underlying29 h
  have hl2 : cs.length = 2 := hl.trans (by kernel_rfl)
  obtain ⟨v0, v1, rfl⟩ := rw_len cs hl2
  have cstring : Tryz.prog.cellsOf 9 = 1 := by kernel_rfl
  obtain ⟨y0, h0⟩ := hf 0 _ rfl
  replace h0 : DataW.trod enc Tryz.prog W 0 (fun _ => true) true n 9 (([v0, v1].drop 0).take (Tryz.prog.cellsOf 9)) = some y0 := h0
  rw [cstring] at h0
  obtain ⟨x0, e0, b0⟩ := opens_str Tryz.underlying9 _ _ _ h0
  have u0 : v0 = Value.string x0 := (List.cons.inj (show [v0] = [Value.string x0] from e0)).1
  obtain ⟨y1, h1⟩ := hf 1 _ rfl
  replace h1 : DataW.trod enc Tryz.prog W 0 (fun _ => true) true n 9 (([v0, v1].drop 1).take (Tryz.prog.cellsOf 9)) = some y1 := h1
  rw [cstring] at h1
  obtain ⟨x1, e1, b1⟩ := opens_str Tryz.underlying9 _ _ _ h1
  have u1 : v1 = Value.string x1 := (List.cons.inj (show [v1] = [Value.string x1] from e1)).1
  refine ⟨⟨x0, x1⟩, ?_, b0, b1⟩
  show [v0, v1] = Rw.cells _
  simp only [Rw.cells]
  subst u0 u1
  rfl
end Go.Proofs.YthnmoiilaaoooaaGreat.L
