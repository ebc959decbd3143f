/- Whatever stays at a crash, the state behind all changes that were answered OK is there, or also the one more that was not; no condition. -/
import Derived.WalkKit
import Derived.MapKept
import Derived.Lib.Overlaps
import Derived.Laws.Externs
import Derived.Test.YtkbhldicnamcdaaGreatKeepSureA
open Go.Proofs.Tryz
set_option linter.unusedVariables false
set_option linter.unusedSimpArgs false
set_option maxRecDepth 100000
namespace Go.Proofs.YtkbhldicnamcdaaGreat.L
open Go Go.Proofs
attribute [local irreducible] pv fv pt fz RowF RowO rowP old pure_
structure Msg where
 id : Int
 pri : Int
 retry : Int
 claimed : Bool
 corr : ByteArray
 body : ByteArray
def Msg.cells (x : Msg) : List Value := [.int .i64 x.id, .int .i64 x.pri, .int .i64 x.retry, .bool x.claimed, .string x.corr, .string x.body]
def Kd.msg : Kd Msg := Kd.flat 6 Msg.cells (fun _ => rfl) (fun _ v h => by simp [Msg.cells] at h; rcases h with rfl | rfl | rfl | rfl | rfl | rfl <;> rfl)
theorem msg_one (x : Msg) : ∀ v ∈ x.cells, v.oneCell' = true := fun v h => by simp [Msg.cells] at h; rcases h with rfl | rfl | rfl | rfl | rfl | rfl <;> rfl
def Msg.right (m : Msg) : Bool := decide (1 ≤ m.id) && decide (m.id ≤ 1099511627776) && decide (-1000 ≤ m.pri) && decide (m.pri ≤ 1000) && decide (0 ≤ m.retry) && decide (m.retry ≤ 1000) && decide ((m.corr.size : Int) ≤ 40) && decide ((m.body.size : Int) ≤ 100)
theorem msg_Right (m : Msg) : Fn Tryz.prog 175 [.agg m.cells.toArray].toArray [] (fun v post => v = .bool m.right ∧ post = []) := message_Right m.id m.pri m.retry m.claimed m.corr m.body
def Msg.tried (m : Msg) : Msg := { m with claimed := false, retry := (if 999 < m.retry then 999 else m.retry) + 1 }
theorem msg_Tried (m : Msg) (limit : Int) (h0 : -9223372036854775808 ≤ m.retry) : Fn Tryz.prog 217 [.agg m.cells.toArray, .int .i64 limit].toArray [] (fun v post => v = .tuple #[.agg m.tried.cells.toArray, .bool (decide (limit ≤ m.tried.retry))] ∧ post = []) := by
 obtain ⟨id, pri, retry, claimed, corr, body⟩ := m
 replace h0 : -9223372036854775808 ≤ retry := h0
 refine Fn.enter (N := 17) func217 rfl ntmps217 tK rfl (fun ρ L => ?_)
 repeat (first | apply ke | apply za | apply kB | apply zd | apply kL)
 refine kr<|kl (l_box rfl rfl) ?_
 rintro _ _ ⟨b2, rfl, rfl⟩
 refine kl (lL zo_56) ?_
 rintro _ _ ⟨b4, rfl, rfl⟩
 refine ka rfl<|zm ?_
 repeat (first | apply ke | apply za | apply kB | apply zd | apply kL)
 repeat (first | apply ke | apply za | apply kB | apply zd | apply kL)
 refine kr<|kq (qO fo_56_3 rfl)<|kN rfl (lA ck_4 rfl rfl rfl tP tA) ?_
 rintro _ _ ⟨rfl, rfl⟩
 refine zm ?_
 repeat (first | apply ke | apply za | apply kB | apply zd | apply kL)
 repeat (first | apply ke | apply za | apply kB | apply zd | apply kL)
 refine kr<|kq (qO fo_56_2 rfl)<|kq (qD ck_3 rfl)<|kq (q_min rfl rfl) ?_
 have hm : (if (999 : Int) < retry then (999 : Int) else retry) = (if 999 < retry then 999 else retry) := rfl
 generalize hr : (if (999 : Int) < retry then (999 : Int) else retry) = r
 have hr1 : -9223372036854775808 ≤ r ∧ r ≤ 999 := by rw [← hr]; split <;> omega
 refine kq (q_add rfl rfl tN tN)<|kq (qO fo_56_2 rfl)<|kN rfl (lA ck_3 rfl rfl rfl tP tA) ?_
 rintro _ _ ⟨rfl, rfl⟩
 refine zm ?_
 repeat (first | apply ke | apply za | apply kB | apply zd | apply kL)
 repeat (first | apply ke | apply za | apply kB | apply zd | apply kL)
 refine K.draw [pv b2 56 [.int .i64 id, .int .i64 pri, .int .i64 (r + 1), .bool false, .string corr, .string body]] mixed<|dq 0 rfl (qL ck_56 rfl rfl tC)<|dq 1 rfl (qO fo_56_2 rfl)<|dq 2 rfl (qD ck_3 rfl)<|dq 3 rfl (q_move rfl)<|dq 4 rfl (q_ge rfl rfl)<|dq1N 5 rfl (l_storeN ck_56 rfl rfl rfl (by simp [Value.oneCell']) tP tSN) (.inr (by rintro _ _ ⟨rfl, rfl⟩ w h; exact h.subD)) ?_
 rintro _ _ ⟨rfl, rfl⟩
 refine dq1 6 rfl (OpQ.loud (q_assign rfl)) (.inl tK) ?_
 rintro _ _ ⟨rfl, rfl⟩
 refine D.done tK ?_
 repeat (first | apply ke | apply za | apply kB | apply zd | apply kL)
 refine K.ret (fn := Tryz.f217) func217 (fun a w hk hs => resCT results217 hk rfl ck_56 rfl (cP tM w hs) rfl) (fun w hs => ?_)
 exact ⟨_, [], rfl, ⟨by rw [Msg.tried]; simp only [Msg.cells]; rw [hr], rfl⟩, hs.fitD⟩
theorem ref_Tried (m : Msg) (limit : Int) (h0 : -9223372036854775808 ≤ m.retry) : Fn Tryz.prog 200 [.agg m.cells.toArray, .int .i64 limit].toArray [] (fun v post => v = .tuple #[.agg m.tried.cells.toArray, .bool (decide (limit ≤ m.tried.retry))] ∧ post = []) := by
 obtain ⟨id, pri, retry, claimed, corr, body⟩ := m
 replace h0 : -9223372036854775808 ≤ retry := h0
 refine Fn.enter (N := 20) func200 rfl ntmps200 tK rfl (fun ρ L => ?_)
 repeat (first | apply ke | apply za | apply kB | apply zd | apply kL)
 refine kr<|kl (l_box rfl rfl) ?_
 rintro _ _ ⟨b2, rfl, rfl⟩
 refine kl (lL zo_56) ?_
 rintro _ _ ⟨b4, rfl, rfl⟩
 refine ka rfl<|zm ?_
 repeat (first | apply ke | apply za | apply kB | apply zd | apply kL)
 repeat (first | apply ke | apply za | apply kB | apply zd | apply kL)
 refine kr<|kq (qO fo_56_3 rfl)<|kN rfl (lA ck_4 rfl rfl rfl tP tA) ?_
 rintro _ _ ⟨rfl, rfl⟩
 refine zm ?_
 repeat (first | apply ke | apply za | apply kB | apply zd | apply kL)
 repeat (first | apply ke | apply za | apply kB | apply zd | apply kL)
 refine kr<|kq (qO fo_56_2 rfl)<|kq (qD ck_3 rfl)<|kq (q_lt rfl rfl)<|zm ?_
 repeat (first | apply ke | apply za | apply kB | apply zd | apply kL)
 refine K.dite rfl (fun h => ?_) (fun h => ?_)
 ·replace h : retry < 1000 := h
  have hr : (if (999 : Int) < retry then (999 : Int) else retry) = retry := by split <;> omega
  repeat (first | apply ke | apply za | apply kB | apply zd | apply kL)
  refine kr<|kq (qO fo_56_2 rfl)<|kq (qD ck_3 rfl)<|kq (q_add rfl rfl tN tN)<|kq (qO fo_56_2 rfl)<|kN rfl (lA ck_3 rfl rfl rfl tP tA) ?_
  rintro _ _ ⟨rfl, rfl⟩
  refine zm ?_
  repeat (first | apply ke | apply za | apply kB | apply zd | apply kL)
  repeat (first | apply ke | apply za | apply kB | apply zd | apply kL)
  refine K.draw [pv b2 56 [.int .i64 id, .int .i64 pri, .int .i64 (retry + 1), .bool false, .string corr, .string body]] mixed<|dq 0 rfl (qL ck_56 rfl rfl tC)<|dq 1 rfl (qO fo_56_2 rfl)<|dq 2 rfl (qD ck_3 rfl)<|dq 3 rfl (q_move rfl)<|dq 4 rfl (q_ge rfl rfl)<|dq1N 5 rfl (l_storeN ck_56 rfl rfl rfl (by simp [Value.oneCell']) tP tSN) (.inr (by rintro _ _ ⟨rfl, rfl⟩ w h; exact h.subD)) ?_
  rintro _ _ ⟨rfl, rfl⟩
  refine dq1 6 rfl (OpQ.loud (q_assign rfl)) (.inl tK) ?_
  rintro _ _ ⟨rfl, rfl⟩
  refine D.done tK ?_
  repeat (first | apply ke | apply za | apply kB | apply zd | apply kL)
  refine K.ret (fn := Tryz.f200) func200 (fun a w hk hs => resCT results200 hk rfl ck_56 rfl (cP tM w hs) rfl) (fun w hs => ?_)
  exact ⟨_, [], rfl, ⟨by rw [Msg.tried]; simp only [Msg.cells]; rw [hr], rfl⟩, hs.fitD⟩
 ·replace h : ¬ retry < 1000 := h
  have hr : (if (999 : Int) < retry then (999 : Int) else retry) = 999 := by split <;> omega
  repeat (first | apply ke | apply za | apply kB | apply zd | apply kL)
  refine kr<|kq (qO fo_56_2 rfl)<|kN rfl (lA ck_3 rfl rfl rfl tP tA) ?_
  rintro _ _ ⟨rfl, rfl⟩
  refine zm ?_
  repeat (first | apply ke | apply za | apply kB | apply zd | apply kL)
  repeat (first | apply ke | apply za | apply kB | apply zd | apply kL)
  refine K.draw [pv b2 56 [.int .i64 id, .int .i64 pri, .int .i64 1000, .bool false, .string corr, .string body]] mixed<|dq 0 rfl (qL ck_56 rfl rfl tC)<|dq 1 rfl (qO fo_56_2 rfl)<|dq 2 rfl (qD ck_3 rfl)<|dq 3 rfl (q_move rfl)<|dq 4 rfl (q_ge rfl rfl)<|dq1N 5 rfl (l_storeN ck_56 rfl rfl rfl (by simp [Value.oneCell']) tP tSN) (.inr (by rintro _ _ ⟨rfl, rfl⟩ w h; exact h.subD)) ?_
  rintro _ _ ⟨rfl, rfl⟩
  refine dq1 6 rfl (OpQ.loud (q_assign rfl)) (.inl tK) ?_
  rintro _ _ ⟨rfl, rfl⟩
  refine D.done tK ?_
  repeat (first | apply ke | apply za | apply kB | apply zd | apply kL)
  refine K.ret (fn := Tryz.f200) func200 (fun a w hk hs => resCT results200 hk rfl ck_56 rfl (cP tM w hs) rfl) (fun w hs => ?_)
  exact ⟨_, [], rfl, ⟨by rw [Msg.tried]; simp only [Msg.cells]; rw [hr]; rfl, rfl⟩, hs.fitD⟩
theorem ref_Right (m : Msg) : Fn Tryz.prog 118 [.agg m.cells.toArray].toArray [] (fun v post => v = .bool m.right ∧ post = []) := by
 obtain ⟨id, pri, retry, claimed, corr, body⟩ := m
 refine Fn.enter (N := 43) func118 rfl ntmps118 tK rfl (fun ρ L => ?_)
 repeat (first | apply ke | apply za | apply kB | apply zd | apply kL)
 refine kr<|kl (l_box rfl rfl) ?_
 rintro _ _ ⟨b1, rfl, rfl⟩
 refine ka rfl<|zm ?_
 repeat (first | apply ke | apply za | apply kB | apply zd | apply kL)
 repeat (first | apply ke | apply za | apply kB | apply zd | apply kL)
 refine kr<|kq (qO fo_56_0 rfl)<|kq (qD ck_3 rfl)<|kq (q_ge rfl rfl)<|km rfl ?_
 refine KO.dsplit 6 rfl (fun g6 => ?_) (fun g6 => ?_)
 ·refine kq (qO fo_56_0 rfl)<|kq (qD ck_3 rfl)<|kq (q_le rfl rfl)<|kq (qT rfl rfl)<|km rfl ?_
  refine KO.dsplit 11 rfl (fun g11 => ?_) (fun g11 => ?_)
  ·refine kq (qO fo_56_1 rfl)<|kq (qD ck_3 rfl)<|kq (q_ge rfl rfl)<|kq (qT rfl rfl)<|km rfl ?_
   refine KO.dsplit 16 rfl (fun g16 => ?_) (fun g16 => ?_)
   ·refine kq (qO fo_56_1 rfl)<|kq (qD ck_3 rfl)<|kq (q_le rfl rfl)<|kq (qT rfl rfl)<|km rfl ?_
    refine KO.dsplit 21 rfl (fun g21 => ?_) (fun g21 => ?_)
    ·refine kq (qO fo_56_2 rfl)<|kq (qD ck_3 rfl)<|kq (q_ge rfl rfl)<|kq (qT rfl rfl)<|km rfl ?_
     refine KO.dsplit 26 rfl (fun g26 => ?_) (fun g26 => ?_)
     ·refine kq (qO fo_56_2 rfl)<|kq (qD ck_3 rfl)<|kq (q_le rfl rfl)<|kq (qT rfl rfl)<|km rfl ?_
      refine KO.dsplit 31 rfl (fun g31 => ?_) (fun g31 => ?_)
      ·refine kq (qO fo_56_4 rfl)<|kq (qD ck_9 rfl)<|kq (q_lenS underlying9 rfl)<|kq (q_le rfl rfl)<|kq (qT rfl rfl)<|km rfl ?_
       refine KO.dsplit 37 rfl (fun g37 => ?_) (fun g37 => ?_)
       ·refine kq (qO fo_56_5 rfl)<|kq (qD ck_9 rfl)<|kq (q_lenS underlying9 rfl)<|kq (q_le rfl rfl)<|kq (qT rfl rfl)<|ka rfl<|zm ?_
        repeat (first | apply ke | apply za | apply kB | apply zd | apply kL)
        refine kr1 func118 results118 rfl (fun w hs => ?_)
        exact ⟨_, [], rfl, ⟨by simp [Msg.right, *], rfl⟩, hs.tail⟩
       ·refine zq<|zq<|zq<|zq<|kq (qF rfl rfl)<|ka rfl<|zm ?_
        repeat (first | apply ke | apply za | apply kB | apply zd | apply kL)
        refine kr1 func118 results118 rfl (fun w hs => ?_)
        exact ⟨_, [], rfl, ⟨by simp [Msg.right, *], rfl⟩, hs.tail⟩
      ·refine zq<|zq<|zq<|zq<|kq (qF rfl rfl)<|km rfl<|zq<|zq<|zq<|zq<|kq (qF rfl rfl)<|ka rfl<|zm ?_
       repeat (first | apply ke | apply za | apply kB | apply zd | apply kL)
       refine kr1 func118 results118 rfl (fun w hs => ?_)
       exact ⟨_, [], rfl, ⟨by simp [Msg.right, *], rfl⟩, hs.tail⟩
     ·refine zq<|zq<|zq<|kq (qF rfl rfl)<|km rfl<|zq<|zq<|zq<|zq<|kq (qF rfl rfl)<|km rfl<|zq<|zq<|zq<|zq<|kq (qF rfl rfl)<|ka rfl<|zm ?_
      repeat (first | apply ke | apply za | apply kB | apply zd | apply kL)
      refine kr1 func118 results118 rfl (fun w hs => ?_)
      exact ⟨_, [], rfl, ⟨by simp [Msg.right, *], rfl⟩, hs.tail⟩
    ·refine zq<|zq<|zq<|kq (qF rfl rfl)<|km rfl<|zq<|zq<|zq<|kq (qF rfl rfl)<|km rfl<|zq<|zq<|zq<|zq<|kq (qF rfl rfl)<|km rfl<|zq<|zq<|zq<|zq<|kq (qF rfl rfl)<|ka rfl<|zm ?_
     repeat (first | apply ke | apply za | apply kB | apply zd | apply kL)
     refine kr1 func118 results118 rfl (fun w hs => ?_)
     exact ⟨_, [], rfl, ⟨by simp [Msg.right, *], rfl⟩, hs.tail⟩
   ·refine zq<|zq<|zq<|kq (qF rfl rfl)<|km rfl<|zq<|zq<|zq<|kq (qF rfl rfl)<|km rfl<|zq<|zq<|zq<|kq (qF rfl rfl)<|km rfl<|zq<|zq<|zq<|zq<|kq (qF rfl rfl)<|km rfl<|zq<|zq<|zq<|zq<|kq (qF rfl rfl)<|ka rfl<|zm ?_
    repeat (first | apply ke | apply za | apply kB | apply zd | apply kL)
    refine kr1 func118 results118 rfl (fun w hs => ?_)
    exact ⟨_, [], rfl, ⟨by simp [Msg.right, *], rfl⟩, hs.tail⟩
  ·refine zq<|zq<|zq<|kq (qF rfl rfl)<|km rfl<|zq<|zq<|zq<|kq (qF rfl rfl)<|km rfl<|zq<|zq<|zq<|kq (qF rfl rfl)<|km rfl<|zq<|zq<|zq<|kq (qF rfl rfl)<|km rfl<|zq<|zq<|zq<|zq<|kq (qF rfl rfl)<|km rfl<|zq<|zq<|zq<|zq<|kq (qF rfl rfl)<|ka rfl<|zm ?_
   repeat (first | apply ke | apply za | apply kB | apply zd | apply kL)
   refine kr1 func118 results118 rfl (fun w hs => ?_)
   exact ⟨_, [], rfl, ⟨by simp [Msg.right, *], rfl⟩, hs.tail⟩
 ·refine zq<|zq<|zq<|kq (qF rfl rfl)<|km rfl<|zq<|zq<|zq<|kq (qF rfl rfl)<|km rfl<|zq<|zq<|zq<|kq (qF rfl rfl)<|km rfl<|zq<|zq<|zq<|kq (qF rfl rfl)<|km rfl<|zq<|zq<|zq<|kq (qF rfl rfl)<|km rfl<|zq<|zq<|zq<|zq<|kq (qF rfl rfl)<|km rfl<|zq<|zq<|zq<|zq<|kq (qF rfl rfl)<|ka rfl<|zm ?_
  repeat (first | apply ke | apply za | apply kB | apply zd | apply kL)
  refine kr1 func118 results118 rfl (fun w hs => ?_)
  exact ⟨_, [], rfl, ⟨by simp [Msg.right, *], rfl⟩, hs.tail⟩
end Go.Proofs.YtkbhldicnamcdaaGreat.L
namespace Go.Proofs.YtkbhldicnamcdaaGreat.L
open Go Go.Proofs
attribute [local irreducible] pv fv pt fz RowF RowO rowP old pure_
def Msg.bytes (m : Msg) : List UInt8 := wInt m.id ++ wInt m.pri ++ wInt m.retry ++ wFlag m.claimed ++ wText m.corr ++ wText m.body
def Msg.zero : Msg := ⟨0, 0, 0, false, ⟨#[]⟩, ⟨#[]⟩⟩
def Rd.msgT (s : Rd) : Msg × Rd :=
 let a := s.int; let b := a.2.int; let c := b.2.int; let d := c.2.flag; let e := d.2.text; let f := e.2.text
 (⟨a.1, b.1, c.1, d.1, e.1, f.1⟩, f.2)
def Rd.msg (s : Rd) : Msg × Rd := if s.msgT.2.f then (Msg.zero, s.msgT.2) else s.msgT
def Rd.rmsgT (s : Rd) : Msg × Rd :=
 let a := s.rint; let b := a.2.rint; let c := b.2.rint; let d := c.2.rflag; let e := d.2.rtext; let f := e.2.rtext
 (⟨a.1, b.1, c.1, d.1, e.1, f.1⟩, f.2)
def Rd.rmsg (s : Rd) : Msg × Rd := if s.rmsgT.2.f then (Msg.zero, s.rmsgT.2) else s.rmsgT
theorem msg_Read (p : Nat) (q : Option Addr) (cap : Nat) (s : Rd) (hc : s.bs.length ≤ cap) : Fn Tryz.prog 169 [.pointer (some ⟨p, 0, none⟩)].toArray (RdL p q cap s)
  (fun r post => ∃ q' cap', r = .agg s.msg.1.cells.toArray ∧ post = RdL p q' cap' s.msg.2 ∧ s.msg.2.bs.length ≤ cap') := by
 refine Fn.enter (N := 27) func169 rfl ntmps169 tK rfl (fun ρ L => ?_)
 repeat (first | apply ke | apply za | apply kB | apply zd | apply kL)
 refine kr<|kl (lL zo_56) ?_
 rintro _ _ ⟨b2, rfl, rfl⟩
 refine zm ?_
 repeat (first | apply ke | apply za | apply kB | apply zd | apply kL)
 repeat (first | apply ke | apply za | apply kB | apply zd | apply kL)
 refine kr<|km rfl<|kq (q_pnil underlying170 rfl rfl)<|zm ?_
 repeat (first | apply ke | apply za | apply kB | apply zd | apply kL)
 refine K.no rfl ?_
 repeat (first | apply ke | apply za | apply kB | apply zd | apply kL)
 repeat (first | apply ke | apply za | apply kB | apply zd | apply kL)
 refine kr<|km rfl<|kl (OpL.callE rfl (rd_Int p q cap s hc)) ?_
 rintro _ _ ⟨_, ⟨q1, c1, rfl, rfl, h1⟩, rfl⟩
 refine km rfl<|kl (OpL.callE rfl (rd_Int p q1 c1 _ h1)) ?_
 rintro _ _ ⟨_, ⟨q2, c2, rfl, rfl, h2⟩, rfl⟩
 refine km rfl<|kl (OpL.callE rfl (rd_Int p q2 c2 _ h2)) ?_
 rintro _ _ ⟨_, ⟨q3, c3, rfl, rfl, h3⟩, rfl⟩
 refine kq (q_build st_56 rfl tF)<|kl (lL zo_56) ?_
 rintro _ _ ⟨b3, rfl, rfl⟩
 refine kN rfl (l_storeN ck_56 rfl rfl rfl (by simp [Value.oneCell']) tP tSN) ?_
 rintro _ _ ⟨rfl, rfl⟩
 refine zm ?_
 repeat (first | apply ke | apply za | apply kB | apply zd | apply kL)
 repeat (first | apply ke | apply za | apply kB | apply zd | apply kL)
 refine kr<|km rfl<|kl (OpL.callE rfl (rd_Flag p q3 c3 _ h3)) ?_
 rintro _ _ ⟨_, ⟨q4, c4, rfl, rfl, h4⟩, rfl⟩
 refine kq (qO fo_56_3 rfl)<|kN rfl (lA ck_4 rfl rfl rfl tP tA) ?_
 rintro _ _ ⟨rfl, rfl⟩
 refine zm ?_
 repeat (first | apply ke | apply za | apply kB | apply zd | apply kL)
 repeat (first | apply ke | apply za | apply kB | apply zd | apply kL)
 refine kr<|km rfl<|kl (OpL.callE rfl (rd_Text p q4 c4 _ h4)) ?_
 rintro _ _ ⟨_, ⟨q5, c5, rfl, rfl, h5⟩, rfl⟩
 refine kq (qO fo_56_4 rfl)<|kN rfl (lA ck_9 rfl rfl rfl tP tA) ?_
 rintro _ _ ⟨rfl, rfl⟩
 refine zm ?_
 repeat (first | apply ke | apply za | apply kB | apply zd | apply kL)
 repeat (first | apply ke | apply za | apply kB | apply zd | apply kL)
 refine kr<|km rfl<|kl (OpL.callE rfl (rd_Text p q5 c5 _ h5)) ?_
 rintro _ _ ⟨_, ⟨q6, c6, rfl, rfl, h6⟩, rfl⟩
 refine kq (qO fo_56_5 rfl)<|kN rfl (lA ck_9 rfl rfl rfl tP tA) ?_
 rintro _ _ ⟨rfl, rfl⟩
 refine zm ?_
 repeat (first | apply ke | apply za | apply kB | apply zd | apply kL)
 repeat (first | apply ke | apply za | apply kB | apply zd | apply kL)
 refine kr<|km rfl<|kl (OpL.callE rfl (rd_Failed p q6 c6 _)) ?_
 rintro _ _ ⟨_, ⟨rfl, rfl⟩, rfl⟩
 refine zm ?_
 repeat (first | apply ke | apply za | apply kB | apply zd | apply kL)
 refine K.ite rfl (fun h => ?_) (fun h => ?_)
 ·have e : s.msg = (Msg.zero, s.msgT.2) := if_pos h
  repeat (first | apply ke | apply za | apply kB | apply zd | apply kL)
  refine kr<|kq (q_build st_56 rfl tF)<|kN rfl (l_storeN ck_56 rfl rfl rfl (by simp [Value.oneCell']) tP tSN) ?_
  rintro _ _ ⟨rfl, rfl⟩
  refine zm ?_
  repeat (first | apply ke | apply za | apply kB | apply zd | apply kL)
  refine K.ret (fn := Tryz.f169) func169 (fun a w hk hs => resC results169 hk rfl ck_56 rfl (cP tM w hs)) (fun w hs => ?_)
  exact ⟨_, RdL p q6 c6 s.msgT.2, rfl, ⟨q6, c6, by rw [e]; rfl, by rw [e], by rw [e]; exact h6⟩, hs.fitD⟩
 ·have e : s.msg = s.msgT := if_neg (by rw [show s.msgT.2.f = false from h]; simp)
  repeat (first | apply ke | apply za | apply kB | apply zd | apply kL)
  repeat (first | apply ke | apply za | apply kB | apply zd | apply kL)
  refine kr<|kq (qL ck_56 rfl rfl tC)<|kN rfl (l_storeN ck_56 rfl rfl rfl (by simp [Value.oneCell']) tP tSN) ?_
  rintro _ _ ⟨rfl, rfl⟩
  refine zm ?_
  repeat (first | apply ke | apply za | apply kB | apply zd | apply kL)
  refine K.ret (fn := Tryz.f169) func169 (fun a w hk hs => resC results169 hk rfl ck_56 rfl (cP tM w hs)) (fun w hs => ?_)
  exact ⟨_, RdL p q6 c6 s.msgT.2, rfl, ⟨q6, c6, by rw [e]; rfl, by rw [e], by rw [e]; exact h6⟩, hs.fitD⟩
end Go.Proofs.YtkbhldicnamcdaaGreat.L
namespace Go.Proofs.YtkbhldicnamcdaaGreat.L
open Go Go.Proofs
attribute [local irreducible] pv fv pt fz RowF RowO rowP old pure_
def Msg.beq (a b : Msg) : Bool := (a.id == b.id) && ((a.pri == b.pri) && ((a.retry == b.retry) && ((a.claimed == b.claimed) && ((a.corr == b.corr) && ((a.body == b.body) && true)))))
theorem msg_hp : Tryz.prog.stoodInHeld 56 = false := by kernel_rfl
theorem msg_hg : Tryz.prog.eqGuardType Tryz.prog.depth 56 = false := by kernel_rfl
theorem msg_eqF (a b : Msg) {fs : Array Field} (h : Tryz.prog.underlying 56 = some (.struct fs)) : EqF Tryz.prog a.cells b.cells fs.toList (a.beq b) := by
 rw [underlying56] at h
 cases h
 exact .cons rfl ck_3 rfl rfl (.int underlying3) (.cons rfl ck_3 rfl rfl (.int underlying3) (.cons rfl ck_3 rfl rfl (.int underlying3) (.cons rfl ck_4 rfl rfl (.bool underlying4) (.cons rfl ck_9 rfl rfl (.str underlying9) (.cons rfl ck_9 rfl rfl (.str underlying9) .nil)))))
theorem Alike.msgT {s t : Rd} (h : Alike s t) : Alike s.msgT.2 t.rmsgT.2 ∧ s.msgT.1 = t.rmsgT.1 := by
 have h1 := h.int
 have h2 := h1.1.int
 have h3 := h2.1.int
 have h4 := h3.1.flag
 have h5 := h4.1.text
 have h6 := h5.1.text
 unfold Rd.msgT Rd.rmsgT
 refine ⟨h6.1, ?_⟩
 show Msg.mk _ _ _ _ _ _ = Msg.mk _ _ _ _ _ _
 rw [h1.2, h2.2, h3.2, h4.2, h5.2, h6.2]
theorem Alike.msg {s t : Rd} (h : Alike s t) : Alike s.msg.2 t.rmsg.2 ∧ s.msg.1 = t.rmsg.1 := by
 have h1 := h.msgT
 unfold Rd.msg Rd.rmsg
 rw [← h1.1.1]
 by_cases hf : s.msgT.2.f = true
 ·rw [if_pos hf, if_pos hf]; exact ⟨h1.1, rfl⟩
 ·rw [if_neg hf, if_neg hf]; exact h1
end Go.Proofs.YtkbhldicnamcdaaGreat.L
namespace Go.Proofs.YtkbhldicnamcdaaGreat.L
open Go Go.RowKit Go.ChangeShapes
def Msg.fits (x : Msg) : Prop := (-9223372036854775808 ≤ x.id ∧ x.id ≤ 9223372036854775807) ∧ (-9223372036854775808 ≤ x.pri ∧ x.pri ≤ 9223372036854775807) ∧ (-9223372036854775808 ≤ x.retry ∧ x.retry ≤ 9223372036854775807) ∧ True ∧ (x.corr.size : Int) ≤ 9223372036854775807 ∧ (x.body.size : Int) ≤ 9223372036854775807
theorem msg_len (cs : List Value) (h : cs.length = 6) : ∃ v0 v1 v2 v3 v4 v5, cs = [v0, v1, v2, v3, v4, v5] := by
 match cs, h with
 | [v0, v1, v2, v3, v4, v5], _ => exact ⟨v0, v1, v2, v3, v4, v5, rfl⟩
theorem opens_msg {H : Type} {enc : TypeId × Value → H} {W : World} : Opens enc Tryz.prog W Kd.msg 56 Msg.fits := fun fuel cs y h => by
 obtain ⟨hl, n, hf⟩ := opens_fields underlying56 h
 have hl2 : cs.length = 6 := hl.trans tK
 obtain ⟨v0, v1, v2, v3, v4, v5, rfl⟩ := msg_len cs hl2
 have cb : Tryz.prog.cellsOf 4 = 1 := by kernel_rfl
 have ci : Tryz.prog.cellsOf 3 = 1 := by kernel_rfl
 have cs : Tryz.prog.cellsOf 9 = 1 := by kernel_rfl
 obtain ⟨y0, h0⟩ := hf 0 _ rfl
 replace h0 : DataW.trod enc Tryz.prog W 0 (fun _ => true) true n 3 (([v0, v1, v2, v3, v4, v5].drop 0).take (Tryz.prog.cellsOf 3)) = some y0 := h0
 rw [ci] at h0
 obtain ⟨x0, e0, b0⟩ := opens_int underlying3 _ _ _ h0
 have u0 : v0 = Value.int .i64 x0 := (List.cons.inj (show [v0] = [Value.int .i64 x0] from e0)).1
 obtain ⟨y1, h1⟩ := hf 1 _ rfl
 replace h1 : DataW.trod enc Tryz.prog W 0 (fun _ => true) true n 3 (([v0, v1, v2, v3, v4, v5].drop 1).take (Tryz.prog.cellsOf 3)) = some y1 := h1
 rw [ci] at h1
 obtain ⟨x1, e1, b1⟩ := opens_int underlying3 _ _ _ h1
 have u1 : v1 = Value.int .i64 x1 := (List.cons.inj (show [v1] = [Value.int .i64 x1] from e1)).1
 obtain ⟨y2, h2⟩ := hf 2 _ rfl
 replace h2 : DataW.trod enc Tryz.prog W 0 (fun _ => true) true n 3 (([v0, v1, v2, v3, v4, v5].drop 2).take (Tryz.prog.cellsOf 3)) = some y2 := h2
 rw [ci] at h2
 obtain ⟨x2, e2, b2⟩ := opens_int underlying3 _ _ _ h2
 have u2 : v2 = Value.int .i64 x2 := (List.cons.inj (show [v2] = [Value.int .i64 x2] from e2)).1
 obtain ⟨y3, h3⟩ := hf 3 _ rfl
 replace h3 : DataW.trod enc Tryz.prog W 0 (fun _ => true) true n 4 (([v0, v1, v2, v3, v4, v5].drop 3).take (Tryz.prog.cellsOf 4)) = some y3 := h3
 rw [cb] at h3
 obtain ⟨x3, e3, b3⟩ := opens_bool underlying4 _ _ _ h3
 have u3 : v3 = Value.bool x3 := (List.cons.inj (show [v3] = [Value.bool x3] from e3)).1
 obtain ⟨y4, h4⟩ := hf 4 _ rfl
 replace h4 : DataW.trod enc Tryz.prog W 0 (fun _ => true) true n 9 (([v0, v1, v2, v3, v4, v5].drop 4).take (Tryz.prog.cellsOf 9)) = some y4 := h4
 rw [cs] at h4
 obtain ⟨x4, e4, b4⟩ := opens_str underlying9 _ _ _ h4
 have u4 : v4 = Value.string x4 := (List.cons.inj (show [v4] = [Value.string x4] from e4)).1
 obtain ⟨y5, h5⟩ := hf 5 _ rfl
 replace h5 : DataW.trod enc Tryz.prog W 0 (fun _ => true) true n 9 (([v0, v1, v2, v3, v4, v5].drop 5).take (Tryz.prog.cellsOf 9)) = some y5 := h5
 rw [cs] at h5
 obtain ⟨x5, e5, b5⟩ := opens_str underlying9 _ _ _ h5
 have u5 : v5 = Value.string x5 := (List.cons.inj (show [v5] = [Value.string x5] from e5)).1
 subst u0 u1 u2 u3 u4 u5
 exact ⟨⟨x0, x1, x2, x3, x4, x5⟩, rfl, b0, b1, b2, b3, b4, b5⟩
end Go.Proofs.YtkbhldicnamcdaaGreat.L
namespace Go.Proofs.YtkbhldicnamcdaaGreat.L
open Go Go.Proofs
attribute [local irreducible] pv fv pt fz RowF RowO rowP old pure_ elA
open Go.RowKit Go.ChangeShapes
theorem msg_sz (x : Msg) : x.cells.length = 6 := rfl
theorem msg_ext {a b : Msg} : a = b ↔ a.id = b.id ∧ a.pri = b.pri ∧ a.retry = b.retry ∧ a.claimed = b.claimed ∧ a.corr = b.corr ∧ a.body = b.body := by cases a; cases b; simp
instance : DecidableEq Msg := fun _ _ => decidable_of_iff _ msg_ext.symm
theorem msg_beqD (a b : Msg) : a.beq b = decide (a = b) := by rw [Bool.eq_iff_iff, decide_eq_true_iff, msg_ext]; simp [Msg.beq, bbeq]
theorem msg_eqD (a b : Msg) {fs : Array Field} (h : Tryz.prog.underlying 56 = some (.struct fs)) : EqG Tryz.prog a.cells b.cells fs.toList (decide (a = b)) := by
 rw [underlying56] at h
 cases h
 have e : ((a.id == b.id) && ((a.pri == b.pri) && ((a.retry == b.retry) && ((a.claimed == b.claimed) && ((a.corr == b.corr) && ((a.body == b.body) && true)))))) = decide (a = b) := by rw [Bool.eq_iff_iff, decide_eq_true_iff, msg_ext]; simp [bbeq]
 rw [← e]
 exact (.cons rfl ck_3 rfl rfl (.int underlying3) (.cons rfl ck_3 rfl rfl (.int underlying3) (.cons rfl ck_3 rfl rfl (.int underlying3) (.cons rfl ck_4 rfl rfl (.bool underlying4) (.cons rfl ck_9 rfl rfl (.str underlying9) (.cons rfl ck_9 rfl rfl (.str underlying9) .nil))))))
structure Rw where
 key : ByteArray
 value : ByteArray
def Rw.cells (x : Rw) : List Value := [.string x.key, .string x.value]
theorem rw_sz (x : Rw) : x.cells.length = 2 := rfl
theorem rw_one (x : Rw) : ∀ v ∈ x.cells, v.oneCell' = true := fun v h => by simp [Rw.cells] at h; rcases h with rfl | rfl <;> rfl
def Kd.rw : Kd Rw := Kd.flat 2 Rw.cells rw_sz rw_one
theorem q_as_rw {X : Fx} {o : Oper} {E : Env} {L : List HP} {cs : List Value} {key_ : ByteArray} {value_ : ByteArray} (h : OpQ X o E L (.agg cs.toArray)) (e : cs = [.string key_, .string value_]) : OpQ X o E L (.agg (Rw.cells ⟨key_, value_⟩).toArray) := q_as h e
theorem rw_ext {a b : Rw} : a = b ↔ a.key = b.key ∧ a.value = b.value := by cases a; cases b; simp
instance : DecidableEq Rw := fun _ _ => decidable_of_iff _ rw_ext.symm
theorem rw_hp : Tryz.prog.stoodInHeld 136 = false := by kernel_rfl
theorem rw_hg : Tryz.prog.eqGuardType Tryz.prog.depth 136 = false := by kernel_rfl
theorem rw_eqD (a b : Rw) {fs : Array Field} (h : Tryz.prog.underlying 136 = some (.struct fs)) : EqG Tryz.prog a.cells b.cells fs.toList (decide (a = b)) := by
 rw [underlying136] at h
 cases h
 have e : ((a.key == b.key) && ((a.value == b.value) && true)) = decide (a = b) := by rw [Bool.eq_iff_iff, decide_eq_true_iff, rw_ext]; simp [bbeq]
 rw [← e]
 exact (.cons rfl ck_9 rfl rfl (.str underlying9) (.cons rfl ck_9 rfl rfl (.str underlying9) .nil))
def Rw.beq (a b : Rw) : Bool := (a.key == b.key) && ((a.value == b.value) && true)
def Rw.fits (x : Rw) : Prop := (x.key.size : Int) ≤ 9223372036854775807 ∧ (x.value.size : Int) ≤ 9223372036854775807
end Go.Proofs.YtkbhldicnamcdaaGreat.L
namespace Go.Proofs.YtkbhldicnamcdaaGreat.L
open Go Go.Proofs
attribute [local irreducible] pv fv pt fz RowF RowO rowP old pure_ elA
theorem wr_TextA (p : Nat) (q : Option Addr) (cap : Nat) (xs : List UInt8) (s : ByteArray) (hb : xs.length ≤ 549755813888) : Fn Tryz.prog 100 [.pointer (some ⟨p, 0, none⟩), .string s].toArray (WrL p q cap xs)
  (fun r post => ∃ q' cap', r = .tuple #[] ∧ post = WrL p q' cap' (xs ++ wText s)) := by
 have hmin : (if (65535 : Int) < (s.size : Int) then (65535 : Int) else (s.size : Int)) = ((min s.size 65535 : Nat) : Int) := by split <;> omega
 refine Fn.enter (N := 23) func100 rfl ntmps100 tK rfl (fun ρ L => ?_)
 repeat (first | apply ke | apply za | apply kB | apply zd | apply kL)
 refine kr<|km rfl<|km rfl<|kq (q_lenS underlying9 rfl)<|kq (q_min rfl rfl) ?_
 rw [hmin]
 refine kq (q_scutH underlying9 rfl rfl tN tN)<|ka rfl<|zm ?_
 repeat (first | apply ke | apply za | apply kB | apply zd | apply kL)
 have hsz : (s.extract 0 ((min s.size 65535 : Nat) : Int).toNat).size = min s.size 65535 := by simp <;> omega
 repeat (first | apply ke | apply za | apply kB | apply zd | apply kL)
 refine kr<|km rfl<|km rfl<|kq (q_lenS underlying9 rfl)<|kq (q_conv underlying89 (by rw [underlying3]; rfl) rfl (wrap_u64 tO (by rw [hsz]; omega)))<|kl (OpL.callE rfl (wr_number p q cap xs _ 2 tO tD tD tO)) ?_
 rintro _ _ ⟨_, ⟨q', cap', rfl, rfl⟩, rfl⟩
 refine zm ?_
 repeat (first | apply ke | apply za | apply kB | apply zd | apply kL)
 have hl2 := leb_length ((s.extract 0 ((min s.size 65535 : Nat) : Int).toNat).size : Int) 2
 repeat (first | apply ke | apply za | apply kB | apply zd | apply kL)
 refine kr<|km rfl<|km rfl<|kq (qN rfl)<|kq (qO fo_150_0 rfl)<|kq (qD ck_23 rfl)<|km rfl<|kl (l_appendS se_23 underlying9 ⟨_, ze_5, rfl⟩ tD rfl rfl (Pick.there Pick.here) rfl (by rw [hsz]; simp [leb_length]; omega)) ?_
 rintro _ _ ⟨q'', cap'', rfl, rfl⟩
 refine kq (qN rfl)<|kq (qO fo_150_0 rfl)<|kN rfl (lA ck_23 rfl rfl rfl tP tA) ?_
 rintro _ _ ⟨rfl, rfl⟩
 refine zm ?_
 repeat (first | apply ke | apply za | apply kB | apply zd | apply kL)
 refine K.fin (fn := Tryz.f100) func100 (fun a w hk hs => res0 results100) (fun w hs => ?_)
 have e : xs ++ leb ((s.extract 0 ((min s.size 65535 : Nat) : Int).toNat).size : Int) (2 : Int).toNat ++ bytesOf (s.extract 0 ((min s.size 65535 : Nat) : Int).toNat) = xs ++ wText s := by
  unfold wText
  rw [hsz, List.append_assoc]
  show xs ++ (leb _ 2 ++ _) = _
  congr 2
  have h1 : bytesOf (s.extract 0 ((min s.size 65535 : Nat) : Int).toNat) = (bytesOf s).take (min s.size 65535) := by
   simp [bytesOf]
  rw [h1]
  by_cases h : s.size ≤ 65535
  ·rw [Nat.min_eq_left h, List.take_of_length_le (by simp [bytesOf]), List.take_of_length_le (by simp [bytesOf]; exact h)]
  ·rw [Nat.min_eq_right tO]
 rw [e] at hs
 exact ⟨_, WrL p q'' cap'' (xs ++ wText s), rfl, ⟨q'', cap'', rfl, rfl⟩, hs.fitD⟩
theorem Msg.bytes_length (m : Msg) : m.bytes.length ≤ 131100 := by
 unfold Msg.bytes
 simp only [List.length_append, wI, wF, wT]
 omega
theorem msg_WriteA (p : Nat) (q : Option Addr) (cap : Nat) (xs : List UInt8) (m : Msg) (hb : xs.length ≤ 137438953472) : Fn Tryz.prog 102 [.pointer (some ⟨p, 0, none⟩), .agg m.cells.toArray].toArray (WrL p q cap xs)
  (fun r post => ∃ q' cap', r = .tuple #[] ∧ post = WrL p q' cap' (xs ++ m.bytes)) := by
 refine Fn.enter (N := 28) func102 rfl ntmps102 tK rfl (fun ρ L => ?_)
 refine ky<|kl (l_box rfl rfl) ?_
 rintro _ _ ⟨b3, rfl, rfl⟩
 refine kz<|km rfl<|kq (qO fo_56_0 rfl)<|kq (qD ck_3 rfl) ?_
 refine kl (kc rfl (h := wr_Int _ _ _ _ _ (by first | omega | (simp [wI, wF, wT]; omega)))) ?_
 rintro _ _ ⟨_, ⟨q1, c1, rfl, rfl⟩, rfl⟩
 refine kz<|km rfl<|kq (qO fo_56_1 rfl)<|kq (qD ck_3 rfl) ?_
 refine kl (kc rfl (h := wr_Int _ _ _ _ _ (by first | omega | (simp [wI, wF, wT]; omega)))) ?_
 rintro _ _ ⟨_, ⟨q2, c2, rfl, rfl⟩, rfl⟩
 refine kz<|km rfl<|kq (qO fo_56_2 rfl)<|kq (qD ck_3 rfl) ?_
 refine kl (kc rfl (h := wr_Int _ _ _ _ _ (by first | omega | (simp [wI, wF, wT]; omega)))) ?_
 rintro _ _ ⟨_, ⟨q3, c3, rfl, rfl⟩, rfl⟩
 refine kz<|km rfl<|kq (qO fo_56_3 rfl)<|kq (qD ck_4 rfl) ?_
 refine kl (kc rfl (h := wr_Flag _ _ _ _ _ (by first | omega | (simp [wI, wF, wT]; omega)))) ?_
 rintro _ _ ⟨_, ⟨q4, c4, rfl, rfl⟩, rfl⟩
 refine kz<|km rfl<|kq (qO fo_56_4 rfl)<|kq (qD ck_9 rfl) ?_
 refine kl (kc rfl (h := wr_TextA _ _ _ _ _ (by first | omega | (simp [wI, wF, wT]; omega)))) ?_
 rintro _ _ ⟨_, ⟨q5, c5, rfl, rfl⟩, rfl⟩
 refine zm<|kr<|km rfl<|kq (qO fo_56_5 rfl)<|kq (qD ck_9 rfl) ?_
 refine kl (kc rfl (h := wr_TextA _ _ _ _ _ (by first | omega | (simp [wI, wF, wT]; omega)))) ?_
 rintro _ _ ⟨_, ⟨q6, c6, rfl, rfl⟩, rfl⟩
 refine zm ?_
 refine K.fin (fn := Tryz.f102) func102 (fun a w hk hs => res0 results102) (fun w hs => ?_)
 refine ⟨_, WrL p q6 c6 (xs ++ m.bytes), rfl, ⟨q6, c6, rfl, rfl⟩, ?_⟩
 have e : xs ++ wInt m.id ++ wInt m.pri ++ wInt m.retry ++ wFlag m.claimed ++ wText m.corr ++ wText m.body = xs ++ m.bytes := by simp [Msg.bytes]
 rw [e] at hs
 exact hs.fitD
end Go.Proofs.YtkbhldicnamcdaaGreat.L
namespace Go.Proofs.YtkbhldicnamcdaaGreat.L
open Go Go.Proofs
attribute [local irreducible] pv fv pt fz RowF RowO rowP old pure_ elA
open Go.RowKit Go.ChangeShapes
structure Eff where
 kind : Int
 object : ByteArray
 key : ByteArray
 value : ByteArray
 n : Int
 limit : Int
 tried : Bool
 msg : Msg
def Eff.cells (x : Eff) : List Value := [.int .i64 x.kind, .string x.object, .string x.key, .string x.value, .int .i64 x.n, .int .i64 x.limit, .bool x.tried, .int .i64 x.msg.id, .int .i64 x.msg.pri, .int .i64 x.msg.retry, .bool x.msg.claimed, .string x.msg.corr, .string x.msg.body]
theorem eff_sz (x : Eff) : x.cells.length = 13 := rfl
theorem eff_one (x : Eff) : ∀ v ∈ x.cells, v.oneCell' = true := fun v h => by simp [Eff.cells] at h; rcases h with rfl | rfl | rfl | rfl | rfl | rfl | rfl | rfl | rfl | rfl | rfl | rfl | rfl <;> rfl
def Kd.eff : Kd Eff := Kd.flat 13 Eff.cells eff_sz eff_one
theorem q_as_eff {X : Fx} {o : Oper} {E : Env} {L : List HP} {cs : List Value} {kind_ : Int} {object_ : ByteArray} {key_ : ByteArray} {value_ : ByteArray} {n_ : Int} {limit_ : Int} {tried_ : Bool} {msg_id : Int} {msg_pri : Int} {msg_retry : Int} {msg_claimed : Bool} {msg_corr : ByteArray} {msg_body : ByteArray} (h : OpQ X o E L (.agg cs.toArray)) (e : cs = [.int .i64 kind_, .string object_, .string key_, .string value_, .int .i64 n_, .int .i64 limit_, .bool tried_, .int .i64 msg_id, .int .i64 msg_pri, .int .i64 msg_retry, .bool msg_claimed, .string msg_corr, .string msg_body]) : OpQ X o E L (.agg (Eff.cells ⟨kind_, object_, key_, value_, n_, limit_, tried_, ⟨msg_id, msg_pri, msg_retry, msg_claimed, msg_corr, msg_body⟩⟩).toArray) := q_as h e
theorem sub_eff_msg : SubAt Eff.cells 7 Eff.msg Msg.cells := fun x => ⟨(x.cells.drop 13), rfl⟩
theorem eff_ext {a b : Eff} : a = b ↔ a.kind = b.kind ∧ a.object = b.object ∧ a.key = b.key ∧ a.value = b.value ∧ a.n = b.n ∧ a.limit = b.limit ∧ a.tried = b.tried ∧ a.msg = b.msg := by cases a; cases b; simp
instance : DecidableEq Eff := fun _ _ => decidable_of_iff _ eff_ext.symm
theorem eff_hp : Tryz.prog.stoodInHeld 58 = false := by kernel_rfl
theorem eff_hg : Tryz.prog.eqGuardType Tryz.prog.depth 58 = false := by kernel_rfl
theorem eff_eqD (a b : Eff) {fs : Array Field} (h : Tryz.prog.underlying 58 = some (.struct fs)) : EqG Tryz.prog a.cells b.cells fs.toList (decide (a = b)) := by
 rw [underlying58] at h
 cases h
 have e : ((a.kind == b.kind) && ((a.object == b.object) && ((a.key == b.key) && ((a.value == b.value) && ((a.n == b.n) && ((a.limit == b.limit) && ((a.tried == b.tried) && (a.msg.beq b.msg && true)))))))) = decide (a = b) := by rw [Bool.eq_iff_iff, decide_eq_true_iff, eff_ext]; simp [bbeq, msg_beqD]
 rw [← e]
 exact (.cons rfl ck_3 rfl rfl (.int underlying3) (.cons rfl ck_9 rfl rfl (.str underlying9) (.cons rfl ck_9 rfl rfl (.str underlying9) (.cons rfl ck_9 rfl rfl (.str underlying9) (.cons rfl ck_3 rfl rfl (.int underlying3) (.cons rfl ck_3 rfl rfl (.int underlying3) (.cons rfl ck_4 rfl rfl (.bool underlying4) (.sub rfl ck_56 rfl rfl underlying56 msg_hp (msg_eqF a.msg b.msg underlying56) .nil))))))))
def Eff.fits (x : Eff) : Prop := (-9223372036854775808 ≤ x.kind ∧ x.kind ≤ 9223372036854775807) ∧ (x.object.size : Int) ≤ 9223372036854775807 ∧ (x.key.size : Int) ≤ 9223372036854775807 ∧ (x.value.size : Int) ≤ 9223372036854775807 ∧ (-9223372036854775808 ≤ x.n ∧ x.n ≤ 9223372036854775807) ∧ (-9223372036854775808 ≤ x.limit ∧ x.limit ≤ 9223372036854775807) ∧ True ∧ x.msg.fits
theorem eff_len (cs : List Value) (h : cs.length = 13) : ∃ v0 v1 v2 v3 v4 v5 v6 v7 v8 v9 v10 v11 v12, cs = [v0, v1, v2, v3, v4, v5, v6, v7, v8, v9, v10, v11, v12] := by
 match cs, h with
 | [v0, v1, v2, v3, v4, v5, v6, v7, v8, v9, v10, v11, v12], _ => exact ⟨v0, v1, v2, v3, v4, v5, v6, v7, v8, v9, v10, v11, v12, rfl⟩
theorem opens_eff {H : Type} {enc : TypeId × Value → H} {W : World} : Opens enc Tryz.prog W Kd.eff 58 Eff.fits := fun fuel cs y h => by
 obtain ⟨hl, n, hf⟩ := opens_fields underlying58 h
 have hl2 : cs.length = 13 := hl.trans tK
 obtain ⟨v0, v1, v2, v3, v4, v5, v6, v7, v8, v9, v10, v11, v12, rfl⟩ := eff_len cs hl2
 have capi_Msg : Tryz.prog.cellsOf 56 = 6 := by kernel_rfl
 have cbool : Tryz.prog.cellsOf 4 = 1 := by kernel_rfl
 have cint : Tryz.prog.cellsOf 3 = 1 := by kernel_rfl
 have cstring : Tryz.prog.cellsOf 9 = 1 := by kernel_rfl
 obtain ⟨y0, h0⟩ := hf 0 _ rfl
 replace h0 : DataW.trod enc Tryz.prog W 0 (fun _ => true) true n 3 (([v0, v1, v2, v3, v4, v5, v6, v7, v8, v9, v10, v11, v12].drop 0).take (Tryz.prog.cellsOf 3)) = some y0 := h0
 rw [cint] at h0
 obtain ⟨x0, e0, b0⟩ := opens_int underlying3 _ _ _ h0
 have u0 : v0 = Value.int .i64 x0 := (List.cons.inj (show [v0] = [Value.int .i64 x0] from e0)).1
 obtain ⟨y1, h1⟩ := hf 1 _ rfl
 replace h1 : DataW.trod enc Tryz.prog W 0 (fun _ => true) true n 9 (([v0, v1, v2, v3, v4, v5, v6, v7, v8, v9, v10, v11, v12].drop 1).take (Tryz.prog.cellsOf 9)) = some y1 := h1
 rw [cstring] at h1
 obtain ⟨x1, e1, b1⟩ := opens_str underlying9 _ _ _ h1
 have u1 : v1 = Value.string x1 := (List.cons.inj (show [v1] = [Value.string x1] from e1)).1
 obtain ⟨y2, h2⟩ := hf 2 _ rfl
 replace h2 : DataW.trod enc Tryz.prog W 0 (fun _ => true) true n 9 (([v0, v1, v2, v3, v4, v5, v6, v7, v8, v9, v10, v11, v12].drop 2).take (Tryz.prog.cellsOf 9)) = some y2 := h2
 rw [cstring] at h2
 obtain ⟨x2, e2, b2⟩ := opens_str underlying9 _ _ _ h2
 have u2 : v2 = Value.string x2 := (List.cons.inj (show [v2] = [Value.string x2] from e2)).1
 obtain ⟨y3, h3⟩ := hf 3 _ rfl
 replace h3 : DataW.trod enc Tryz.prog W 0 (fun _ => true) true n 9 (([v0, v1, v2, v3, v4, v5, v6, v7, v8, v9, v10, v11, v12].drop 3).take (Tryz.prog.cellsOf 9)) = some y3 := h3
 rw [cstring] at h3
 obtain ⟨x3, e3, b3⟩ := opens_str underlying9 _ _ _ h3
 have u3 : v3 = Value.string x3 := (List.cons.inj (show [v3] = [Value.string x3] from e3)).1
 obtain ⟨y4, h4⟩ := hf 4 _ rfl
 replace h4 : DataW.trod enc Tryz.prog W 0 (fun _ => true) true n 3 (([v0, v1, v2, v3, v4, v5, v6, v7, v8, v9, v10, v11, v12].drop 4).take (Tryz.prog.cellsOf 3)) = some y4 := h4
 rw [cint] at h4
 obtain ⟨x4, e4, b4⟩ := opens_int underlying3 _ _ _ h4
 have u4 : v4 = Value.int .i64 x4 := (List.cons.inj (show [v4] = [Value.int .i64 x4] from e4)).1
 obtain ⟨y5, h5⟩ := hf 5 _ rfl
 replace h5 : DataW.trod enc Tryz.prog W 0 (fun _ => true) true n 3 (([v0, v1, v2, v3, v4, v5, v6, v7, v8, v9, v10, v11, v12].drop 5).take (Tryz.prog.cellsOf 3)) = some y5 := h5
 rw [cint] at h5
 obtain ⟨x5, e5, b5⟩ := opens_int underlying3 _ _ _ h5
 have u5 : v5 = Value.int .i64 x5 := (List.cons.inj (show [v5] = [Value.int .i64 x5] from e5)).1
 obtain ⟨y6, h6⟩ := hf 6 _ rfl
 replace h6 : DataW.trod enc Tryz.prog W 0 (fun _ => true) true n 4 (([v0, v1, v2, v3, v4, v5, v6, v7, v8, v9, v10, v11, v12].drop 6).take (Tryz.prog.cellsOf 4)) = some y6 := h6
 rw [cbool] at h6
 obtain ⟨x6, e6, b6⟩ := opens_bool underlying4 _ _ _ h6
 have u6 : v6 = Value.bool x6 := (List.cons.inj (show [v6] = [Value.bool x6] from e6)).1
 obtain ⟨y7, h7⟩ := hf 7 _ rfl
 replace h7 : DataW.trod enc Tryz.prog W 0 (fun _ => true) true n 56 (([v0, v1, v2, v3, v4, v5, v6, v7, v8, v9, v10, v11, v12].drop 7).take (Tryz.prog.cellsOf 56)) = some y7 := h7
 rw [capi_Msg] at h7
 obtain ⟨x7, e7, b7⟩ := opens_msg _ _ _ h7
 have u7 : [v7, v8, v9, v10, v11, v12] = x7.cells := e7
 refine ⟨⟨x0, x1, x2, x3, x4, x5, x6, x7⟩, ?_, b0, b1, b2, b3, b4, b5, b6, b7⟩
 show [v0, v1, v2, v3, v4, v5, v6, v7, v8, v9, v10, v11, v12] = Eff.cells _
 simp only [Eff.cells]
 simp only [Msg.cells, List.cons.injEq, and_true] at u7
 obtain ⟨w7_0, w7_1, w7_2, w7_3, w7_4, w7_5⟩ := u7
 subst w7_0 w7_1 w7_2 w7_3 w7_4 w7_5
 subst u0 u1 u2 u3 u4 u5 u6
 rfl
end Go.Proofs.YtkbhldicnamcdaaGreat.L
namespace Go.Proofs.YtkbhldicnamcdaaGreat.L
open Go Go.Proofs
attribute [local irreducible] pv fv pt fz RowF RowO rowP old pure_ elA
def effName (s : ByteArray) : Bool := decide (1 ≤ (s.size : Int)) && decide ((s.size : Int) ≤ 16)
def effKind (k l : Int) : Bool := if k = 1 then decide (l = 0) else if k = 2 then decide (1 ≤ l) && decide (l ≤ 1000) else false
def effId (n : Int) : Bool := decide (1 ≤ n) && decide (n ≤ 1099511627776)
def rwKey (k : ByteArray) : Bool := decide (1 ≤ (k.size : Int)) && decide ((k.size : Int) ≤ 40)
def Rw.right (r : Rw) : Bool := rwKey r.key && decide ((r.value.size : Int) ≤ 100)
def Eff.named (e : Eff) : Eff :=
 let z : Eff := ⟨e.kind, e.object, ⟨#[]⟩, ⟨#[]⟩, 0, 0, false, ⟨0, 0, 0, false, ⟨#[]⟩, ⟨#[]⟩⟩⟩
 if e.kind = 1 then { z with n := e.n, limit := e.limit }
 else if e.kind = 2 then { z with key := e.key, value := e.value }
 else if e.kind = 3 then { z with key := e.key }
 else if e.kind = 4 then { z with msg := e.msg }
 else if e.kind = 5 ∨ e.kind = 6 then { z with n := e.n }
 else if e.kind = 7 then { z with n := e.n, tried := e.tried }
 else if e.kind = 8 then { z with object := ⟨#[]⟩, n := e.n }
 else z
def Eff.rightK (e : Eff) : Bool :=
 if e.kind = 1 then effName e.object && effKind e.n e.limit
 else if e.kind = 2 then effName e.object && Rw.right ⟨e.key, e.value⟩
 else if e.kind = 3 then effName e.object && rwKey e.key
 else if e.kind = 4 then effName e.object && e.msg.right
 else if e.kind = 5 ∨ e.kind = 6 ∨ e.kind = 7 then effName e.object && effId e.n
 else if e.kind = 8 then effId e.n
 else false
def Eff.right (e : Eff) : Bool := decide (e = e.named) && e.rightK
theorem eff_Name (s : ByteArray) : Fn Tryz.prog 172 [.string s].toArray [] (fun v post => v = .bool (effName s) ∧ post = []) := by
 refine Fn.enter (N := 11) func172 rfl ntmps172 tK rfl (fun ρ L => ?_)
 refine ky<|ka rfl<|kz<|km rfl<|kq (q_lenS underlying9 rfl)<|kq (q_ge rfl rfl)<|km rfl ?_
 refine KO.dsplit 6 rfl (fun g6 => ?_) (fun g6 => ?_)
 ·refine km rfl<|kq (q_lenS underlying9 rfl)<|kq (q_le rfl rfl)<|kq (qT rfl rfl)<|ka rfl<|zm ?_
  refine kr1 func172 results172 rfl (fun w hs => ?_)
  exact ⟨_, [], rfl, ⟨by simp [effName, *], rfl⟩, hs⟩
 ·refine zq<|zq<|zq<|kq (qF rfl rfl)<|ka rfl<|zm ?_
  refine kr1 func172 results172 rfl (fun w hs => ?_)
  exact ⟨_, [], rfl, ⟨by simp [effName, *], rfl⟩, hs⟩
theorem ref_name (s : ByteArray) : Fn Tryz.prog 109 [.string s].toArray [] (fun v post => v = .bool (effName s) ∧ post = []) := by
 refine Fn.enter (N := 11) func109 rfl ntmps109 tK rfl (fun ρ L => ?_)
 refine ky<|ka rfl<|kz<|km rfl<|kq (q_lenS underlying9 rfl)<|kq (q_ge rfl rfl)<|km rfl ?_
 refine KO.dsplit 6 rfl (fun g6 => ?_) (fun g6 => ?_)
 ·refine km rfl<|kq (q_lenS underlying9 rfl)<|kq (q_le rfl rfl)<|kq (qT rfl rfl)<|ka rfl<|zm ?_
  refine kr1 func109 results109 rfl (fun w hs => ?_)
  exact ⟨_, [], rfl, ⟨by simp [effName, *], rfl⟩, hs⟩
 ·refine zq<|zq<|zq<|kq (qF rfl rfl)<|ka rfl<|zm ?_
  refine kr1 func109 results109 rfl (fun w hs => ?_)
  exact ⟨_, [], rfl, ⟨by simp [effName, *], rfl⟩, hs⟩
theorem eff_id (n : Int) : Fn Tryz.prog 176 [.int .i64 n].toArray [] (fun v post => v = .bool (effId n) ∧ post = []) := by
 refine Fn.enter (N := 9) func176 rfl ntmps176 tK rfl (fun ρ L => ?_)
 refine ky<|ka rfl<|kz<|km rfl<|kq (q_ge rfl rfl)<|km rfl ?_
 refine KO.dsplit 5 rfl (fun g5 => ?_) (fun g5 => ?_)
 ·refine km rfl<|kq (q_le rfl rfl)<|kq (qT rfl rfl)<|ka rfl<|zm ?_
  refine kr1 func176 results176 rfl (fun w hs => ?_)
  exact ⟨_, [], rfl, ⟨by simp [effId, *], rfl⟩, hs⟩
 ·refine zq<|zq<|kq (qF rfl rfl)<|ka rfl<|zm ?_
  refine kr1 func176 results176 rfl (fun w hs => ?_)
  exact ⟨_, [], rfl, ⟨by simp [effId, *], rfl⟩, hs⟩
theorem eff_Object (s : ByteArray) (k l : Int) : Fn Tryz.prog 171 [.string s, .int .i64 k, .int .i64 l].toArray [] (fun v post => v = .bool (effName s && effKind k l) ∧ post = []) := by
 refine Fn.enter (N := 23) func171 rfl ntmps171 tK rfl (fun ρ L => ?_)
 refine ky<|ka rfl<|zm<|ke<|ky<|km rfl<|kl (kc rfl (h := eff_Name _)) ?_
 rintro _ _ ⟨_, ⟨rfl, rfl⟩, rfl⟩
 refine kq (q_not rfl)<|zm ?_
 refine kT (s := 9) rfl (fun g9 => ?_) (fun g9 => ?_)
 ·refine ky<|ka rfl<|zm ?_
  refine kr1 func171 results171 rfl (fun w hs => ?_)
  exact ⟨_, [], rfl, ⟨by simp_all [effKind] <;> omega, rfl⟩, hs⟩
 ·refine za<|ke<|ky<|km rfl<|zm<|kB<|ky<|kq (q_eq rfl rfl)<|ka rfl<|zm ?_
  refine kD (s := 11) rfl (fun g11 => ?_) (fun g11 => ?_)
  ·refine ky<|km rfl<|kq (q_eq rfl rfl)<|ka rfl<|zm ?_
   refine kr1 func171 results171 rfl (fun w hs => ?_)
   exact ⟨_, [], rfl, ⟨by simp_all [effKind] <;> omega, rfl⟩, hs⟩
  ·refine ky<|kq (q_eq rfl rfl)<|ka rfl<|zm ?_
   refine kD (s := 15) rfl (fun g15 => ?_) (fun g15 => ?_)
   ·refine ky<|km rfl<|kq (q_ge rfl rfl)<|km rfl ?_
    refine KO.dsplit 19 rfl (fun g19 => ?_) (fun g19 => ?_)
    ·refine km rfl<|kq (q_le rfl rfl)<|kq (qT rfl rfl)<|ka rfl<|zm ?_
     refine kr1 func171 results171 rfl (fun w hs => ?_)
     exact ⟨_, [], rfl, ⟨by simp_all [effKind] <;> omega, rfl⟩, hs⟩
    ·refine zq<|zq<|kq (qF rfl rfl)<|ka rfl<|zm ?_
     refine kr1 func171 results171 rfl (fun w hs => ?_)
     exact ⟨_, [], rfl, ⟨by simp_all [effKind] <;> omega, rfl⟩, hs⟩
   ·refine za<|zd<|ky<|ka rfl<|zm ?_
    refine kr1 func171 results171 rfl (fun w hs => ?_)
    exact ⟨_, [], rfl, ⟨by simp_all [effKind] <;> omega, rfl⟩, hs⟩
theorem ref_kind (k l : Int) : Fn Tryz.prog 110 [.int .i64 k, .int .i64 l].toArray [] (fun v post => v = .bool (effKind k l) ∧ post = []) := by
 refine Fn.enter (N := 23) func110 rfl ntmps110 tK rfl (fun ρ L => ?_)
 refine ky<|ka rfl<|kz<|km rfl<|kq (q_eq rfl rfl)<|km rfl ?_
 refine KO.dsplit 7 rfl (fun g7 => ?_) (fun g7 => ?_)
 ·refine km rfl<|kq (q_eq rfl rfl)<|kq (qT rfl rfl)<|km rfl ?_
  refine KO.dsplit 11 rfl (fun g11 => ?_) (fun g11 => ?_)
  ·refine zq<|zq<|zq<|KO.gone rfl<|KO.gone rfl<|zq<|zq<|KO.gone rfl<|KO.gone rfl<|zq<|kq (qT rfl rfl)<|ka rfl<|zm ?_
   refine kr1 func110 results110 rfl (fun w hs => ?_)
   exact ⟨_, [], rfl, ⟨by simp [effKind] <;> first | (simp_all; done) | (split <;> simp_all <;> omega) | omega, rfl⟩, hs⟩
  ·refine km rfl<|kq (q_eq rfl rfl)<|km rfl ?_
   refine KO.dsplit 14 rfl (fun g14 => ?_) (fun g14 => ?_)
   ·refine km rfl<|kq (q_ge rfl rfl)<|kq (qT rfl rfl)<|km rfl ?_
    refine KO.dsplit 18 rfl (fun g18 => ?_) (fun g18 => ?_)
    ·refine km rfl<|kq (q_le rfl rfl)<|kq (qT rfl rfl)<|kq (qF rfl rfl)<|ka rfl<|zm ?_
     refine kr1 func110 results110 rfl (fun w hs => ?_)
     exact ⟨_, [], rfl, ⟨by simp [effKind] <;> first | (simp_all; done) | (split <;> simp_all <;> omega) | omega, rfl⟩, hs⟩
    ·refine zq<|zq<|kq (qF rfl rfl)<|kq (qF rfl rfl)<|ka rfl<|zm ?_
     refine kr1 func110 results110 rfl (fun w hs => ?_)
     exact ⟨_, [], rfl, ⟨by simp [effKind] <;> first | (simp_all; done) | (split <;> simp_all <;> omega) | omega, rfl⟩, hs⟩
   ·refine zq<|zq<|kq (qF rfl rfl)<|km rfl<|zq<|zq<|kq (qF rfl rfl)<|kq (qF rfl rfl)<|ka rfl<|zm ?_
    refine kr1 func110 results110 rfl (fun w hs => ?_)
    exact ⟨_, [], rfl, ⟨by simp [effKind] <;> first | (simp_all; done) | (split <;> simp_all <;> omega) | omega, rfl⟩, hs⟩
 ·refine zq<|zq<|kq (qF rfl rfl)<|km rfl<|km rfl<|kq (q_eq rfl rfl)<|km rfl ?_
  refine KO.dsplit 14 rfl (fun g14 => ?_) (fun g14 => ?_)
  ·refine km rfl<|kq (q_ge rfl rfl)<|kq (qT rfl rfl)<|km rfl ?_
   refine KO.dsplit 18 rfl (fun g18 => ?_) (fun g18 => ?_)
   ·refine km rfl<|kq (q_le rfl rfl)<|kq (qT rfl rfl)<|kq (qF rfl rfl)<|ka rfl<|zm ?_
    refine kr1 func110 results110 rfl (fun w hs => ?_)
    exact ⟨_, [], rfl, ⟨by simp [effKind] <;> first | (simp_all; done) | (split <;> simp_all <;> omega) | omega, rfl⟩, hs⟩
   ·refine zq<|zq<|kq (qF rfl rfl)<|kq (qF rfl rfl)<|ka rfl<|zm ?_
    refine kr1 func110 results110 rfl (fun w hs => ?_)
    exact ⟨_, [], rfl, ⟨by simp [effKind] <;> first | (simp_all; done) | (split <;> simp_all <;> omega) | omega, rfl⟩, hs⟩
  ·refine zq<|zq<|kq (qF rfl rfl)<|km rfl<|zq<|zq<|kq (qF rfl rfl)<|kq (qF rfl rfl)<|ka rfl<|zm ?_
   refine kr1 func110 results110 rfl (fun w hs => ?_)
   exact ⟨_, [], rfl, ⟨by simp [effKind] <;> first | (simp_all; done) | (split <;> simp_all <;> omega) | omega, rfl⟩, hs⟩
theorem rw_Key (s : ByteArray) : Fn Tryz.prog 174 [.string s].toArray [] (fun v post => v = .bool (rwKey s) ∧ post = []) := by
 refine Fn.enter (N := 11) func174 rfl ntmps174 tK rfl (fun ρ L => ?_)
 refine ky<|ka rfl<|kz<|km rfl<|kq (q_lenS underlying9 rfl)<|kq (q_ge rfl rfl)<|km rfl ?_
 refine KO.dsplit 6 rfl (fun g6 => ?_) (fun g6 => ?_)
 ·refine km rfl<|kq (q_lenS underlying9 rfl)<|kq (q_le rfl rfl)<|kq (qT rfl rfl)<|ka rfl<|zm ?_
  refine kr1 func174 results174 rfl (fun w hs => ?_)
  exact ⟨_, [], rfl, ⟨by simp [rwKey, *], rfl⟩, hs⟩
 ·refine zq<|zq<|zq<|kq (qF rfl rfl)<|ka rfl<|zm ?_
  refine kr1 func174 results174 rfl (fun w hs => ?_)
  exact ⟨_, [], rfl, ⟨by simp [rwKey, *], rfl⟩, hs⟩
theorem rw_Right (r : Rw) : Fn Tryz.prog 173 [.agg r.cells.toArray].toArray [] (fun v post => v = .bool r.right ∧ post = []) := by
 refine Fn.enter (N := 12) func173 rfl ntmps173 tK rfl (fun ρ L => ?_)
 refine ky<|kl (l_box rfl rfl) ?_
 rintro _ _ ⟨b1, rfl, rfl⟩
 refine ka rfl<|kz<|kq (qO fo_136_0 rfl)<|kq (qD ck_9 rfl)<|kl (kc rfl (h := rw_Key _)) ?_
 rintro _ _ ⟨_, ⟨rfl, rfl⟩, rfl⟩
 refine km rfl ?_
 refine KO.split 6 rfl (fun g6 => ?_) (fun g6 => ?_)
 ·refine kq (qO fo_136_1 rfl)<|kq (qD ck_9 rfl)<|kq (q_lenS underlying9 rfl)<|kq (q_le rfl rfl)<|kq (qT rfl rfl)<|ka rfl<|zm ?_
  refine kr1 func173 results173 rfl (fun w hs => ?_)
  exact ⟨_, [], rfl, ⟨by simp [Rw.right, *], rfl⟩, hs.fitD⟩
 ·refine zq<|zq<|zq<|zq<|kq (qF rfl rfl)<|ka rfl<|zm ?_
  refine kr1 func173 results173 rfl (fun w hs => ?_)
  exact ⟨_, [], rfl, ⟨by simp [Rw.right, *], rfl⟩, hs.fitD⟩
theorem ref_RightRow (r : Rw) : Fn Tryz.prog 115 [.agg r.cells.toArray].toArray [] (fun v post => v = .bool r.right ∧ post = []) := by
 refine Fn.enter (N := 19) func115 rfl ntmps115 tK rfl (fun ρ L => ?_)
 refine ky<|kl (l_box rfl rfl) ?_
 rintro _ _ ⟨b1, rfl, rfl⟩
 refine ka rfl<|kz<|kq (qO fo_136_0 rfl)<|kq (qD ck_9 rfl)<|kq (q_lenS underlying9 rfl)<|kq (q_ge rfl rfl)<|km rfl ?_
 refine KO.dsplit 7 rfl (fun g7 => ?_) (fun g7 => ?_)
 ·refine kq (qO fo_136_0 rfl)<|kq (qD ck_9 rfl)<|kq (q_lenS underlying9 rfl)<|kq (q_le rfl rfl)<|kq (qT rfl rfl)<|km rfl ?_
  refine KO.dsplit 13 rfl (fun g13 => ?_) (fun g13 => ?_)
  ·refine kq (qO fo_136_1 rfl)<|kq (qD ck_9 rfl)<|kq (q_lenS underlying9 rfl)<|kq (q_le rfl rfl)<|kq (qT rfl rfl)<|ka rfl<|zm ?_
   refine kr1 func115 results115 rfl (fun w hs => ?_)
   exact ⟨_, [], rfl, ⟨by simp [Rw.right, rwKey, *], rfl⟩, hs.fitD⟩
  ·refine zq<|zq<|zq<|zq<|kq (qF rfl rfl)<|ka rfl<|zm ?_
   refine kr1 func115 results115 rfl (fun w hs => ?_)
   exact ⟨_, [], rfl, ⟨by simp [Rw.right, rwKey, *], rfl⟩, hs.fitD⟩
 ·refine zq<|zq<|zq<|zq<|kq (qF rfl rfl)<|km rfl<|zq<|zq<|zq<|zq<|kq (qF rfl rfl)<|ka rfl<|zm ?_
  refine kr1 func115 results115 rfl (fun w hs => ?_)
  exact ⟨_, [], rfl, ⟨by simp [Rw.right, rwKey, *], rfl⟩, hs.fitD⟩
theorem eff_named (e : Eff) : Fn Tryz.prog 170 [.agg e.cells.toArray].toArray [] (fun v post => v = .agg e.named.cells.toArray ∧ post = []) := by
 refine Fn.enter (N := 58) func170 rfl ntmps170 tK rfl (fun ρ L => ?_)
 refine ky<|kl (l_box rfl rfl) ?_
 rintro _ _ ⟨b1, rfl, rfl⟩
 refine kl (lL zo_58) ?_
 rintro _ _ ⟨b2, rfl, rfl⟩
 refine kz<|kq (qO fo_58_0 rfl)<|kq (qD ck_3 rfl)<|kq (qO fo_58_1 rfl)<|kq (qD ck_9 rfl)<|kq (q_as_eff (q_build st_58 rfl tF) (by rfl))<|kl (lL zo_58) ?_
 rintro _ _ ⟨b3, rfl, rfl⟩
 refine kN rfl (lS ck_58 rfl rfl ⟨rfl, rfl⟩ (eff_one _) tP) ?_
 rintro _ _ ⟨rfl, rfl⟩
 refine zm<|ke<|ky<|kq (qO fo_58_0 rfl)<|kq (qD ck_3 rfl)<|zm<|kB<|ky<|kq (q_eq rfl rfl)<|ka rfl<|zm ?_
 refine kD (s := 11) rfl (fun g11 => ?_) (fun g11 => ?_)
 ·refine K.drawU (by repeat (first | apply SubL.pers | apply SubL.own (b := b1) | apply SubL.drop | exact SubL.none)) mixed ?_
  refine dq 0 rfl (qO fo_58_4 rfl)<|dq 1 rfl (qD ck_3 rfl)<|dq 2 rfl (qO fo_58_5 rfl)<|dq 3 rfl (qD ck_3 rfl)<|dq 4 rfl (qO fo_58_4 rfl)<|dq1N 5 rfl (lA ck_3 rfl rfl rfl tP tA) (.inr (by rintro _ _ ⟨rfl, rfl⟩ w h; exact h.subD)) ?_
  rintro _ _ ⟨rfl, rfl⟩
  refine dq 6 rfl (qO fo_58_5 rfl)<|dq1N 7 rfl (lA ck_3 rfl rfl rfl tP tA) (.inl tK) ?_
  rintro _ _ ⟨rfl, rfl⟩
  refine D.done tK<|zd<|ky<|kq (q_as_eff (qL ck_58 rfl rfl tC) (by rfl))<|kN rfl (lS ck_58 rfl rfl ⟨rfl, rfl⟩ (eff_one _) tP) ?_
  rintro _ _ ⟨rfl, rfl⟩
  refine zm ?_
  refine K.ret (fn := Tryz.f170) func170 (fun a w hk hs => resC results170 hk rfl ck_58 rfl (cP tM w hs)) (fun w hs => ?_)
  exact ⟨_, [], rfl, ⟨by simp [Eff.named, Eff.cells, Msg.cells, *], rfl⟩, hs.fitD⟩
 ·refine ky<|kq (q_eq rfl rfl)<|ka rfl<|zm ?_
  refine kD (s := 19) rfl (fun g19 => ?_) (fun g19 => ?_)
  ·refine K.drawU (by repeat (first | apply SubL.pers | apply SubL.own (b := b1) | apply SubL.drop | exact SubL.none)) mixed ?_
   refine dq 0 rfl (qO fo_58_2 rfl)<|dq 1 rfl (qD ck_9 rfl)<|dq 2 rfl (qO fo_58_3 rfl)<|dq 3 rfl (qD ck_9 rfl)<|dq 4 rfl (qO fo_58_2 rfl)<|dq1N 5 rfl (lA ck_9 rfl rfl rfl tP tA) (.inr (by rintro _ _ ⟨rfl, rfl⟩ w h; exact h.subD)) ?_
   rintro _ _ ⟨rfl, rfl⟩
   refine dq 6 rfl (qO fo_58_3 rfl)<|dq1N 7 rfl (lA ck_9 rfl rfl rfl tP tA) (.inl tK) ?_
   rintro _ _ ⟨rfl, rfl⟩
   refine D.done tK<|zd<|ky<|kq (q_as_eff (qL ck_58 rfl rfl tC) (by rfl))<|kN rfl (lS ck_58 rfl rfl ⟨rfl, rfl⟩ (eff_one _) tP) ?_
   rintro _ _ ⟨rfl, rfl⟩
   refine zm ?_
   refine K.ret (fn := Tryz.f170) func170 (fun a w hk hs => resC results170 hk rfl ck_58 rfl (cP tM w hs)) (fun w hs => ?_)
   exact ⟨_, [], rfl, ⟨by simp [Eff.named, Eff.cells, Msg.cells, *], rfl⟩, hs.fitD⟩
  ·refine ky<|kq (q_eq rfl rfl)<|ka rfl<|zm ?_
   refine kD (s := 27) rfl (fun g27 => ?_) (fun g27 => ?_)
   ·refine kr<|kq (qO fo_58_2 rfl)<|kq (qD ck_9 rfl)<|kq (qO fo_58_2 rfl)<|kN rfl (lA ck_9 rfl rfl rfl tP tA) ?_
    rintro _ _ ⟨rfl, rfl⟩
    refine zm<|zd<|ky<|kq (q_as_eff (qL ck_58 rfl rfl tC) (by rfl))<|kN rfl (lS ck_58 rfl rfl ⟨rfl, rfl⟩ (eff_one _) tP) ?_
    rintro _ _ ⟨rfl, rfl⟩
    refine zm ?_
    refine K.ret (fn := Tryz.f170) func170 (fun a w hk hs => resC results170 hk rfl ck_58 rfl (cP tM w hs)) (fun w hs => ?_)
    exact ⟨_, [], rfl, ⟨by simp [Eff.named, Eff.cells, Msg.cells, *], rfl⟩, hs.fitD⟩
   ·refine ky<|kq (q_eq rfl rfl)<|ka rfl<|zm ?_
    refine kD (s := 32) rfl (fun g32 => ?_) (fun g32 => ?_)
    ·refine kr<|kq (qO fo_58_7 rfl)<|kq (q_ldPS sub_eff_msg msg_sz ck_56 rfl tM)<|kq (qO fo_58_7 rfl)<|kN rfl (l_storeN ck_56 rfl rfl rfl (msg_one _) tP tSN) ?_
     rintro _ _ ⟨rfl, rfl⟩
     refine zm<|zd<|ky<|kq (q_as_eff (qL ck_58 rfl rfl tC) (by rfl))<|kN rfl (lS ck_58 rfl rfl ⟨rfl, rfl⟩ (eff_one _) tP) ?_
     rintro _ _ ⟨rfl, rfl⟩
     refine zm ?_
     refine K.ret (fn := Tryz.f170) func170 (fun a w hk hs => resC results170 hk rfl ck_58 rfl (cP tM w hs)) (fun w hs => ?_)
     exact ⟨_, [], rfl, ⟨by simp [Eff.named, Eff.cells, Msg.cells, *], rfl⟩, hs.fitD⟩
    ·refine ke<|ky<|kq (q_eq rfl rfl)<|ka rfl<|zm ?_
     refine kD (s := 37) rfl (fun g37 => ?_) (fun g37 => ?_)
     ·refine za<|K.yes rfl<|kr<|kq (qO fo_58_4 rfl)<|kq (qD ck_3 rfl)<|kq (qO fo_58_4 rfl)<|kN rfl (lA ck_3 rfl rfl rfl tP tA) ?_
      rintro _ _ ⟨rfl, rfl⟩
      refine zm<|zd<|ky<|kq (q_as_eff (qL ck_58 rfl rfl tC) (by rfl))<|kN rfl (lS ck_58 rfl rfl ⟨rfl, rfl⟩ (eff_one _) tP) ?_
      rintro _ _ ⟨rfl, rfl⟩
      refine zm ?_
      refine K.ret (fn := Tryz.f170) func170 (fun a w hk hs => resC results170 hk rfl ck_58 rfl (cP tM w hs)) (fun w hs => ?_)
      exact ⟨_, [], rfl, ⟨by simp [Eff.named, Eff.cells, Msg.cells, *], rfl⟩, hs.fitD⟩
     ·refine kr<|kq (q_eq rfl rfl)<|ka rfl<|zm ?_
      refine kD (s := 37) rfl (fun g37 => ?_) (fun g37 => ?_)
      ·refine kr<|kq (qO fo_58_4 rfl)<|kq (qD ck_3 rfl)<|kq (qO fo_58_4 rfl)<|kN rfl (lA ck_3 rfl rfl rfl tP tA) ?_
       rintro _ _ ⟨rfl, rfl⟩
       refine zm<|zd<|ky<|kq (q_as_eff (qL ck_58 rfl rfl tC) (by rfl))<|kN rfl (lS ck_58 rfl rfl ⟨rfl, rfl⟩ (eff_one _) tP) ?_
       rintro _ _ ⟨rfl, rfl⟩
       refine zm ?_
       refine K.ret (fn := Tryz.f170) func170 (fun a w hk hs => resC results170 hk rfl ck_58 rfl (cP tM w hs)) (fun w hs => ?_)
       exact ⟨_, [], rfl, ⟨by simp [Eff.named, Eff.cells, Msg.cells, *], rfl⟩, hs.fitD⟩
      ·refine ky<|kq (q_eq rfl rfl)<|ka rfl<|zm ?_
       refine kD (s := 43) rfl (fun g43 => ?_) (fun g43 => ?_)
       ·refine K.drawU (by repeat (first | apply SubL.pers | apply SubL.own (b := b1) | apply SubL.drop | exact SubL.none)) mixed ?_
        refine dq 0 rfl (qO fo_58_4 rfl)<|dq 1 rfl (qD ck_3 rfl)<|dq 2 rfl (qO fo_58_6 rfl)<|dq 3 rfl (qD ck_4 rfl)<|dq 4 rfl (qO fo_58_4 rfl)<|dq1N 5 rfl (lA ck_3 rfl rfl rfl tP tA) (.inr (by rintro _ _ ⟨rfl, rfl⟩ w h; exact h.subD)) ?_
        rintro _ _ ⟨rfl, rfl⟩
        refine dq 6 rfl (qO fo_58_6 rfl)<|dq1N 7 rfl (lA ck_4 rfl rfl rfl tP tA) (.inl tK) ?_
        rintro _ _ ⟨rfl, rfl⟩
        refine D.done tK<|zd<|ky<|kq (q_as_eff (qL ck_58 rfl rfl tC) (by rfl))<|kN rfl (lS ck_58 rfl rfl ⟨rfl, rfl⟩ (eff_one _) tP) ?_
        rintro _ _ ⟨rfl, rfl⟩
        refine zm ?_
        refine K.ret (fn := Tryz.f170) func170 (fun a w hk hs => resC results170 hk rfl ck_58 rfl (cP tM w hs)) (fun w hs => ?_)
        exact ⟨_, [], rfl, ⟨by simp [Eff.named, Eff.cells, Msg.cells, *], rfl⟩, hs.fitD⟩
       ·refine ky<|kq (q_eq rfl rfl)<|ka rfl<|zm ?_
        refine kD (s := 51) rfl (fun g51 => ?_) (fun g51 => ?_)
        ·refine K.drawU (by repeat (first | apply SubL.pers | apply SubL.own (b := b1) | apply SubL.drop | exact SubL.none)) mixed ?_
         refine dq 0 rfl (qO fo_58_4 rfl)<|dq 1 rfl (qD ck_3 rfl)<|dq 2 rfl (qO fo_58_1 rfl)<|dq1N 3 rfl (lA ck_9 rfl rfl rfl tP tA) (.inr (by rintro _ _ ⟨rfl, rfl⟩ w h; exact h.subD)) ?_
         rintro _ _ ⟨rfl, rfl⟩
         refine dq 4 rfl (qO fo_58_4 rfl)<|dq1N 5 rfl (lA ck_3 rfl rfl rfl tP tA) (.inl tK) ?_
         rintro _ _ ⟨rfl, rfl⟩
         refine D.done tK<|zd<|ky<|kq (q_as_eff (qL ck_58 rfl rfl tC) (by rfl))<|kN rfl (lS ck_58 rfl rfl ⟨rfl, rfl⟩ (eff_one _) tP) ?_
         rintro _ _ ⟨rfl, rfl⟩
         refine zm ?_
         refine K.ret (fn := Tryz.f170) func170 (fun a w hk hs => resC results170 hk rfl ck_58 rfl (cP tM w hs)) (fun w hs => ?_)
         exact ⟨_, [], rfl, ⟨by simp [Eff.named, Eff.cells, Msg.cells, *], rfl⟩, hs.fitD⟩
        ·refine za<|zd<|ky<|kq (qL ck_58 rfl rfl tC)<|kN rfl (lS ck_58 rfl rfl ⟨rfl, rfl⟩ (eff_one _) tP) ?_
         rintro _ _ ⟨rfl, rfl⟩
         refine zm ?_
         refine K.ret (fn := Tryz.f170) func170 (fun a w hk hs => resC results170 hk rfl ck_58 rfl (cP tM w hs)) (fun w hs => ?_)
         exact ⟨_, [], rfl, ⟨by simp [Eff.named, Eff.cells, Msg.cells, *], rfl⟩, hs.fitD⟩
end Go.Proofs.YtkbhldicnamcdaaGreat.L
namespace Go.Proofs.YtkbhldicnamcdaaGreat.L
open Go Go.Proofs
attribute [local irreducible] pv fv pt fz RowF RowO rowP old pure_ elA
set_option maxHeartbeats 1600000 in
theorem eff_Right (e : Eff) : Fn Tryz.prog 132 [.agg e.cells.toArray].toArray [] (fun v post => v = .bool e.right ∧ post = []) := by
 refine Fn.enter (N := 68) func132 rfl ntmps132 tK rfl (fun ρ L => ?_)
 refine ky<|kl (l_box rfl rfl) ?_
 rintro _ _ ⟨b1, rfl, rfl⟩
 refine ka rfl<|zm<|ke<|ke ?_
 refine K.drawU (by repeat (first | apply SubL.pers | apply SubL.own (b := b1) | apply SubL.drop | exact SubL.none)) mixed ?_
 refine dq 0 rfl (qL ck_58 rfl rfl tC)<|dq 1 rfl (qL ck_58 rfl rfl tC)<|dq1 2 rfl (kc rfl (h := eff_named _)) (.inr (by rintro _ _ ⟨_, ⟨rfl, rfl⟩, rfl⟩ w h; exact h.subD)) ?_
 rintro _ _ ⟨_, ⟨rfl, rfl⟩, rfl⟩
 refine dq 3 rfl (q_recNG underlying58 eff_hp eff_hg rfl rfl (eff_eqD _ _ underlying58))<|D.done tK ?_
 refine kD (s := 6) rfl (fun g6 => ?_) (fun g6 => ?_)
 ·have hr : e.right = false := by simp [Eff.right, g6]
  refine ky<|ka rfl<|zm ?_
  refine kr1 func132 results132 rfl (fun w hs => ?_)
  exact ⟨_, [], rfl, ⟨by rw [hr] <;> simp [Eff.rightK, *], rfl⟩, hs.fitD⟩
 ·have hr : e.right = e.rightK := by rw [Eff.right, decide_eq_true (Decidable.not_not.1 g6), Bool.true_and]
  clear g6
  refine za<|ke<|ky<|kq (qO fo_58_0 rfl)<|kq (qD ck_3 rfl)<|zm<|kB<|ky<|kq (q_eq rfl rfl)<|ka rfl<|zm ?_
  refine kD (s := 9) rfl (fun g9 => ?_) (fun g9 => ?_)
  ·refine ky<|kq (qO fo_58_1 rfl)<|kq (qD ck_9 rfl)<|kq (qO fo_58_4 rfl)<|kq (qD ck_3 rfl)<|kq (qO fo_58_5 rfl)<|kq (qD ck_3 rfl)<|kl (kc rfl (h := eff_Object _ _ _)) ?_
   rintro _ _ ⟨_, ⟨rfl, rfl⟩, rfl⟩
   refine ka rfl<|zm ?_
   refine kr1 func132 results132 rfl (fun w hs => ?_)
   exact ⟨_, [], rfl, ⟨by rw [hr] <;> simp [Eff.rightK, *], rfl⟩, hs.fitD⟩
  ·refine ky<|kq (q_eq rfl rfl)<|ka rfl<|zm ?_
   refine kD (s := 18) rfl (fun g18 => ?_) (fun g18 => ?_)
   ·refine ky<|kq (qO fo_58_1 rfl)<|kq (qD ck_9 rfl)<|kl (kc rfl (h := eff_Name _)) ?_
    rintro _ _ ⟨_, ⟨rfl, rfl⟩, rfl⟩
    refine km rfl ?_
    refine KO.split 23 rfl (fun g23 => ?_) (fun g23 => ?_)
    ·refine kq (qO fo_58_2 rfl)<|kq (qD ck_9 rfl)<|kq (qO fo_58_3 rfl)<|kq (qD ck_9 rfl)<|kq (q_as_rw (q_build st_136 rfl tF) (by rfl))<|kl (kc rfl (h := rw_Right _)) ?_
     rintro _ _ ⟨_, ⟨rfl, rfl⟩, rfl⟩
     refine kq (qT rfl rfl)<|ka rfl<|zm ?_
     refine kr1 func132 results132 rfl (fun w hs => ?_)
     exact ⟨_, [], rfl, ⟨by rw [hr] <;> simp [Eff.rightK, *], rfl⟩, hs.fitD⟩
    ·refine zq<|zq<|zq<|zq<|zq<|zq<|kq (qF rfl rfl)<|ka rfl<|zm ?_
     refine kr1 func132 results132 rfl (fun w hs => ?_)
     exact ⟨_, [], rfl, ⟨by rw [hr] <;> simp [Eff.rightK, *], rfl⟩, hs.fitD⟩
   ·refine ky<|kq (q_eq rfl rfl)<|ka rfl<|zm ?_
    refine kD (s := 31) rfl (fun g31 => ?_) (fun g31 => ?_)
    ·refine ky<|kq (qO fo_58_1 rfl)<|kq (qD ck_9 rfl)<|kl (kc rfl (h := eff_Name _)) ?_
     rintro _ _ ⟨_, ⟨rfl, rfl⟩, rfl⟩
     refine km rfl ?_
     refine KO.split 36 rfl (fun g36 => ?_) (fun g36 => ?_)
     ·refine kq (qO fo_58_2 rfl)<|kq (qD ck_9 rfl)<|kl (kc rfl (h := rw_Key _)) ?_
      rintro _ _ ⟨_, ⟨rfl, rfl⟩, rfl⟩
      refine kq (qT rfl rfl)<|ka rfl<|zm ?_
      refine kr1 func132 results132 rfl (fun w hs => ?_)
      exact ⟨_, [], rfl, ⟨by rw [hr] <;> simp [Eff.rightK, *], rfl⟩, hs.fitD⟩
     ·refine zq<|zq<|zq<|kq (qF rfl rfl)<|ka rfl<|zm ?_
      refine kr1 func132 results132 rfl (fun w hs => ?_)
      exact ⟨_, [], rfl, ⟨by rw [hr] <;> simp [Eff.rightK, *], rfl⟩, hs.fitD⟩
    ·refine ky<|kq (q_eq rfl rfl)<|ka rfl<|zm ?_
     refine kD (s := 41) rfl (fun g41 => ?_) (fun g41 => ?_)
     ·refine ky<|kq (qO fo_58_1 rfl)<|kq (qD ck_9 rfl)<|kl (kc rfl (h := eff_Name _)) ?_
      rintro _ _ ⟨_, ⟨rfl, rfl⟩, rfl⟩
      refine km rfl ?_
      refine KO.split 46 rfl (fun g46 => ?_) (fun g46 => ?_)
      ·refine kq (qO fo_58_7 rfl)<|kq (q_ldPS sub_eff_msg msg_sz ck_56 rfl tM)<|kl (kc rfl (h := msg_Right _)) ?_
       rintro _ _ ⟨_, ⟨rfl, rfl⟩, rfl⟩
       refine kq (qT rfl rfl)<|ka rfl<|zm ?_
       refine kr1 func132 results132 rfl (fun w hs => ?_)
       exact ⟨_, [], rfl, ⟨by rw [hr] <;> simp [Eff.rightK, *], rfl⟩, hs.fitD⟩
      ·refine zq<|zq<|zq<|kq (qF rfl rfl)<|ka rfl<|zm ?_
       refine kr1 func132 results132 rfl (fun w hs => ?_)
       exact ⟨_, [], rfl, ⟨by rw [hr] <;> simp [Eff.rightK, *], rfl⟩, hs.fitD⟩
     ·refine ke<|ky<|kq (q_eq rfl rfl)<|ka rfl<|zm ?_
      refine kD (s := 51) rfl (fun g51 => ?_) (fun g51 => ?_)
      ·refine za<|K.yes rfl<|ky<|kq (qO fo_58_1 rfl)<|kq (qD ck_9 rfl)<|kl (kc rfl (h := eff_Name _)) ?_
       rintro _ _ ⟨_, ⟨rfl, rfl⟩, rfl⟩
       refine km rfl ?_
       refine KO.split 58 rfl (fun g58 => ?_) (fun g58 => ?_)
       ·refine kq (qO fo_58_4 rfl)<|kq (qD ck_3 rfl)<|kl (kc rfl (h := eff_id _)) ?_
        rintro _ _ ⟨_, ⟨rfl, rfl⟩, rfl⟩
        refine kq (qT rfl rfl)<|ka rfl<|zm ?_
        refine kr1 func132 results132 rfl (fun w hs => ?_)
        exact ⟨_, [], rfl, ⟨by rw [hr] <;> simp [Eff.rightK, *], rfl⟩, hs.fitD⟩
       ·refine zq<|zq<|zq<|kq (qF rfl rfl)<|ka rfl<|zm ?_
        refine kr1 func132 results132 rfl (fun w hs => ?_)
        exact ⟨_, [], rfl, ⟨by rw [hr] <;> simp [Eff.rightK, *], rfl⟩, hs.fitD⟩
      ·refine ky<|kq (q_eq rfl rfl)<|ka rfl<|zm ?_
       refine kD (s := 51) rfl (fun g51 => ?_) (fun g51 => ?_)
       ·refine za<|K.yes rfl<|ky<|kq (qO fo_58_1 rfl)<|kq (qD ck_9 rfl)<|kl (kc rfl (h := eff_Name _)) ?_
        rintro _ _ ⟨_, ⟨rfl, rfl⟩, rfl⟩
        refine km rfl ?_
        refine KO.split 58 rfl (fun g58 => ?_) (fun g58 => ?_)
        ·refine kq (qO fo_58_4 rfl)<|kq (qD ck_3 rfl)<|kl (kc rfl (h := eff_id _)) ?_
         rintro _ _ ⟨_, ⟨rfl, rfl⟩, rfl⟩
         refine kq (qT rfl rfl)<|ka rfl<|zm ?_
         refine kr1 func132 results132 rfl (fun w hs => ?_)
         exact ⟨_, [], rfl, ⟨by rw [hr] <;> simp [Eff.rightK, *], rfl⟩, hs.fitD⟩
        ·refine zq<|zq<|zq<|kq (qF rfl rfl)<|ka rfl<|zm ?_
         refine kr1 func132 results132 rfl (fun w hs => ?_)
         exact ⟨_, [], rfl, ⟨by rw [hr] <;> simp [Eff.rightK, *], rfl⟩, hs.fitD⟩
       ·refine kr<|kq (q_eq rfl rfl)<|ka rfl<|zm ?_
        refine kD (s := 51) rfl (fun g51 => ?_) (fun g51 => ?_)
        ·refine ky<|kq (qO fo_58_1 rfl)<|kq (qD ck_9 rfl)<|kl (kc rfl (h := eff_Name _)) ?_
         rintro _ _ ⟨_, ⟨rfl, rfl⟩, rfl⟩
         refine km rfl ?_
         refine KO.split 58 rfl (fun g58 => ?_) (fun g58 => ?_)
         ·refine kq (qO fo_58_4 rfl)<|kq (qD ck_3 rfl)<|kl (kc rfl (h := eff_id _)) ?_
          rintro _ _ ⟨_, ⟨rfl, rfl⟩, rfl⟩
          refine kq (qT rfl rfl)<|ka rfl<|zm ?_
          refine kr1 func132 results132 rfl (fun w hs => ?_)
          exact ⟨_, [], rfl, ⟨by rw [hr] <;> simp [Eff.rightK, *], rfl⟩, hs.fitD⟩
         ·refine zq<|zq<|zq<|kq (qF rfl rfl)<|ka rfl<|zm ?_
          refine kr1 func132 results132 rfl (fun w hs => ?_)
          exact ⟨_, [], rfl, ⟨by rw [hr] <;> simp [Eff.rightK, *], rfl⟩, hs.fitD⟩
        ·refine ky<|kq (q_eq rfl rfl)<|ka rfl<|zm ?_
         refine kD (s := 63) rfl (fun g63 => ?_) (fun g63 => ?_)
         ·refine ky<|kq (qO fo_58_4 rfl)<|kq (qD ck_3 rfl)<|kl (kc rfl (h := eff_id _)) ?_
          rintro _ _ ⟨_, ⟨rfl, rfl⟩, rfl⟩
          refine ka rfl<|zm ?_
          refine kr1 func132 results132 rfl (fun w hs => ?_)
          exact ⟨_, [], rfl, ⟨by rw [hr] <;> simp [Eff.rightK, *], rfl⟩, hs.fitD⟩
         ·refine za<|zd<|ky<|ka rfl<|zm ?_
          refine kr1 func132 results132 rfl (fun w hs => ?_)
          exact ⟨_, [], rfl, ⟨by rw [hr] <;> simp [Eff.rightK, *], rfl⟩, hs.fitD⟩
end Go.Proofs.YtkbhldicnamcdaaGreat.L
namespace Go.Proofs.YtkbhldicnamcdaaGreat.L
open Go Go.Proofs
attribute [local irreducible] pv fv pt fz RowF RowO rowP old pure_ elA
theorem rN (k : ByteArray) : Rw.right ⟨k, ⟨#[]⟩⟩ = rwKey k := by
 unfold Rw.right
 rw [decide_eq_true (show (((⟨#[]⟩ : ByteArray).size : Nat) : Int) ≤ 100 by decide), Bool.and_true]
set_option maxHeartbeats 3200000 in
theorem ref_RightEffect (e : Eff) : Fn Tryz.prog 64 [.agg e.cells.toArray].toArray [] (fun v post => v = .bool e.right ∧ post = []) := by
 refine Fn.enter (N := 115) func64 rfl ntmps64 tK rfl (fun ρ L => ?_)
 refine ky<|kl (l_box rfl rfl) ?_
 rintro _ _ ⟨b1, rfl, rfl⟩
 refine ka rfl<|kz<|kq (qO fo_58_0 rfl)<|kq (qD ck_3 rfl)<|kq (qO fo_58_1 rfl)<|kq (qD ck_9 rfl)<|kq (q_as_eff (q_build st_58 rfl tF) (by rfl))<|kl (lL zo_58) ?_
 rintro _ _ ⟨b3, rfl, rfl⟩
 refine kN rfl (lS ck_58 rfl rfl ⟨rfl, rfl⟩ (eff_one _) tP) ?_
 rintro _ _ ⟨rfl, rfl⟩
 refine kz<|kq (qO fo_58_1 rfl)<|kq (qD ck_9 rfl)<|kl (kc rfl (h := ref_name _)) ?_
 rintro _ _ ⟨_, ⟨rfl, rfl⟩, rfl⟩
 refine ka rfl<|zm<|ke<|ky<|kq (qO fo_58_0 rfl)<|kq (qD ck_3 rfl)<|zm<|kB<|ky<|kq (q_eq rfl rfl)<|ka rfl<|zm ?_
 refine kD (s := 15) rfl (fun g15 => ?_) (fun g15 => ?_)
 ·refine ky<|kq (qO fo_58_4 rfl)<|kq (qD ck_3 rfl)<|kq (qO fo_58_4 rfl)<|kN rfl (lA ck_3 rfl rfl rfl tP tA) ?_
  rintro _ _ ⟨rfl, rfl⟩
  refine kz<|kq (qO fo_58_5 rfl)<|kq (qD ck_3 rfl)<|kq (qO fo_58_5 rfl)<|kN rfl (lA ck_3 rfl rfl rfl tP tA) ?_
  rintro _ _ ⟨rfl, rfl⟩
  refine zm<|kr<|km rfl<|km rfl ?_
  refine KO.split 24 rfl (fun g24 => ?_) (fun g24 => ?_)
  ·refine kq (qO fo_58_4 rfl)<|kq (qD ck_3 rfl)<|kq (qO fo_58_5 rfl)<|kq (qD ck_3 rfl)<|kl (kc rfl (h := ref_kind _ _)) ?_
   rintro _ _ ⟨_, ⟨rfl, rfl⟩, rfl⟩
   refine kq (qT rfl rfl)<|ka rfl<|zm<|zd<|ky<|km rfl<|km rfl ?_
   refine KO.split 110 rfl (fun g110 => ?_) (fun g110 => ?_)
   ·refine kq (q_as_eff (qL ck_58 rfl rfl tC) (by rfl))<|kq (qL ck_58 rfl rfl tC)<|kq (q_recEGs underlying58 eff_hp eff_hg rfl rfl (eff_eqD _ _ underlying58))<|kq (qT rfl rfl)<|ka rfl<|zm ?_
    refine kr1 func64 results64 rfl (fun w hs => ?_)
    first | (exfalso; omega) | exact ⟨_, [], rfl, ⟨by (try simp only [rN] at *); simp [Eff.right, Eff.rightK, Eff.named, effId, *], rfl⟩, hs.fitD⟩
   ·refine zq<|zq<|zq<|kq (qF rfl rfl)<|ka rfl<|zm ?_
    refine kr1 func64 results64 rfl (fun w hs => ?_)
    first | (exfalso; omega) | exact ⟨_, [], rfl, ⟨by (try simp only [rN] at *); simp [Eff.right, Eff.rightK, Eff.named, effId, *], rfl⟩, hs.fitD⟩
  ·refine zq<|zq<|zq<|zq<|zq<|kq (qF rfl rfl)<|ka rfl<|zm<|zd<|ky<|km rfl<|km rfl<|zq<|zq<|zq<|kq (qF rfl rfl)<|ka rfl<|zm ?_
   refine kr1 func64 results64 rfl (fun w hs => ?_)
   first | (exfalso; omega) | exact ⟨_, [], rfl, ⟨by (try simp only [rN] at *); simp [Eff.right, Eff.rightK, Eff.named, effId, *], rfl⟩, hs.fitD⟩
 ·refine ky<|kq (q_eq rfl rfl)<|ka rfl<|zm ?_
  refine kD (s := 31) rfl (fun g31 => ?_) (fun g31 => ?_)
  ·refine ky<|kq (qO fo_58_2 rfl)<|kq (qD ck_9 rfl)<|kq (qO fo_58_2 rfl)<|kN rfl (lA ck_9 rfl rfl rfl tP tA) ?_
   rintro _ _ ⟨rfl, rfl⟩
   refine kz<|kq (qO fo_58_3 rfl)<|kq (qD ck_9 rfl)<|kq (qO fo_58_3 rfl)<|kN rfl (lA ck_9 rfl rfl rfl tP tA) ?_
   rintro _ _ ⟨rfl, rfl⟩
   refine zm<|kr<|km rfl<|km rfl ?_
   refine KO.split 40 rfl (fun g40 => ?_) (fun g40 => ?_)
   ·refine kq (qO fo_58_2 rfl)<|kq (qD ck_9 rfl)<|kq (qO fo_58_3 rfl)<|kq (qD ck_9 rfl)<|kq (q_as_rw (q_build st_136 rfl tF) (by rfl))<|kl (kc rfl (h := ref_RightRow _)) ?_
    rintro _ _ ⟨_, ⟨rfl, rfl⟩, rfl⟩
    refine kq (qT rfl rfl)<|ka rfl<|zm<|zd<|ky<|km rfl<|km rfl ?_
    refine KO.split 110 rfl (fun g110 => ?_) (fun g110 => ?_)
    ·refine kq (q_as_eff (qL ck_58 rfl rfl tC) (by rfl))<|kq (qL ck_58 rfl rfl tC)<|kq (q_recEGs underlying58 eff_hp eff_hg rfl rfl (eff_eqD _ _ underlying58))<|kq (qT rfl rfl)<|ka rfl<|zm ?_
     refine kr1 func64 results64 rfl (fun w hs => ?_)
     first | (exfalso; omega) | exact ⟨_, [], rfl, ⟨by (try simp only [rN] at *); simp [Eff.right, Eff.rightK, Eff.named, effId, *], rfl⟩, hs.fitD⟩
    ·refine zq<|zq<|zq<|kq (qF rfl rfl)<|ka rfl<|zm ?_
     refine kr1 func64 results64 rfl (fun w hs => ?_)
     first | (exfalso; omega) | exact ⟨_, [], rfl, ⟨by (try simp only [rN] at *); simp [Eff.right, Eff.rightK, Eff.named, effId, *], rfl⟩, hs.fitD⟩
   ·refine zq<|zq<|zq<|zq<|zq<|zq<|kq (qF rfl rfl)<|ka rfl<|zm<|zd<|ky<|km rfl<|km rfl<|zq<|zq<|zq<|kq (qF rfl rfl)<|ka rfl<|zm ?_
    refine kr1 func64 results64 rfl (fun w hs => ?_)
    first | (exfalso; omega) | exact ⟨_, [], rfl, ⟨by (try simp only [rN] at *); simp [Eff.right, Eff.rightK, Eff.named, effId, *], rfl⟩, hs.fitD⟩
  ·refine ky<|kq (q_eq rfl rfl)<|ka rfl<|zm ?_
   refine kD (s := 48) rfl (fun g48 => ?_) (fun g48 => ?_)
   ·refine ky<|kq (qO fo_58_2 rfl)<|kq (qD ck_9 rfl)<|kq (qO fo_58_2 rfl)<|kN rfl (lA ck_9 rfl rfl rfl tP tA) ?_
    rintro _ _ ⟨rfl, rfl⟩
    refine zm<|kr<|km rfl<|km rfl ?_
    refine KO.split 54 rfl (fun g54 => ?_) (fun g54 => ?_)
    ·refine kq (qO fo_58_2 rfl)<|kq (qD ck_9 rfl)<|kq (q_as_rw (q_build st_136 rfl tF) (by rfl))<|kl (kc rfl (h := ref_RightRow _)) ?_
     rintro _ _ ⟨_, ⟨rfl, rfl⟩, rfl⟩
     refine kq (qT rfl rfl)<|ka rfl<|zm<|zd<|ky<|km rfl<|km rfl ?_
     refine KO.split 110 rfl (fun g110 => ?_) (fun g110 => ?_)
     ·refine kq (q_as_eff (qL ck_58 rfl rfl tC) (by rfl))<|kq (qL ck_58 rfl rfl tC)<|kq (q_recEGs underlying58 eff_hp eff_hg rfl rfl (eff_eqD _ _ underlying58))<|kq (qT rfl rfl)<|ka rfl<|zm ?_
      refine kr1 func64 results64 rfl (fun w hs => ?_)
      first | (exfalso; omega) | exact ⟨_, [], rfl, ⟨by (try simp only [rN] at *); simp [Eff.right, Eff.rightK, Eff.named, effId, *], rfl⟩, hs.fitD⟩
     ·refine zq<|zq<|zq<|kq (qF rfl rfl)<|ka rfl<|zm ?_
      refine kr1 func64 results64 rfl (fun w hs => ?_)
      first | (exfalso; omega) | exact ⟨_, [], rfl, ⟨by (try simp only [rN] at *); simp [Eff.right, Eff.rightK, Eff.named, effId, *], rfl⟩, hs.fitD⟩
    ·refine zq<|zq<|zq<|zq<|kq (qF rfl rfl)<|ka rfl<|zm<|zd<|ky<|km rfl<|km rfl<|zq<|zq<|zq<|kq (qF rfl rfl)<|ka rfl<|zm ?_
     refine kr1 func64 results64 rfl (fun w hs => ?_)
     first | (exfalso; omega) | exact ⟨_, [], rfl, ⟨by (try simp only [rN] at *); simp [Eff.right, Eff.rightK, Eff.named, effId, *], rfl⟩, hs.fitD⟩
   ·refine ky<|kq (q_eq rfl rfl)<|ka rfl<|zm ?_
    refine kD (s := 60) rfl (fun g60 => ?_) (fun g60 => ?_)
    ·refine ky<|kq (qO fo_58_7 rfl)<|kq (q_ldPS sub_eff_msg msg_sz ck_56 rfl tM)<|kq (qO fo_58_7 rfl)<|kN rfl (l_storeN ck_56 rfl rfl rfl (msg_one _) tP tSN) ?_
     rintro _ _ ⟨rfl, rfl⟩
     refine zm<|kr<|km rfl<|km rfl ?_
     refine KO.split 66 rfl (fun g66 => ?_) (fun g66 => ?_)
     ·refine kq (qO fo_58_7 rfl)<|kq (q_ldPS sub_eff_msg msg_sz ck_56 rfl tM)<|kl (kc rfl (h := ref_Right _)) ?_
      rintro _ _ ⟨_, ⟨rfl, rfl⟩, rfl⟩
      refine kq (qT rfl rfl)<|ka rfl<|zm<|zd<|ky<|km rfl<|km rfl ?_
      refine KO.split 110 rfl (fun g110 => ?_) (fun g110 => ?_)
      ·refine kq (q_as_eff (qL ck_58 rfl rfl tC) (by rfl))<|kq (qL ck_58 rfl rfl tC)<|kq (q_recEGs underlying58 eff_hp eff_hg rfl rfl (eff_eqD _ _ underlying58))<|kq (qT rfl rfl)<|ka rfl<|zm ?_
       refine kr1 func64 results64 rfl (fun w hs => ?_)
       first | (exfalso; omega) | exact ⟨_, [], rfl, ⟨by (try simp only [rN] at *); simp [Eff.right, Eff.rightK, Eff.named, effId, *], rfl⟩, hs.fitD⟩
      ·refine zq<|zq<|zq<|kq (qF rfl rfl)<|ka rfl<|zm ?_
       refine kr1 func64 results64 rfl (fun w hs => ?_)
       first | (exfalso; omega) | exact ⟨_, [], rfl, ⟨by (try simp only [rN] at *); simp [Eff.right, Eff.rightK, Eff.named, effId, *], rfl⟩, hs.fitD⟩
     ·refine zq<|zq<|zq<|kq (qF rfl rfl)<|ka rfl<|zm<|zd<|ky<|km rfl<|km rfl<|zq<|zq<|zq<|kq (qF rfl rfl)<|ka rfl<|zm ?_
      refine kr1 func64 results64 rfl (fun w hs => ?_)
      first | (exfalso; omega) | exact ⟨_, [], rfl, ⟨by (try simp only [rN] at *); simp [Eff.right, Eff.rightK, Eff.named, effId, *], rfl⟩, hs.fitD⟩
    ·refine ke<|ky<|kq (q_eq rfl rfl)<|ka rfl<|zm ?_
     refine kD (s := 71) rfl (fun g71 => ?_) (fun g71 => ?_)
     ·refine za<|K.yes rfl<|ky<|kq (qO fo_58_4 rfl)<|kq (qD ck_3 rfl)<|kq (qO fo_58_4 rfl)<|kN rfl (lA ck_3 rfl rfl rfl tP tA) ?_
      rintro _ _ ⟨rfl, rfl⟩
      refine zm<|ke<|ky<|kq (qO fo_58_0 rfl)<|kq (qD ck_3 rfl)<|kq (q_eq rfl rfl)<|zm ?_
      refine kD (s := 80) rfl (fun g80 => ?_) (fun g80 => ?_)
      ·refine kr<|kq (qO fo_58_6 rfl)<|kq (qD ck_4 rfl)<|kq (qO fo_58_6 rfl)<|kN rfl (lA ck_4 rfl rfl rfl tP tA) ?_
       rintro _ _ ⟨rfl, rfl⟩
       refine zm<|kr<|km rfl<|km rfl ?_
       refine KO.split 85 rfl (fun g85 => ?_) (fun g85 => ?_)
       ·refine kq (qO fo_58_4 rfl)<|kq (qD ck_3 rfl)<|kq (q_ge rfl rfl)<|kq (qT rfl rfl)<|km rfl ?_
        refine KO.dsplit 90 rfl (fun g90 => ?_) (fun g90 => ?_)
        ·refine kq (qO fo_58_4 rfl)<|kq (qD ck_3 rfl)<|kq (q_le rfl rfl)<|kq (qT rfl rfl)<|ka rfl<|zm<|zd<|ky<|km rfl<|km rfl ?_
         refine KO.dsplit 110 rfl (fun g110 => ?_) (fun g110 => ?_)
         ·refine kq (q_as_eff (qL ck_58 rfl rfl tC) (by rfl))<|kq (qL ck_58 rfl rfl tC)<|kq (q_recEGs underlying58 eff_hp eff_hg rfl rfl (eff_eqD _ _ underlying58))<|kq (qT rfl rfl)<|ka rfl<|zm ?_
          refine kr1 func64 results64 rfl (fun w hs => ?_)
          first | (exfalso; omega) | exact ⟨_, [], rfl, ⟨by (try simp only [rN] at *); simp [Eff.right, Eff.rightK, Eff.named, effId, *], rfl⟩, hs.fitD⟩
         ·refine zq<|zq<|zq<|kq (qF rfl rfl)<|ka rfl<|zm ?_
          refine kr1 func64 results64 rfl (fun w hs => ?_)
          first | (exfalso; omega) | exact ⟨_, [], rfl, ⟨by (try simp only [rN] at *); simp [Eff.right, Eff.rightK, Eff.named, effId, *], rfl⟩, hs.fitD⟩
        ·refine zq<|zq<|zq<|kq (qF rfl rfl)<|ka rfl<|zm<|zd<|ky<|km rfl<|km rfl<|zq<|zq<|zq<|kq (qF rfl rfl)<|ka rfl<|zm ?_
         refine kr1 func64 results64 rfl (fun w hs => ?_)
         first | (exfalso; omega) | exact ⟨_, [], rfl, ⟨by (try simp only [rN] at *); simp [Eff.right, Eff.rightK, Eff.named, effId, *], rfl⟩, hs.fitD⟩
       ·refine zq<|zq<|zq<|kq (qF rfl rfl)<|km rfl<|zq<|zq<|zq<|kq (qF rfl rfl)<|ka rfl<|zm<|zd<|ky<|km rfl<|km rfl<|zq<|zq<|zq<|kq (qF rfl rfl)<|ka rfl<|zm ?_
        refine kr1 func64 results64 rfl (fun w hs => ?_)
        first | (exfalso; omega) | exact ⟨_, [], rfl, ⟨by (try simp only [rN] at *); simp [Eff.right, Eff.rightK, Eff.named, effId, *], rfl⟩, hs.fitD⟩
      ·refine za<|kr<|km rfl<|km rfl ?_
       refine KO.split 85 rfl (fun g85 => ?_) (fun g85 => ?_)
       ·refine kq (qO fo_58_4 rfl)<|kq (qD ck_3 rfl)<|kq (q_ge rfl rfl)<|kq (qT rfl rfl)<|km rfl ?_
        refine KO.dsplit 90 rfl (fun g90 => ?_) (fun g90 => ?_)
        ·refine kq (qO fo_58_4 rfl)<|kq (qD ck_3 rfl)<|kq (q_le rfl rfl)<|kq (qT rfl rfl)<|ka rfl<|zm<|zd<|ky<|km rfl<|km rfl ?_
         refine KO.dsplit 110 rfl (fun g110 => ?_) (fun g110 => ?_)
         ·refine kq (q_as_eff (qL ck_58 rfl rfl tC) (by rfl))<|kq (qL ck_58 rfl rfl tC)<|kq (q_recEGs underlying58 eff_hp eff_hg rfl rfl (eff_eqD _ _ underlying58))<|kq (qT rfl rfl)<|ka rfl<|zm ?_
          refine kr1 func64 results64 rfl (fun w hs => ?_)
          first | (exfalso; omega) | exact ⟨_, [], rfl, ⟨by (try simp only [rN] at *); simp [Eff.right, Eff.rightK, Eff.named, effId, *], rfl⟩, hs.fitD⟩
         ·refine zq<|zq<|zq<|kq (qF rfl rfl)<|ka rfl<|zm ?_
          refine kr1 func64 results64 rfl (fun w hs => ?_)
          first | (exfalso; omega) | exact ⟨_, [], rfl, ⟨by (try simp only [rN] at *); simp [Eff.right, Eff.rightK, Eff.named, effId, *], rfl⟩, hs.fitD⟩
        ·refine zq<|zq<|zq<|kq (qF rfl rfl)<|ka rfl<|zm<|zd<|ky<|km rfl<|km rfl<|zq<|zq<|zq<|kq (qF rfl rfl)<|ka rfl<|zm ?_
         refine kr1 func64 results64 rfl (fun w hs => ?_)
         first | (exfalso; omega) | exact ⟨_, [], rfl, ⟨by (try simp only [rN] at *); simp [Eff.right, Eff.rightK, Eff.named, effId, *], rfl⟩, hs.fitD⟩
       ·refine zq<|zq<|zq<|kq (qF rfl rfl)<|km rfl<|zq<|zq<|zq<|kq (qF rfl rfl)<|ka rfl<|zm<|zd<|ky<|km rfl<|km rfl<|zq<|zq<|zq<|kq (qF rfl rfl)<|ka rfl<|zm ?_
        refine kr1 func64 results64 rfl (fun w hs => ?_)
        first | (exfalso; omega) | exact ⟨_, [], rfl, ⟨by (try simp only [rN] at *); simp [Eff.right, Eff.rightK, Eff.named, effId, *], rfl⟩, hs.fitD⟩
     ·refine ky<|kq (q_eq rfl rfl)<|ka rfl<|zm ?_
      refine kD (s := 71) rfl (fun g71 => ?_) (fun g71 => ?_)
      ·refine za<|K.yes rfl<|ky<|kq (qO fo_58_4 rfl)<|kq (qD ck_3 rfl)<|kq (qO fo_58_4 rfl)<|kN rfl (lA ck_3 rfl rfl rfl tP tA) ?_
       rintro _ _ ⟨rfl, rfl⟩
       refine zm<|ke<|ky<|kq (qO fo_58_0 rfl)<|kq (qD ck_3 rfl)<|kq (q_eq rfl rfl)<|zm ?_
       refine kD (s := 80) rfl (fun g80 => ?_) (fun g80 => ?_)
       ·refine kr<|kq (qO fo_58_6 rfl)<|kq (qD ck_4 rfl)<|kq (qO fo_58_6 rfl)<|kN rfl (lA ck_4 rfl rfl rfl tP tA) ?_
        rintro _ _ ⟨rfl, rfl⟩
        refine zm<|kr<|km rfl<|km rfl ?_
        refine KO.split 85 rfl (fun g85 => ?_) (fun g85 => ?_)
        ·refine kq (qO fo_58_4 rfl)<|kq (qD ck_3 rfl)<|kq (q_ge rfl rfl)<|kq (qT rfl rfl)<|km rfl ?_
         refine KO.dsplit 90 rfl (fun g90 => ?_) (fun g90 => ?_)
         ·refine kq (qO fo_58_4 rfl)<|kq (qD ck_3 rfl)<|kq (q_le rfl rfl)<|kq (qT rfl rfl)<|ka rfl<|zm<|zd<|ky<|km rfl<|km rfl ?_
          refine KO.dsplit 110 rfl (fun g110 => ?_) (fun g110 => ?_)
          ·refine kq (q_as_eff (qL ck_58 rfl rfl tC) (by rfl))<|kq (qL ck_58 rfl rfl tC)<|kq (q_recEGs underlying58 eff_hp eff_hg rfl rfl (eff_eqD _ _ underlying58))<|kq (qT rfl rfl)<|ka rfl<|zm ?_
           refine kr1 func64 results64 rfl (fun w hs => ?_)
           first | (exfalso; omega) | exact ⟨_, [], rfl, ⟨by (try simp only [rN] at *); simp [Eff.right, Eff.rightK, Eff.named, effId, *], rfl⟩, hs.fitD⟩
          ·refine zq<|zq<|zq<|kq (qF rfl rfl)<|ka rfl<|zm ?_
           refine kr1 func64 results64 rfl (fun w hs => ?_)
           first | (exfalso; omega) | exact ⟨_, [], rfl, ⟨by (try simp only [rN] at *); simp [Eff.right, Eff.rightK, Eff.named, effId, *], rfl⟩, hs.fitD⟩
         ·refine zq<|zq<|zq<|kq (qF rfl rfl)<|ka rfl<|zm<|zd<|ky<|km rfl<|km rfl<|zq<|zq<|zq<|kq (qF rfl rfl)<|ka rfl<|zm ?_
          refine kr1 func64 results64 rfl (fun w hs => ?_)
          first | (exfalso; omega) | exact ⟨_, [], rfl, ⟨by (try simp only [rN] at *); simp [Eff.right, Eff.rightK, Eff.named, effId, *], rfl⟩, hs.fitD⟩
        ·refine zq<|zq<|zq<|kq (qF rfl rfl)<|km rfl<|zq<|zq<|zq<|kq (qF rfl rfl)<|ka rfl<|zm<|zd<|ky<|km rfl<|km rfl<|zq<|zq<|zq<|kq (qF rfl rfl)<|ka rfl<|zm ?_
         refine kr1 func64 results64 rfl (fun w hs => ?_)
         first | (exfalso; omega) | exact ⟨_, [], rfl, ⟨by (try simp only [rN] at *); simp [Eff.right, Eff.rightK, Eff.named, effId, *], rfl⟩, hs.fitD⟩
       ·refine za<|kr<|km rfl<|km rfl ?_
        refine KO.split 85 rfl (fun g85 => ?_) (fun g85 => ?_)
        ·refine kq (qO fo_58_4 rfl)<|kq (qD ck_3 rfl)<|kq (q_ge rfl rfl)<|kq (qT rfl rfl)<|km rfl ?_
         refine KO.dsplit 90 rfl (fun g90 => ?_) (fun g90 => ?_)
         ·refine kq (qO fo_58_4 rfl)<|kq (qD ck_3 rfl)<|kq (q_le rfl rfl)<|kq (qT rfl rfl)<|ka rfl<|zm<|zd<|ky<|km rfl<|km rfl ?_
          refine KO.dsplit 110 rfl (fun g110 => ?_) (fun g110 => ?_)
          ·refine kq (q_as_eff (qL ck_58 rfl rfl tC) (by rfl))<|kq (qL ck_58 rfl rfl tC)<|kq (q_recEGs underlying58 eff_hp eff_hg rfl rfl (eff_eqD _ _ underlying58))<|kq (qT rfl rfl)<|ka rfl<|zm ?_
           refine kr1 func64 results64 rfl (fun w hs => ?_)
           first | (exfalso; omega) | exact ⟨_, [], rfl, ⟨by (try simp only [rN] at *); simp [Eff.right, Eff.rightK, Eff.named, effId, *], rfl⟩, hs.fitD⟩
          ·refine zq<|zq<|zq<|kq (qF rfl rfl)<|ka rfl<|zm ?_
           refine kr1 func64 results64 rfl (fun w hs => ?_)
           first | (exfalso; omega) | exact ⟨_, [], rfl, ⟨by (try simp only [rN] at *); simp [Eff.right, Eff.rightK, Eff.named, effId, *], rfl⟩, hs.fitD⟩
         ·refine zq<|zq<|zq<|kq (qF rfl rfl)<|ka rfl<|zm<|zd<|ky<|km rfl<|km rfl<|zq<|zq<|zq<|kq (qF rfl rfl)<|ka rfl<|zm ?_
          refine kr1 func64 results64 rfl (fun w hs => ?_)
          first | (exfalso; omega) | exact ⟨_, [], rfl, ⟨by (try simp only [rN] at *); simp [Eff.right, Eff.rightK, Eff.named, effId, *], rfl⟩, hs.fitD⟩
        ·refine zq<|zq<|zq<|kq (qF rfl rfl)<|km rfl<|zq<|zq<|zq<|kq (qF rfl rfl)<|ka rfl<|zm<|zd<|ky<|km rfl<|km rfl<|zq<|zq<|zq<|kq (qF rfl rfl)<|ka rfl<|zm ?_
         refine kr1 func64 results64 rfl (fun w hs => ?_)
         first | (exfalso; omega) | exact ⟨_, [], rfl, ⟨by (try simp only [rN] at *); simp [Eff.right, Eff.rightK, Eff.named, effId, *], rfl⟩, hs.fitD⟩
      ·refine kr<|kq (q_eq rfl rfl)<|ka rfl<|zm ?_
       refine kD (s := 71) rfl (fun g71 => ?_) (fun g71 => ?_)
       ·refine ky<|kq (qO fo_58_4 rfl)<|kq (qD ck_3 rfl)<|kq (qO fo_58_4 rfl)<|kN rfl (lA ck_3 rfl rfl rfl tP tA) ?_
        rintro _ _ ⟨rfl, rfl⟩
        refine zm<|ke<|ky<|kq (qO fo_58_0 rfl)<|kq (qD ck_3 rfl)<|kq (q_eq rfl rfl)<|zm ?_
        refine kD (s := 80) rfl (fun g80 => ?_) (fun g80 => ?_)
        ·refine kr<|kq (qO fo_58_6 rfl)<|kq (qD ck_4 rfl)<|kq (qO fo_58_6 rfl)<|kN rfl (lA ck_4 rfl rfl rfl tP tA) ?_
         rintro _ _ ⟨rfl, rfl⟩
         refine zm<|kr<|km rfl<|km rfl ?_
         refine KO.split 85 rfl (fun g85 => ?_) (fun g85 => ?_)
         ·refine kq (qO fo_58_4 rfl)<|kq (qD ck_3 rfl)<|kq (q_ge rfl rfl)<|kq (qT rfl rfl)<|km rfl ?_
          refine KO.dsplit 90 rfl (fun g90 => ?_) (fun g90 => ?_)
          ·refine kq (qO fo_58_4 rfl)<|kq (qD ck_3 rfl)<|kq (q_le rfl rfl)<|kq (qT rfl rfl)<|ka rfl<|zm<|zd<|ky<|km rfl<|km rfl ?_
           refine KO.dsplit 110 rfl (fun g110 => ?_) (fun g110 => ?_)
           ·refine kq (q_as_eff (qL ck_58 rfl rfl tC) (by rfl))<|kq (qL ck_58 rfl rfl tC)<|kq (q_recEGs underlying58 eff_hp eff_hg rfl rfl (eff_eqD _ _ underlying58))<|kq (qT rfl rfl)<|ka rfl<|zm ?_
            refine kr1 func64 results64 rfl (fun w hs => ?_)
            first | (exfalso; omega) | exact ⟨_, [], rfl, ⟨by (try simp only [rN] at *); simp [Eff.right, Eff.rightK, Eff.named, effId, *], rfl⟩, hs.fitD⟩
           ·refine zq<|zq<|zq<|kq (qF rfl rfl)<|ka rfl<|zm ?_
            refine kr1 func64 results64 rfl (fun w hs => ?_)
            first | (exfalso; omega) | exact ⟨_, [], rfl, ⟨by (try simp only [rN] at *); simp [Eff.right, Eff.rightK, Eff.named, effId, *], rfl⟩, hs.fitD⟩
          ·refine zq<|zq<|zq<|kq (qF rfl rfl)<|ka rfl<|zm<|zd<|ky<|km rfl<|km rfl<|zq<|zq<|zq<|kq (qF rfl rfl)<|ka rfl<|zm ?_
           refine kr1 func64 results64 rfl (fun w hs => ?_)
           first | (exfalso; omega) | exact ⟨_, [], rfl, ⟨by (try simp only [rN] at *); simp [Eff.right, Eff.rightK, Eff.named, effId, *], rfl⟩, hs.fitD⟩
         ·refine zq<|zq<|zq<|kq (qF rfl rfl)<|km rfl<|zq<|zq<|zq<|kq (qF rfl rfl)<|ka rfl<|zm<|zd<|ky<|km rfl<|km rfl<|zq<|zq<|zq<|kq (qF rfl rfl)<|ka rfl<|zm ?_
          refine kr1 func64 results64 rfl (fun w hs => ?_)
          first | (exfalso; omega) | exact ⟨_, [], rfl, ⟨by (try simp only [rN] at *); simp [Eff.right, Eff.rightK, Eff.named, effId, *], rfl⟩, hs.fitD⟩
        ·refine za<|kr<|km rfl<|km rfl ?_
         refine KO.split 85 rfl (fun g85 => ?_) (fun g85 => ?_)
         ·refine kq (qO fo_58_4 rfl)<|kq (qD ck_3 rfl)<|kq (q_ge rfl rfl)<|kq (qT rfl rfl)<|km rfl ?_
          refine KO.dsplit 90 rfl (fun g90 => ?_) (fun g90 => ?_)
          ·refine kq (qO fo_58_4 rfl)<|kq (qD ck_3 rfl)<|kq (q_le rfl rfl)<|kq (qT rfl rfl)<|ka rfl<|zm<|zd<|ky<|km rfl<|km rfl ?_
           refine KO.dsplit 110 rfl (fun g110 => ?_) (fun g110 => ?_)
           ·refine kq (q_as_eff (qL ck_58 rfl rfl tC) (by rfl))<|kq (qL ck_58 rfl rfl tC)<|kq (q_recEGs underlying58 eff_hp eff_hg rfl rfl (eff_eqD _ _ underlying58))<|kq (qT rfl rfl)<|ka rfl<|zm ?_
            refine kr1 func64 results64 rfl (fun w hs => ?_)
            first | (exfalso; omega) | exact ⟨_, [], rfl, ⟨by (try simp only [rN] at *); simp [Eff.right, Eff.rightK, Eff.named, effId, *], rfl⟩, hs.fitD⟩
           ·refine zq<|zq<|zq<|kq (qF rfl rfl)<|ka rfl<|zm ?_
            refine kr1 func64 results64 rfl (fun w hs => ?_)
            first | (exfalso; omega) | exact ⟨_, [], rfl, ⟨by (try simp only [rN] at *); simp [Eff.right, Eff.rightK, Eff.named, effId, *], rfl⟩, hs.fitD⟩
          ·refine zq<|zq<|zq<|kq (qF rfl rfl)<|ka rfl<|zm<|zd<|ky<|km rfl<|km rfl<|zq<|zq<|zq<|kq (qF rfl rfl)<|ka rfl<|zm ?_
           refine kr1 func64 results64 rfl (fun w hs => ?_)
           first | (exfalso; omega) | exact ⟨_, [], rfl, ⟨by (try simp only [rN] at *); simp [Eff.right, Eff.rightK, Eff.named, effId, *], rfl⟩, hs.fitD⟩
         ·refine zq<|zq<|zq<|kq (qF rfl rfl)<|km rfl<|zq<|zq<|zq<|kq (qF rfl rfl)<|ka rfl<|zm<|zd<|ky<|km rfl<|km rfl<|zq<|zq<|zq<|kq (qF rfl rfl)<|ka rfl<|zm ?_
          refine kr1 func64 results64 rfl (fun w hs => ?_)
          first | (exfalso; omega) | exact ⟨_, [], rfl, ⟨by (try simp only [rN] at *); simp [Eff.right, Eff.rightK, Eff.named, effId, *], rfl⟩, hs.fitD⟩
       ·refine ky<|kq (q_eq rfl rfl)<|ka rfl<|zm ?_
        refine kD (s := 95) rfl (fun g95 => ?_) (fun g95 => ?_)
        ·refine ky<|kq (qO fo_58_1 rfl)<|kN rfl (lA ck_9 rfl rfl rfl tP tA) ?_
         rintro _ _ ⟨rfl, rfl⟩
         refine kz<|kq (qO fo_58_4 rfl)<|kq (qD ck_3 rfl)<|kq (qO fo_58_4 rfl)<|kN rfl (lA ck_3 rfl rfl rfl tP tA) ?_
         rintro _ _ ⟨rfl, rfl⟩
         refine zm<|kr<|kq (qO fo_58_4 rfl)<|kq (qD ck_3 rfl)<|kq (q_ge rfl rfl)<|km rfl ?_
         refine KO.dsplit 104 rfl (fun g104 => ?_) (fun g104 => ?_)
         ·refine kq (qO fo_58_4 rfl)<|kq (qD ck_3 rfl)<|kq (q_le rfl rfl)<|kq (qT rfl rfl)<|ka rfl<|zm<|zd<|ky<|km rfl<|km rfl ?_
          refine KO.dsplit 110 rfl (fun g110 => ?_) (fun g110 => ?_)
          ·refine kq (q_as_eff (qL ck_58 rfl rfl tC) (by rfl))<|kq (qL ck_58 rfl rfl tC)<|kq (q_recEGs underlying58 eff_hp eff_hg rfl rfl (eff_eqD _ _ underlying58))<|kq (qT rfl rfl)<|ka rfl<|zm ?_
           refine kr1 func64 results64 rfl (fun w hs => ?_)
           first | (exfalso; omega) | exact ⟨_, [], rfl, ⟨by (try simp only [rN] at *); simp [Eff.right, Eff.rightK, Eff.named, effId, *], rfl⟩, hs.fitD⟩
          ·refine zq<|zq<|zq<|kq (qF rfl rfl)<|ka rfl<|zm ?_
           refine kr1 func64 results64 rfl (fun w hs => ?_)
           first | (exfalso; omega) | exact ⟨_, [], rfl, ⟨by (try simp only [rN] at *); simp [Eff.right, Eff.rightK, Eff.named, effId, *], rfl⟩, hs.fitD⟩
         ·refine zq<|zq<|zq<|kq (qF rfl rfl)<|ka rfl<|zm<|zd<|ky<|km rfl<|km rfl<|zq<|zq<|zq<|kq (qF rfl rfl)<|ka rfl<|zm ?_
          refine kr1 func64 results64 rfl (fun w hs => ?_)
          first | (exfalso; omega) | exact ⟨_, [], rfl, ⟨by (try simp only [rN] at *); simp [Eff.right, Eff.rightK, Eff.named, effId, *], rfl⟩, hs.fitD⟩
        ·refine ky<|ka rfl<|zm ?_
         refine kr1 func64 results64 rfl (fun w hs => ?_)
         first | (exfalso; omega) | exact ⟨_, [], rfl, ⟨by (try simp only [rN] at *); simp [Eff.right, Eff.rightK, Eff.named, effId, *], rfl⟩, hs.fitD⟩
end Go.Proofs.YtkbhldicnamcdaaGreat.L
namespace Go.Proofs.YtkbhldicnamcdaaGreat.L
open Go Go.RowKit
def Hp.join (a b : Hp) : Hp := fun x => match a x with | some o => some o | none => b x
theorem Hp.le_joinL (a b : Hp) : Hp.le a (Hp.join a b) := fun x o e => by unfold Hp.join; rw [e]
theorem Hp.le_joinR {a b : Hp} (h : Hp.apart a b) : Hp.le b (Hp.join a b) := fun x o e => by
 unfold Hp.join
 rcases h x with h | h
 ·rw [h]; exact e
 ·rw [h] at e; cases e
theorem Hp.join_le {a b c : Hp} (ha : Hp.le a c) (hb : Hp.le b c) : Hp.le (Hp.join a b) c := fun x o e => by
 unfold Hp.join at e
 cases hx : a x with
 | some o' => rw [hx] at e; cases e; exact ha x _ hx
 | none => rw [hx] at e; exact hb x o e
theorem Hp.join_apart {a b c : Hp} (ha : Hp.apart a c) (hb : Hp.apart b c) : Hp.apart (Hp.join a b) c := fun x => by
 unfold Hp.join
 rcases ha x with h | h
 ·rw [h]; exact hb x
 ·exact .inr h
theorem sepAll_split : ∀ {M L : List HP} {g h : Hp}, sepAll (M ++ L) g h → ∃ h1 h2, Hp.apart h1 h2 ∧ Hp.le h1 h ∧ Hp.le h2 h ∧ sepAll M g h1 ∧ sepAll L g h2
 | [], _, _, h, hs => ⟨fun _ => none, h, fun _ => .inl rfl, Hp.none_le _, Hp.le_refl _, trivial, hs⟩
 | A :: M, L, g, h, ⟨a1, a2, ap, l1, l2, ha, hs⟩ => by
  obtain ⟨k1, k2, kp, m1, m2, h1, h2⟩ := sepAll_split (M := M) hs
  exact ⟨Hp.join a1 k1, k2, Hp.join_apart (Hp.apart_le ap (Hp.le_refl _) m2) kp, Hp.join_le l1 (Hp.le_trans m1 l2), Hp.le_trans m2 l2,
   ⟨a1, k1, Hp.apart_le ap (Hp.le_refl _) m1, Hp.le_joinL _ _, Hp.le_joinR (Hp.apart_le ap (Hp.le_refl _) m1), ha, h1⟩, h2⟩
theorem sepAll_append : ∀ {M L : List HP} {g h h1 h2 : Hp}, Hp.apart h1 h2 → Hp.le h1 h → Hp.le h2 h → sepAll M g h1 → sepAll L g h2 → sepAll (M ++ L) g h
 | [], _, _, _, _, _, _, _, l2, _, hl => sepAll_mono (Hp.le_refl _) l2 hl
 | A :: M, L, g, h, h1, h2, ap, l1, l2, ⟨a1, a2, ap', m1, m2, ha, hm⟩, hl => by
  refine ⟨a1, Hp.join a2 h2, ?_, Hp.le_trans m1 l1, Hp.join_le (Hp.le_trans m2 l1) l2, ha, sepAll_append (Hp.apart_le ap m2 (Hp.le_refl _)) (Hp.le_joinL _ _) (Hp.le_joinR (Hp.apart_le ap m2 (Hp.le_refl _))) hm hl⟩
  exact Hp.apart_symm (Hp.join_apart (Hp.apart_symm ap') (Hp.apart_symm (Hp.apart_le ap m1 (Hp.le_refl _))))
def HP.ex {ι : Type} (f : ι → List HP) : HP := HP.own (fun g h => ∃ i, sepAll (f i) g h) (fun hg ⟨i, hi⟩ => ⟨i, sepAll_mono hg (Hp.le_refl _) hi⟩)
theorem St.exO {ι : Type} {f : ι → List HP} {ρ : World} {L : List HP} {w : World} (h : St ρ (HP.ex f :: L) w) : ∃ i, St ρ (f i ++ L) w := by
 obtain ⟨g, k, a, b, c, h1, h2, ap, l1, l2, ⟨i, hi⟩, d⟩ := h.body
 exact ⟨i, h.os, h.tape, h.output, g, k, a, b, c, sepAll_append ap l1 l2 hi d⟩
theorem St.exI {ι : Type} {f : ι → List HP} {ρ : World} {L : List HP} {w : World} (i : ι) (h : St ρ (f i ++ L) w) : St ρ (HP.ex f :: L) w := by
 obtain ⟨g, k, a, b, c, d⟩ := h.body
 obtain ⟨h1, h2, ap, l1, l2, hi, hl⟩ := sepAll_split d
 exact ⟨h.os, h.tape, h.output, g, k, a, b, c, h1, h2, ap, l1, l2, ⟨i, hi⟩, hl⟩
theorem St.exP {ι : Type} {f : ι → List HP} {ρ : World} {L L' : List HP} {w : World} (p : Pick L (HP.ex f) L') (h : St ρ L w) : ∃ i, St ρ (f i ++ L') w := (h.pick p).exO
section
variable {X : Fx} {E : Env} {L : List HP} {d : Option Tmp} {ty : TypeId} {pos : String} {af : Array Edge} {gd : Option (Nat × Bool)} {t : TypeId} {x y : Operand}
theorem q_six {s : ByteArray} {k : IntKind} {i : Int} {n : Nat} {c : UInt8} (ht : X.P.underlying t = some .string) (hx : Env.ev E x = some (.string s)) (hy : Env.ev E y = some (.int k i)) (hn : i = (n : Int)) (hc : (bytesOf s)[n]? = some c) :
  OpQ X ⟨d, .index t x y, ty, pos, af, gd⟩ E L (.int .u8 c.toNat) := by
 have hl : n < s.size := by
  have := (List.getElem?_eq_some_iff.1 hc).1
  simpa [bytesOf] using this
 have := q_sindex (X := X) (L := L) (d := d) (ty := ty) (pos := pos) (af := af) (gd := gd) ht hx hy tO tO
 have e : (s[i.toNat]'tO) = c := by
  subst hn
  have h2 := (List.getElem?_eq_some_iff.1 hc).2
  have h3 : s.data[n]'(by simpa using hl) = c := by simpa [bytesOf] using h2
  exact h3
 rw [e] at this
 exact this
end
def lookIx {κ : Type} [DecidableEq κ] : List (κ × Value) → κ → Nat → Option (Nat × Value)
 | [], _, _ => none
 | (a, v) :: l, k, i => if k = a then some (i, v) else lookIx l k (i + 1)
def mapGet {κ : Type} [DecidableEq κ] : List (κ × Value) → κ → Option Value
 | [], _ => none
 | (a, v) :: l, k => if k = a then some v else mapGet l k
def mapPut {κ : Type} [DecidableEq κ] : List (κ × Value) → κ → Value → List (κ × Value)
 | [], k, v => [(k, v)]
 | (a, u) :: l, k, v => if k = a then (a, v) :: l else (a, u) :: mapPut l k v
theorem lookIx_get {κ : Type} [DecidableEq κ] (l : List (κ × Value)) (k : κ) : ∀ i, (lookIx l k i).map (·.2) = mapGet l k := by
 induction l with
 | nil => intro i; rfl
 | cons p l ih =>
  intro i
  obtain ⟨a, v⟩ := p
  unfold lookIx mapGet
  split
  ·rfl
  ·exact ih (i + 1)
structure MKey (P : Program) (kt : TypeId) {κ : Type} [DecidableEq κ] (enc : κ → Value) : Prop where
 check : ∀ e k w, (Instr.checkKey e 10000 kt (enc k)).run P w = .ok () w
 find : ∀ (ents : List MapEntry) (es : List (κ × Value)) (k : κ) (w : World), ents.map (fun e => (e.key, e.val)) = es.map (fun p => (enc p.1, p.2)) → (Instr.findKey kt (enc k) ents).run P w = .ok (lookIx es k 0) w
 stays : ∀ a, Instr.sameBits 10000 (enc a) (enc a) = true
theorem findNow_int (k : Int) : ∀ (ents : List MapEntry) (es : List (Int × Value)) (i : Nat), ents.map (fun e => (e.key, e.val)) = es.map (fun p => (Value.int .i64 p.1, p.2)) → Instr.findNow (.int .i64) (.int .i64 k) ents i = some (lookIx es k i)
 | [], es, i, h => by cases es with | nil => rfl | cons p l => cases h
 | e :: ents, es, i, h => by
  cases es with
  | nil => cases h
  | cons p l =>
   obtain ⟨a, v⟩ := p
   simp only [List.map_cons, List.cons.injEq, Prod.mk.injEq] at h
   obtain ⟨⟨h1, h2⟩, h3⟩ := h
   unfold Instr.findNow lookIx
   rw [h1, h2]
   by_cases hk : k = a
   ·subst hk; simp [Instr.sameNow]
   ·have : (k == a) = false := by simpa using hk
    simp only [Instr.sameNow, if_true, this, if_neg hk]
    exact findNow_int k ents l (i + 1) h3
theorem mkey_int {P : Program} {kt : TypeId} (h : P.underlying kt = some (.int .i64)) : MKey P kt (fun n : Int => Value.int .i64 n) where
 check := fun e k w => by
  exact MapKept.run_checkKey (n := 9999) h (by trivial) e
 find := fun ents es k w he => by
  simp [Instr.findKey, underlying, h, findNow_int k ents es 0 he]
 stays := fun a => by simp [Instr.sameBits]
def bornOk (ents : Array MapEntry) (clock : Nat) : Prop := (ents.toList.map (·.born)).Nodup ∧ ∀ x ∈ ents.toList, x.born < clock
theorem bornOk.push {ents : Array MapEntry} {clock : Nat} (h : bornOk ents clock) (k v : Value) : bornOk (ents.push { key := k, val := v, born := clock }) (clock + 1) := by
 obtain ⟨h1, h2⟩ := h
 constructor
 ·rw [Array.toList_push, List.map_append, List.nodup_append]
  refine ⟨h1, by simp, ?_⟩
  intro a ha b hb hab
  simp only [List.map_cons, List.map_nil, List.mem_singleton] at hb
  obtain ⟨x, hx, rfl⟩ := List.mem_map.1 ha
  have := h2 x hx
  omega
 ·intro x hx
  rw [Array.toList_push, List.mem_append, List.mem_singleton] at hx
  rcases hx with hx | rfl
  ·exact Nat.lt_succ_of_lt (h2 x hx)
  ·exact Nat.lt_succ_self _
theorem bornOk.modify {ents : Array MapEntry} {clock : Nat} (h : bornOk ents clock) (i : Nat) (k v : Value) : bornOk (ents.modify i fun e => { e with key := k, val := v }) clock := by
 have hm : (ents.modify i fun e => { e with key := k, val := v }).toList.map (·.born) = ents.toList.map (·.born) := by
  rw [Array.toList_modify]
  apply List.ext_getElem?
  intro j
  simp only [List.getElem?_map, List.getElem?_modify]
  split <;> cases ents.toList[j]? <;> rfl
 obtain ⟨h1, h2⟩ := h
 refine ⟨by rw [hm]; exact h1, fun x hx => ?_⟩
 have hb : x.born ∈ ents.toList.map (·.born) := by rw [← hm]; exact List.mem_map_of_mem hx
 obtain ⟨y, hy, e⟩ := List.mem_map.1 hb
 rw [← e]; exact h2 y hy
def mpO {κ : Type} (enc : κ → Value) (b : Nat) (es : List (κ × Value)) : HP :=
 HP.own (fun _ h => ∃ ents clock, h b = some (.map ents clock) ∧ ents.toList.map (fun e => (e.key, e.val)) = es.map (fun p => (enc p.1, p.2)) ∧ bornOk ents clock) (fun _ h => h)
section
variable {X : Fx} {E : Env} {L L1 : List HP} {d : Option Tmp} {ty : TypeId} {pos : String} {af : Array Edge} {gd : Option (Nat × Bool)} {t k e : TypeId} {x ix y : Operand} {κ : Type} [DecidableEq κ] {enc : κ → Value}
omit [DecidableEq κ] in
theorem l_makeMap (enc : κ → Value) : OpL X ⟨d, .makeMap t none, ty, pos, af, gd⟩ E L (fun v' L' => ∃ b, v' = .map (some b) ∧ L' = mpO enc b [] :: L) := fun a w hk hs => by
 unfold Oper.wp
 have : (execOp a.eval ⟨d, .makeMap t none, ty, pos, af, gd⟩).run X.P w = .ok (.value (.map (some w.heap.size))) { w with heap := w.heap.push (.map #[] 0) } := by
  simp [execOp, Instr.makeMap]
 rw [this]
 refine ⟨_, _, ⟨w.heap.size, rfl, rfl⟩, rfl, St.turn (A := pt w.heap.size (.map #[] 0)) (fun g h ha => ?_) (hs.alloc _)⟩
 exact ⟨#[], 0, ha, rfl, List.nodup_nil, fun x hx => by cases hx⟩
def zeroV (P : Program) (t : TypeId) : Option Value := (P.info? t).bind (·.zero)
theorem run_zeroV {P : Program} {t : TypeId} {z : Value} (h : zeroV P t = some z) (w : World) : (zeroValue t).run P w = .ok z w := by
 unfold zeroV at h
 obtain ⟨i, hi, hz⟩ := Option.bind_eq_some_iff.1 h
 simp [zeroValue, typeInfo, hi, hz]
omit [DecidableEq κ] in
theorem mpO_heap {ρ : World} {b : Nat} {es : List (κ × Value)} {w : World} (m : mpO enc b es ∈ L) (h : St ρ L w) : ∃ ents clock, w.heap[b]? = some (.map ents clock) ∧ ents.toList.map (fun e => (e.key, e.val)) = es.map (fun p => (enc p.1, p.2)) ∧ bornOk ents clock := by
 obtain ⟨g, q, _, _, c, d⟩ := h.body
 obtain ⟨h1, l1, ents, clock, hb, he, hbo⟩ := sepAll_mem m d
 exact ⟨ents, clock, c _ _ (l1 _ _ hb), he, hbo⟩
theorem q_lookup {b : Nat} {es : List (κ × Value)} {n : κ} {z : Value} (ht : X.P.underlying t = some (.map k e)) (K : MKey X.P k enc) (hz : zeroV X.P e = some z) (hx : Env.ev E x = some (.map (some b))) (hi : Env.ev E ix = some (enc n)) (m : mpO enc b es ∈ L) :
  OpQ X ⟨d, .lookup t x ix false, ty, pos, af, gd⟩ E L ((mapGet es n).getD z) := fun a w hk hs => by
 obtain ⟨ents, clock, hb, he, _⟩ := mpO_heap m hs
 have h1 := K.find ents.toList es n w he
 have h2 := lookIx_get es n 0
 simp only [execOp, hk.ev hx, hk.ev hi, Instr.lookup, Sem.run_bind, underlying, run_program, Result.andThen_ok, ht, Sem.run_pure, MapKept.run_getObj_map hb, K.check, h1]
 cases hl : lookIx es n 0 with
 | none => rw [hl] at h2; rw [← h2]; simp [run_zeroV hz]
 | some p => rw [hl] at h2; rw [← h2]; simp
theorem put_some {n : κ} {v : Value} {f : MapEntry → MapEntry} (hf : ∀ e, e.key = enc n → (f e).key = enc n ∧ (f e).val = v) : ∀ (ents : List MapEntry) (es : List (κ × Value)) (j i : Nat) (u : Value), ents.map (fun e => (e.key, e.val)) = es.map (fun p => (enc p.1, p.2)) → lookIx es n j = some (i, u) →
  j ≤ i ∧ (ents.modify (i - j) f).map (fun e => (e.key, e.val)) = (mapPut es n v).map (fun p => (enc p.1, p.2)) ∧ ((ents[i - j]?).map (·.key)) = some (enc n)
 | [], es, j, i, u, h, hl => by cases es with | nil => cases hl | cons p l => cases h
 | e :: ents, es, j, i, u, h, hl => by
  cases es with
  | nil => cases h
  | cons p l =>
   obtain ⟨a, x⟩ := p
   simp only [List.map_cons, List.cons.injEq, Prod.mk.injEq] at h
   obtain ⟨⟨h1, h2⟩, h3⟩ := h
   unfold lookIx at hl
   by_cases hk : n = a
   ·rw [if_pos hk] at hl
    cases hl
    subst hk
    obtain ⟨f1, f2⟩ := hf e h1
    simp [mapPut, f1, f2, h3, h1]
   ·rw [if_neg hk] at hl
    obtain ⟨l1, l2, l3⟩ := put_some hf ents l (j + 1) i u h3 hl
    have e1 : i - j = (i - (j + 1)) + 1 := by omega
    rw [e1]
    refine ⟨by omega, ?_, by simpa using l3⟩
    simp [mapPut, if_neg hk, h1, h2, l2]
theorem put_none {n : κ} : ∀ (es : List (κ × Value)) (j : Nat) (v : Value), lookIx es n j = none → mapPut es n v = es ++ [(n, v)]
 | [], _, _, _ => rfl
 | (a, x) :: l, j, v, h => by
  unfold lookIx at h
  by_cases hk : n = a
  ·rw [if_pos hk] at h; cases h
  ·rw [if_neg hk] at h
   simp [mapPut, if_neg hk, put_none l (j + 1) v h]
theorem l_mapUpdate {b : Nat} {es : List (κ × Value)} {n : κ} {v : Value} (ht : X.P.underlying t = some (.map k e)) (K : MKey X.P k enc) (hx : Env.ev E x = some (.map (some b))) (hi : Env.ev E ix = some (enc n)) (hy : Env.ev E y = some v) (hp : Pick L (mpO enc b es) L1) :
  OpL X ⟨d, .mapUpdate t x ix y, ty, pos, af, gd⟩ E L (fun v' L' => v' = undef ∧ L' = mpO enc b (mapPut es n v) :: L1) := fun a w hk hs => by
 have hs' := hs.pick hp
 obtain ⟨ents, clock, hb, he, hbo⟩ := mpO_heap (List.Mem.head _) hs'
 have h1 := K.find ents.toList es n w he
 -- the world, with the block turned
 have key : ∀ (ents' : Array MapEntry) (clock' : Nat), ents'.toList.map (fun e => (e.key, e.val)) = (mapPut es n v).map (fun p => (enc p.1, p.2)) → bornOk ents' clock' →
   St X.ρ (mpO enc b (mapPut es n v) :: L1) { w with heap := w.heap.setIfInBounds b (.map ents' clock') } := fun ents' clock' he' hbo' => by
  have ho : ∃ o, St X.ρ (pt b o :: L1) w := by
   obtain ⟨g, q, a', b', c, q1, q2, ap, l1, l2, ⟨en, cl, hbb, hee, _⟩, d'⟩ := hs'.body
   exact ⟨.map en cl, hs'.os, hs'.tape, hs'.output, g, q, a', b', c, q1, q2, ap, l1, l2, hbb, d'⟩
  obtain ⟨o, ho⟩ := ho
  have := ho.put (.map ents' clock')
  exact St.turn (A := pt b (.map ents' clock')) (fun g h ha => ⟨ents', clock', ha, he', hbo'⟩) this
 unfold Oper.wp
 cases hl : lookIx es n 0 with
 | none =>
  rw [hl] at h1
  have : (execOp a.eval ⟨d, .mapUpdate t x ix y, ty, pos, af, gd⟩).run X.P w = .ok .skip { w with heap := w.heap.setIfInBounds b (.map (ents.push { key := enc n, val := v, born := clock }) (clock + 1)) } := by
   simp only [execOp, hk.ev hx, hk.ev hi, hk.ev hy, Instr.mapUpdate, Sem.run_bind, underlying, run_program, Result.andThen_ok, ht, Sem.run_pure, MapKept.run_getObj_map hb, K.check, h1, MapKept.run_setObj_map _ hb]
  rw [this]
  refine ⟨undef, _, ⟨rfl, rfl⟩, rfl, key _ _ ?_ (hbo.push _ _)⟩
  rw [put_none es 0 v hl]
  simp [he]
 | some p =>
  obtain ⟨i, u⟩ := p
  rw [hl] at h1
  obtain ⟨_, hm, hkey⟩ := put_some (enc := enc) (n := n) (v := v) (f := fun e => { e with key := enc n, val := v }) (fun e _ => ⟨rfl, rfl⟩) ents.toList es 0 i u he hl
  rw [Nat.sub_zero] at hm hkey
  have hke : (((ents[i]?).map (·.key)).getD (enc n)) = enc n := by
   have : ents[i]? = ents.toList[i]? := by simp
   rw [this, hkey]; rfl
  have : (execOp a.eval ⟨d, .mapUpdate t x ix y, ty, pos, af, gd⟩).run X.P w = .ok .skip { w with heap := w.heap.setIfInBounds b (.map (ents.modify i fun e => { e with key := enc n, val := v }) clock) } := by
   simp only [execOp, hk.ev hx, hk.ev hi, hk.ev hy, Instr.mapUpdate, Sem.run_bind, underlying, run_program, Result.andThen_ok, ht, Sem.run_pure, MapKept.run_getObj_map hb, K.check, h1, hke, Instr.keyThatStays, K.stays, if_true, MapKept.run_setObj_map _ hb]
  rw [this]
  refine ⟨undef, _, ⟨rfl, rfl⟩, rfl, key _ _ ?_ (hbo.modify _ _ _)⟩
  rw [Array.toList_modify]
  exact hm
end
theorem mapGet_put {κ : Type} [DecidableEq κ] (es : List (κ × Value)) (k n : κ) (v : Value) : mapGet (mapPut es k v) n = if n = k then some v else mapGet es n := by
 induction es with
 | nil => simp [mapPut, mapGet]
 | cons p l ih =>
  obtain ⟨a, u⟩ := p
  unfold mapPut
  by_cases h : k = a
  ·subst h; rw [if_pos rfl]; simp only [mapGet]
   by_cases hn : n = k
   ·rw [if_pos hn, if_pos hn]
   ·rw [if_neg hn, if_neg hn, if_neg hn]
  ·rw [if_neg h]
   simp only [mapGet]
   by_cases hn : n = a
   ·subst hn; rw [if_pos rfl, if_pos rfl, if_neg (fun e => h e.symm)]
   ·rw [if_neg hn, if_neg hn, ih]
section
variable {X : Fx} {E : Env} {L L1 : List HP} {d : Option Tmp} {ty : TypeId} {pos : String} {af : Array Edge} {gd : Option (Nat × Bool)} {t t2 : TypeId} {x y : Operand}
theorem q_cap {p : Option Addr} {n c : Nat} {a e : TypeId} (ht : X.P.underlying a = some (.slice e)) (hx : Env.ev E x = some (.slice p n c)) : OpQ X ⟨d, .call ⟨.builtin .cap, [x].toArray, [a].toArray⟩, ty, pos, af, gd⟩ E L (.int .i64 c) := fun _ w hk _ => by
 simp [execOp, resolve, invoke, builtin, hk.ev hx, underlying, ht, Builtin.cap_, goInt]
theorem l_growNil {α : Type} (k : Kd α) {e bytes n : Nat} (ht : slElem X.P t = some (e, k.sz, bytes)) (ht2 : X.P.underlying t2 = some (.int .i64)) (hz : ∃ z, zeroOf X.P e = some z ∧ z.length = k.sz)
  (hx : Env.ev E x = some (.slice none 0 0)) (hy : Env.ev E y = some (.int .i64 (n : Int))) (h0 : 0 < n) (hbn : n ≤ 9223372036854775807) (hbig : n * bytes ≤ 281474976710656) :
  OpL X ⟨d, .call ⟨.builtin .append, [x, y].toArray, [t, t2].toArray⟩, ty, pos, af, gd⟩ E L (fun v L' => ∃ b cap', v = .slice (some ⟨b, 0, none⟩) n cap' ∧ L' = RowO k e (some ⟨b, 0, none⟩) cap' [] :: L) := fun a w hk hst => by
 have e1 := hk.ev hx
 have e2 := hk.ev hy
 unfold slElem at ht
 cases hu : X.P.underlying t with
 | none => rw [hu] at ht; simp at ht
 | some dd =>
  cases dd <;> rw [hu] at ht <;> simp only [reduceCtorEq] at ht
  rename_i e'
  cases hi : X.P.info? e' with
  | none => rw [hi] at ht; simp at ht
  | some inf =>
   rw [hi] at ht
   simp only [Option.some.injEq, Prod.mk.injEq] at ht
   obtain ⟨rfl, hisz, hiby⟩ := ht
   obtain ⟨z, hz1, hz2⟩ := hz
   unfold zeroOf at hz1
   rw [hi] at hz1
   simp only [Option.bind_some] at hz1
   obtain ⟨zv, hzv, hzc⟩ := Option.map_eq_some_iff.1 hz1
   have hzl : zv.cells.size = k.sz := by rw [← hz2, ← hzc]; simp
   have hw : IntKind.i64.wrap (n : Int) = n := wrap_i64 tO tO
   have hcap : Builtin.nextslicecap n 0 = n := by unfold Builtin.nextslicecap; rw [if_pos tO]
   have hforced : (Question.appendCap n 0 e').forced = false := rfl
   let nc := (Question.appendCap n 0 e').cut (w.tape w.drawn (Question.appendCap n 0 e'))
   have hnc : n ≤ nc := Nat.le_add_right _ _
   have hni : ¬ n = 0 := by omega
   have hneg : ¬ (n : Int) < 0 := by omega
   have hb1 : ¬ ((n : Int) * (inf.bytes : Int) > 2 ^ 48) := by
    rw [hiby]
    have : ((n * bytes : Nat) : Int) ≤ 281474976710656 := by omega
    rw [Int.natCast_mul] at this
    omega
   have hb2 : ¬ (n * inf.bytes > 2 ^ 48) := by rw [hiby]; omega
   have hmax : ¬ ((n : Int) > IntKind.i64.max) := by rw [IntKind.max_i64]; omega
   obtain ⟨new, hnew, hnsz⟩ : ∃ new : Array Value, (∀ w', (if n * k.sz = 0 then (pure #[] : Sem (Array Value)) else do pure (Builtin.zeroCells (← zeroValue e').cells n)).run X.P w' = .ok new w') ∧ new.size = n * k.sz := by
    by_cases hk0 : n * k.sz = 0
    ·exact ⟨#[], fun w' => by simp [hk0], by simp [hk0]⟩
    ·exact ⟨Builtin.zeroCells zv.cells n, fun w' => by simp [hk0, zeroValue, typeInfo, hi, hzv], by simp [Builtin.zeroCells, hzl]⟩
   let arr : Array Value := new ++ Builtin.zeroCells zv.cells (nc - n)
   have hrun : (Builtin.append_ #[t, t2] ty #[.slice none 0 0, .int .i64 (n : Int)]).run X.P w = .ok (.slice (some ⟨w.heap.size, 0, none⟩) n nc) { w with drawn := w.drawn + 1, heap := w.heap.push (.cells arr e') } := by
    have hnew' := hnew w.drew
    have hb3 : ¬ (281474976710656 < (n : Int) * (inf.bytes : Int)) := by simpa using hb1
    have hb4 : ¬ (281474976710656 < n * inf.bytes) := by simpa using hb2
    have hm2 : ¬ (9223372036854775807 < (n : Int)) := by omega
    by_cases hk0 : n * k.sz = 0
    ·rw [if_pos hk0] at hnew'
     have he : new = #[] := by simpa using hnew'.symm
     subst he
     rcases Nat.mul_eq_zero.1 hk0 with h | h
     ·exact absurd h hni
     ·simp [Builtin.append_, underlying, hu, sizeOf, typeInfo, hi, hisz, ht2, asInt, asIntOf, hw, hni, hneg, hb3, hb4, hm2, hcap, hforced, Builtin.firstCells, zeroValue, hzv, newRow, nc, arr, h]
      rfl
    ·rw [if_neg hk0] at hnew'
     have he : new = Builtin.zeroCells zv.cells n := by simpa [zeroValue, typeInfo, hi, hzv] using hnew'.symm
     subst he

     simp [Builtin.append_, underlying, hu, sizeOf, typeInfo, hi, hisz, ht2, asInt, asIntOf, hw, hni, hneg, hb3, hb4, hm2, hcap, hforced, Builtin.firstCells, zeroValue, hzv, newRow, nc, arr, hk0]
     rfl
   have harr : arr.size = 0 + nc * k.sz := by
    have : nc * k.sz = n * k.sz + (nc - n) * k.sz := by rw [← Nat.add_mul]; congr 1; omega
    simp only [arr, Array.size_append, hnsz, Builtin.zeroCells, Array.size_map, Array.size_range, hzl]
    omega
   unfold Oper.wp
   have : (execOp a.eval ⟨d, .call ⟨.builtin .append, [x, y].toArray, [t, t2].toArray⟩, ty, pos, af, gd⟩).run X.P w = .ok (.value (.slice (some ⟨w.heap.size, 0, none⟩) n nc)) { w with drawn := w.drawn + 1, heap := w.heap.push (.cells arr e') } := by
    simp only [execOp, resolve, invoke, builtin, Sem.run_bind, Sem.run_pure, Result.andThen_ok, List.map_toArray, List.map_cons, List.map_nil, e1, e2]
    rw [hrun]
    rfl
   rw [this]
   have hL1 := (hst.drewN (w.drawn + 1) (Nat.le_succ _)).alloc (.cells arr e')
   refine ⟨_, _, ⟨w.heap.size, nc, rfl, rfl⟩, rfl, rowO_shut (Nat.le_of_eq harr.symm) (by simp) ?_⟩
   obtain ⟨g, q, a1, b1, c1, h1, h2, ap, l1, l2, hb, dd⟩ := hL1.body
   exact ⟨hL1.os, hL1.tape, hL1.output, g, q, a1, b1, c1, h1, h2, ap, l1, l2, hb, sepAll_cons_per (A := rowP k arr 0 []) rfl (h1 := fun _ => none) (fun i x hx => by simp at hx) dd⟩
end
structure Sl (α : Type) where
 q : Option Addr
 c : Nat
 l : List α
def Sl.cells {α : Type} (s : Sl α) : List Value := [.slice s.q s.l.length s.c]
def Kd.sl {α : Type} : Kd (Sl α) := Kd.flat 1 Sl.cells (fun _ => rfl) (fun _ v h => by simp [Sl.cells] at h; subst h; rfl)
def NestSl {α : Type} (k : Kd α) (l : List (Sl α)) : HP := HP.per (fun g => ∀ s ∈ l, (RowF k s.q s.l).holds g (fun _ => none)) (fun hg h s hs => (RowF k s.q s.l).mono hg (h s hs))
instance {α : Type} {k : Kd α} {l : List (Sl α)} : Pers (NestSl k l) := ⟨rfl⟩
theorem nestSl_at {α : Type} {k : Kd α} {l : List (Sl α)} {ρ : World} {L : List HP} {w : World} {s : Sl α} (m : NestSl k l ∈ L) (hs : s ∈ l) (h : St ρ L w) : St ρ (RowF k s.q s.l :: L) w :=
 St.derive m rfl (fun _ _ hn => (RowF k s.q s.l).free rfl ((hn : ∀ s ∈ l, _) s hs)) h
theorem nestSl_nil {α : Type} {k : Kd α} {ρ : World} {L : List HP} {w : World} (h : St ρ L w) : St ρ (NestSl k [] :: L) w := by
 obtain ⟨g, q, a, b, c, d⟩ := h.body
 exact ⟨h.os, h.tape, h.output, g, q, a, b, c, sepAll_cons_per (A := NestSl k []) rfl (h1 := fun _ => none) (fun s hs => by cases hs) d⟩
theorem nestSl_cons {α : Type} {k : Kd α} {l : List (Sl α)} {ρ : World} {L : List HP} {w : World} (s : Sl α) (m : NestSl k l ∈ L) (ms : RowF k s.q s.l ∈ L) (h : St ρ L w) : St ρ (NestSl k (s :: l) :: L) w :=
 St.derive2 m ms rfl (fun g h1 h2 hn hr => fun t ht => by
  rcases List.mem_cons.1 ht with rfl | ht
  ·exact (RowF k t.q t.l).free rfl hr
  ·exact (hn : ∀ s ∈ l, _) t ht) h
section
variable {α : Type} {k : Kd α} {g : Hp} {c c' : Array Value} {o o' : Nat} {xs ys : List α}
theorem rowAt.take (h : rowAt k g c o xs) (n : Nat) : rowAt k g c o (xs.take n) := fun i x hx => by
 rw [List.getElem?_take] at hx
 split at hx
 ·exact h i x hx
 ·cases hx
theorem rowAt.drop (h : rowAt k g c o xs) (n : Nat) : rowAt k g c (o + n * k.sz) (xs.drop n) := fun i x hx => by
 rw [List.getElem?_drop] at hx
 obtain ⟨cs, h1, h2⟩ := h _ x hx
 refine ⟨cs, h1, fun j v hv => ?_⟩
 have := h2 j v hv
 rwa [Nat.add_mul, ← Nat.add_assoc] at this
theorem row_bound {n i j : Nat} {sz l : Nat} (hi : i < n) (hl : l = sz) (hj : j < l) : i * sz + j < n * sz := by
 have hm : (i + 1) * sz ≤ n * sz := Nat.mul_le_mul_right _ hi
 rw [Nat.succ_mul] at hm
 omega
theorem rowAt.same (h : rowAt k g c o xs) (e : ∀ j, j < xs.length * k.sz → c'[o' + j]? = c[o + j]?) : rowAt k g c' o' xs := fun i x hx => by
 obtain ⟨cs, h1, h2⟩ := h i x hx
 refine ⟨cs, h1, fun j v hv => ?_⟩
 have hb := row_bound (List.getElem?_eq_some_iff.1 hx).1 (k.len h1) (List.getElem?_eq_some_iff.1 hv).1
 rw [Nat.add_assoc, e _ hb, ← Nat.add_assoc]
 exact h2 j v hv
theorem rowAt.splice {new : Array Value} {i cap : Nat} (h : rowAt k g c o xs) (hn : rowAt k g new 0 ys) (hs : new.size = ys.length * k.sz) (hi : i ≤ xs.length) (hf : i + ys.length ≤ cap) (hc : o + cap * k.sz ≤ c.size) :
  rowAt k g (spl c (o + i * k.sz) new.toList) o (xs.take i ++ ys ++ xs.drop (i + ys.length)) := by
 have hfit : o + i * k.sz + new.toList.length ≤ c.size := by
  have := Nat.mul_le_mul_right k.sz hf
  rw [Nat.add_mul] at this
  simp only [Array.length_toList]
  omega
 have hget := fun j => spl_get new.toList c (o + i * k.sz) j hfit
 have hlen : new.toList.length = ys.length * k.sz := by simp [hs]
 have ht : (xs.take i).length = i := by rw [List.length_take]; omega
 refine rowAt.append (rowAt.append (h.take i) hn (d := spl c (o + i * k.sz) new.toList) (q := o) (fun j hj => ?_) (fun j hj => ?_)) (h.drop (i + ys.length)) (fun j _ => rfl) (fun j hj => ?_)
 ·rw [ht] at hj
  rw [hget, if_neg tO]
 ·rw [ht, hget, if_pos tO, Nat.zero_add, Array.getElem?_toList]
  congr 1
  omega
 ·rw [hget, if_neg, List.length_append, ht]
  rw [List.length_append, ht, hlen, Nat.add_mul]
  omega
end
theorem isRow_take {α : Type} {A : HP} {k : Kd α} {p : Option Addr} {xs : List α} (h : IsRow A k p xs) (n : Nat) : IsRow A k p (xs.take n) := fun g q ha => by
 rcases h g q ha with rfl | ⟨b, o, c, e, fr, hp, hb, hr⟩
 ·exact .inl (by simp)
 ·exact .inr ⟨b, o, c, e, fr, hp, hb, hr.take n⟩
section
variable {P : Program} {α : Type} {k : Kd α} {ρ : World} {L1 : List HP} {w : World}
theorem run_copyO {t t2 ty e e' bytes ns nd capd m i b o cap : Nat} {xs ys : List α} {x : Value} {new c : Array Value} (ht : slElem P t = some (e, k.sz, bytes)) (hlen : (Builtin.lenOf x).run P w = .ok ns w) (hm : Nat.min ns nd = m)
  (hnew : (Builtin.firstCells k.sz m x).run P w = .ok new w) (hsz : new.size = m * k.sz) (hone : ∀ v ∈ new.toList, v.oneCell' = true) (hys : ys.length = m) (hcs : o + cap * k.sz ≤ c.size) (hl : xs.length ≤ cap) (hi : i ≤ xs.length) (hfit : i + m ≤ cap)
  (hst : St ρ (pt b (.cells c e' (0, 0)) :: rowP k c o xs :: rowP k new 0 ys :: L1) w) :
  ∃ w', (Builtin.copy_ #[t, t2] ty #[.slice (some ⟨b, o + i * k.sz, none⟩) nd capd, x]).run P w = .ok (goInt m) w' ∧ St ρ (RowO k e' (some ⟨b, o, none⟩) cap (xs.take i ++ ys ++ xs.drop (i + m)) :: L1) w' := by
 subst hys
 have hb := hst.pt_heap (List.Mem.head _)
 have hmul : (i + ys.length) * k.sz ≤ cap * k.sz := Nat.mul_le_mul_right _ hfit
 rw [Nat.add_mul] at hmul
 have hrun := run_storeCells (P := P) (b := b) (o := o + i * k.sz) new.toList 0 w c hb hone (by simp [hsz]; omega)
 rw [Nat.add_zero] at hrun
 unfold slElem at ht
 cases hu : P.underlying t with
 | none => rw [hu] at ht; simp at ht
 | some dd =>
  cases dd <;> rw [hu] at ht <;> simp only [reduceCtorEq] at ht
  rename_i e1
  cases hinf : P.info? e1 with
  | none => rw [hinf] at ht; simp at ht
  | some inf =>
   rw [hinf] at ht
   simp only [Option.some.injEq, Prod.mk.injEq] at ht
   obtain ⟨rfl, hisz, _⟩ := ht
   refine ⟨putBlk w b (.cells (spl c (o + i * k.sz) new.toList) e' (0, 0)), ?_, ?_⟩
   ·simp only [Builtin.copy_, underlying, hu, sizeOf, typeInfo, hinf, hisz, Sem.run_bind, Sem.run_pure, run_program, Result.andThen_ok, hlen, hm, hnew, hrun]
    simp [hu, hinf, hisz, hlen, hm, hnew, hrun, Result.andThen_ok]
   ·have hL2 := hst.put (.cells (spl c (o + i * k.sz) new.toList) e' (0, 0))
    have hL3 := St.derive2 (B := rowP k (spl c (o + i * k.sz) new.toList) o (xs.take i ++ ys ++ xs.drop (i + ys.length))) (List.Mem.tail _ (List.Mem.head _)) (List.Mem.tail _ (List.Mem.tail _ (List.Mem.head _))) rfl
      (fun g _ _ h1 h2 => rowAt.splice (h1 : rowAt k g c o xs) (h2 : rowAt k g new 0 ys) hsz hi hfit hcs) hL2
    have hL4 := ((((hL3.pick (.there .here)).pick (.there (.there .here))).tail).pick (.there (.there .here))).tail
    refine rowO_shut (c := spl c (o + i * k.sz) new.toList) (by rw [spl_size]; exact hcs) ?_ hL4
    simp only [List.length_append, List.length_take, List.length_drop]; omega
theorem run_appendIn {t t2 ty e e' bytes m i b o cap : Nat} {xs ys : List α} {x : Value} {new c : Array Value} {ds : TypeDesc} (ht : slElem P t = some (e, k.sz, bytes)) (ht2 : P.underlying t2 = some ds) (hds : ∀ q, ds ≠ .int q) (hlen : (Builtin.lenOf x).run P w = .ok m w)
  (hnew : (Builtin.firstCells k.sz m x).run P w = .ok new w) (hsz : new.size = m * k.sz) (hone : ∀ v ∈ new.toList, v.oneCell' = true) (hys : ys.length = m) (hcs : o + cap * k.sz ≤ c.size) (hi : i ≤ xs.length) (hfit : i + m ≤ cap)
  (hst : St ρ (pt b (.cells c e' (0, 0)) :: rowP k c o xs :: rowP k new 0 ys :: L1) w) :
  ∃ w', (Builtin.append_ #[t, t2] ty #[.slice (some ⟨b, o, none⟩) i cap, x]).run P w = .ok (.slice (some ⟨b, o, none⟩) (i + m) cap) w' ∧ St ρ (RowO k e' (some ⟨b, o, none⟩) cap (xs.take i ++ ys) :: L1) w' := by
 subst hys
 have hb := hst.pt_heap (List.Mem.head _)
 have hmul : (i + ys.length) * k.sz ≤ cap * k.sz := Nat.mul_le_mul_right _ hfit
 rw [Nat.add_mul] at hmul
 have hrun := run_storeCells (P := P) (b := b) (o := o + i * k.sz) new.toList 0 w c hb hone (by simp [hsz]; omega)
 rw [Nat.add_zero] at hrun
 unfold slElem at ht
 cases hu : P.underlying t with
 | none => rw [hu] at ht; simp at ht
 | some dd =>
  cases dd <;> rw [hu] at ht <;> simp only [reduceCtorEq] at ht
  rename_i e1
  cases hinf : P.info? e1 with
  | none => rw [hinf] at ht; simp at ht
  | some inf =>
   rw [hinf] at ht
   simp only [Option.some.injEq, Prod.mk.injEq] at ht
   obtain ⟨rfl, hisz, _⟩ := ht
   refine ⟨putBlk w b (.cells (spl c (o + i * k.sz) new.toList) e' (0, 0)), ?_, ?_⟩
   ·have h0 : (storeCells ((⟨b, o, none⟩ : Addr).add (i * k.sz)) new.toList).run P w = .ok () (putBlk w b (.cells (spl c (o + i * k.sz) new.toList) e' (0, 0))) := by rw [add_addr]; exact hrun
    simp [Builtin.append_, underlying, hu, sizeOf, typeInfo, hinf, hisz, ht2, hlen, hfit, hnew, h0, Result.andThen_ok]
   ·have hL2 := hst.put (.cells (spl c (o + i * k.sz) new.toList) e' (0, 0))
    have hL3 := St.derive2 (B := rowP k (spl c (o + i * k.sz) new.toList) o (xs.take i ++ ys)) (List.Mem.tail _ (List.Mem.head _)) (List.Mem.tail _ (List.Mem.tail _ (List.Mem.head _))) rfl
      (fun g _ _ h1 h2 => by
       have h := (rowAt.splice (h1 : rowAt k g c o xs) (h2 : rowAt k g new 0 ys) hsz hi hfit hcs).take (i + ys.length)
       rwa [List.take_append_of_le_length (by rw [List.length_append, List.length_take]; omega), List.take_of_length_le (by rw [List.length_append, List.length_take]; omega)] at h) hL2
    have hL4 := ((((hL3.pick (.there .here)).pick (.there (.there .here))).tail).pick (.there (.there .here))).tail
    refine rowO_shut (c := spl c (o + i * k.sz) new.toList) (by rw [spl_size]; exact hcs) ?_ hL4
    simp only [List.length_append, List.length_take]; omega
theorem run_clearSpare {t ty e e' bytes n i b o cap cc : Nat} {xs : List α} {z : List Value} {c : Array Value} (ht : slElem P t = some (e, k.sz, bytes)) (hz : zeroOf P e = some z) (hzl : z.length = k.sz) (hz1 : ∀ v ∈ z, v.oneCell' = true) (hk : 0 < k.sz)
  (hcs : o + cap * k.sz ≤ c.size) (hl : xs.length ≤ i) (hfit : i + n ≤ cap) (hst : St ρ (pt b (.cells c e' (0, 0)) :: rowP k c o xs :: L1) w) :
  ∃ w', (Builtin.clear_ #[t] ty #[.slice (some ⟨b, o + i * k.sz, none⟩) n cc]).run P w = .ok (.tuple #[]) w' ∧ St ρ (RowO k e' (some ⟨b, o, none⟩) cap xs :: L1) w' := by
 have hb := hst.pt_heap (List.Mem.head _)
 have hmul : (i + n) * k.sz ≤ cap * k.sz := Nat.mul_le_mul_right _ hfit
 rw [Nat.add_mul] at hmul
 unfold slElem at ht
 cases hu : P.underlying t with
 | none => rw [hu] at ht; simp at ht
 | some dd =>
  cases dd <;> rw [hu] at ht <;> simp only [reduceCtorEq] at ht
  rename_i e1
  cases hinf : P.info? e1 with
  | none => rw [hinf] at ht; simp at ht
  | some inf =>
   rw [hinf] at ht
   simp only [Option.some.injEq, Prod.mk.injEq] at ht
   obtain ⟨rfl, hisz, _⟩ := ht
   unfold zeroOf at hz
   rw [hinf] at hz
   simp only [Option.bind_some] at hz
   obtain ⟨zv, hzv, hzc⟩ := Option.map_eq_some_iff.1 hz
   have hzs : zv.cells.size = k.sz := by rw [← hzl, ← hzc]; simp
   have hzo : ∀ v ∈ (Builtin.zeroCells zv.cells n).toList, v.oneCell' = true := fun v hv => by
    simp only [Builtin.zeroCells, Array.toList_map, List.mem_map] at hv
    obtain ⟨j, _, rfl⟩ := hv
    have hlt : j % zv.cells.size < zv.cells.size := Nat.mod_lt _ tO
    rw [getElem!_pos zv.cells _ hlt]
    exact hz1 _ (by rw [← hzc]; exact Array.getElem_mem_toList hlt)
   have hzn : (Builtin.zeroCells zv.cells n).size = n * k.sz := by simp [Builtin.zeroCells, hzs]
   by_cases hn : n = 0
   ·subst hn
    exact ⟨w, by simp [Builtin.clear_, underlying, hu], rowO_shut hcs tO hst⟩
   ·have hrun := run_storeCells (P := P) (b := b) (o := o + i * k.sz) (Builtin.zeroCells zv.cells n).toList 0 w c hb hzo (by simp [hzn]; omega)
    rw [Nat.add_zero] at hrun
    refine ⟨putBlk w b (.cells (spl c (o + i * k.sz) (Builtin.zeroCells zv.cells n).toList) e' (0, 0)), ?_, ?_⟩
    rotate_left
    ·have hL2 := hst.put (.cells (spl c (o + i * k.sz) (Builtin.zeroCells zv.cells n).toList) e' (0, 0))
     have hle : xs.length * k.sz ≤ i * k.sz := Nat.mul_le_mul_right _ hl
     have hL3 := St.derive (B := rowP k (spl c (o + i * k.sz) (Builtin.zeroCells zv.cells n).toList) o xs) (List.Mem.tail _ (List.Mem.head _)) rfl
      (fun g _ h1 => (h1 : rowAt k g c o xs).same (fun j hj => by rw [spl_get _ _ _ _ (by simp [hzn]; omega), if_neg tO])) hL2
     have hL4 := ((hL3.pick (.there .here)).pick (.there (.there .here))).tail
     exact rowO_shut (c := spl c (o + i * k.sz) (Builtin.zeroCells zv.cells n).toList) (by rw [spl_size]; exact hcs) tO hL4
    ·cases n with
     | zero => exact absurd rfl hn
     | succ n => simp [Builtin.clear_, underlying, hu, zeroValue, typeInfo, hinf, hzv, hrun, Result.andThen_ok]
end
section
variable {X : Fx} {E : Env} {L L1 : List HP} {d : Option Tmp} {ty : TypeId} {pos : String} {af : Array Edge} {gd : Option (Nat × Bool)} {t t2 : TypeId} {x y : Operand}
theorem cutAddr_in {b o cap i sz : Nat} (h : i < cap) : cutAddr (some ⟨b, o, none⟩) cap i sz = some ⟨b, o + i * sz, none⟩ := by
 unfold cutAddr
 rw [if_neg tO, Option.map_some, add_addr]
theorem l_copyA {α : Type} (k : Kd α) {A : HP} {p q : Option Addr} {e e' bytes cap i nd capd ns c2 m : Nat} {xs ys : List α} (ht : slElem X.P t = some (e, k.sz, bytes)) (hx : Env.ev E x = some (.slice (cutAddr p cap i k.sz) nd capd)) (hy : Env.ev E y = some (.slice q ns c2))
  (hp : Pick L (RowO k e' p cap xs) L1) (hA : IsRow A k q ys) (mq : A ∈ L1) (hns : ns = ys.length) (hm : Nat.min ns nd = m) (hi : i ≤ xs.length) (hic : i < cap) (hfit : i + m ≤ cap) :
  OpL X ⟨d, .call ⟨.builtin .copy, [x, y].toArray, [t, t2].toArray⟩, ty, pos, af, gd⟩ E L (fun v L' => v = .int .i64 m ∧ L' = RowO k e' p cap (xs.take i ++ ys.take m ++ xs.drop (i + m)) :: L1) := fun a w hk hst => by
 have h1 := hst.pick hp
 have hml : m ≤ ys.length := by rw [← hm, ← hns]; exact Nat.min_le_left _ _
 rcases rowO_open h1 with ⟨_, hc0, _⟩ | ⟨b, o, c, rfl, hl, hcs, h2⟩
 ·omega
 obtain ⟨new, hnew, hsz, hone, h3⟩ := row_cells (P := X.P) (n := m) (c := c2) (isRow_take hA m) (List.Mem.tail (pt b (.cells c e' (0, 0))) (List.Mem.tail (rowP k c o xs) mq)) (by rw [List.length_take]; omega) h2
 have hnew' : (Builtin.firstCells k.sz m (.slice q ns c2)).run X.P w = .ok new w := by
  have := hnew w rfl
  cases q <;> exact this
 have h4 : St X.ρ (pt b (.cells c e' (0, 0)) :: rowP k c o xs :: rowP k new 0 (ys.take m) :: L1) w := (h3.pick (.there (.there .here))).pick (.there (.there .here))
 obtain ⟨w', hrun, hst'⟩ := run_copyO (t2 := t2) (ty := ty) (capd := capd) (i := i) ht (by simp [Builtin.lenOf]) hm hnew' hsz hone (by rw [List.length_take]; omega) hcs hl hi hfit h4
 unfold Oper.wp
 have : (execOp a.eval ⟨d, .call ⟨.builtin .copy, [x, y].toArray, [t, t2].toArray⟩, ty, pos, af, gd⟩).run X.P w = .ok (.value (.int .i64 m)) w' := by
  rw [cutAddr_in hic] at hx
  simp only [execOp, resolve, invoke, builtin, Sem.run_bind, Sem.run_pure, Result.andThen_ok, List.map_toArray, List.map_cons, List.map_nil, hk.ev hx, hk.ev hy]
  rw [hrun]
  rfl
 rw [this]
 exact ⟨_, _, ⟨rfl, rfl⟩, rfl, hst'⟩
theorem isO_cut {α : Type} {k : Kd α} {e : TypeId} {p : Option Addr} {cap : Nat} {xs : List α} (s0 : Nat) : IsRow (RowO k e p cap xs) k (cutAddr p cap s0 k.sz) (xs.drop s0) := fun g h ha => by
 rcases (ha : _ ∨ _) with ⟨_, _, hx⟩ | ⟨b, o, c, rfl, hl, hb, _, hr⟩
 ·exact .inl (by rw [hx]; simp)
 ·by_cases hs : cap ≤ s0
  ·exact .inl (List.drop_eq_nil_of_le tO)
  ·exact .inr ⟨b, _, c, e, (0, 0), cutAddr_in tO, .inr hb, hr.drop s0⟩
theorem l_copyS {α : Type} (k : Kd α) {p : Option Addr} {e e' bytes cap i s0 nd capd ns c2 m : Nat} {xs : List α} (ht : slElem X.P t = some (e, k.sz, bytes)) (hx : Env.ev E x = some (.slice (cutAddr p cap i k.sz) nd capd)) (hy : Env.ev E y = some (.slice (cutAddr p cap s0 k.sz) ns c2))
  (hp : Pick L (RowO k e' p cap xs) L1) (hm : Nat.min ns nd = m) (hi : i ≤ xs.length) (hic : i < cap) (hfit : i + m ≤ cap) (hsm : s0 + m ≤ xs.length) :
  OpL X ⟨d, .call ⟨.builtin .copy, [x, y].toArray, [t, t2].toArray⟩, ty, pos, af, gd⟩ E L (fun v L' => v = .int .i64 m ∧ L' = RowO k e' p cap (xs.take i ++ (xs.drop s0).take m ++ xs.drop (i + m)) :: L1) := fun a w hk hst => by
 have h1 := hst.pick hp
 obtain ⟨new, hnew, hsz, hone, h2⟩ := row_cells (P := X.P) (n := m) (c := c2) (isRow_take (isO_cut (e := e') (p := p) (cap := cap) (xs := xs) s0) m) (List.Mem.head L1) (by rw [List.length_take, List.length_drop]; omega) h1
 rcases rowO_open (h2.pick (.there .here)) with ⟨_, hc0, _⟩ | ⟨b, o, c, rfl, hl, hcs, h3⟩
 ·omega
 have hnew' : (Builtin.firstCells k.sz m (.slice (cutAddr (some ⟨b, o, none⟩) cap s0 k.sz) ns c2)).run X.P w = .ok new w := by
  have := hnew w rfl
  revert this
  cases cutAddr (some ⟨b, o, none⟩) cap s0 k.sz <;> exact id
 obtain ⟨w', hrun, hst'⟩ := run_copyO (t2 := t2) (ty := ty) (capd := capd) (i := i) ht (by simp [Builtin.lenOf]) hm hnew' hsz hone (by rw [List.length_take, List.length_drop]; omega) hcs hl hi hfit h3
 unfold Oper.wp
 have : (execOp a.eval ⟨d, .call ⟨.builtin .copy, [x, y].toArray, [t, t2].toArray⟩, ty, pos, af, gd⟩).run X.P w = .ok (.value (.int .i64 m)) w' := by
  rw [cutAddr_in hic] at hx
  simp only [execOp, resolve, invoke, builtin, Sem.run_bind, Sem.run_pure, Result.andThen_ok, List.map_toArray, List.map_cons, List.map_nil, hk.ev hx, hk.ev hy]
  rw [hrun]
  rfl
 rw [this]
 exact ⟨_, _, ⟨rfl, rfl⟩, rfl, hst'⟩
theorem l_appendIn {α : Type} (k : Kd α) {p : Option Addr} {e e' e2 bytes cap i s0 c2 m : Nat} {xs : List α} (ht : slElem X.P t = some (e, k.sz, bytes)) (ht2 : X.P.underlying t2 = some (.slice e2)) (hx : Env.ev E x = some (.slice p i cap)) (hy : Env.ev E y = some (.slice (cutAddr p cap s0 k.sz) m c2))
  (hp : Pick L (RowO k e' p cap xs) L1) (hi : i ≤ xs.length) (hfit : i + m ≤ cap) (hsm : s0 + m ≤ xs.length) (hcap : 0 < cap) :
  OpL X ⟨d, .call ⟨.builtin .append, [x, y].toArray, [t, t2].toArray⟩, ty, pos, af, gd⟩ E L (fun v L' => v = .slice p (i + m) cap ∧ L' = RowO k e' p cap (xs.take i ++ (xs.drop s0).take m) :: L1) := fun a w hk hst => by
 have h1 := hst.pick hp
 obtain ⟨new, hnew, hsz, hone, h2⟩ := row_cells (P := X.P) (n := m) (c := c2) (isRow_take (isO_cut (e := e') (p := p) (cap := cap) (xs := xs) s0) m) (List.Mem.head L1) (by rw [List.length_take, List.length_drop]; omega) h1
 rcases rowO_open (h2.pick (.there .here)) with ⟨_, hc0, _⟩ | ⟨b, o, c, rfl, hl, hcs, h3⟩
 ·omega
 have hnew' := hnew w rfl
 obtain ⟨w', hrun, hst'⟩ := run_appendIn (t2 := t2) (ty := ty) (i := i) ht ht2 (fun _ h => by cases h) (by simp [Builtin.lenOf]) hnew' hsz hone (by rw [List.length_take, List.length_drop]; omega) hcs hi hfit h3
 unfold Oper.wp
 have : (execOp a.eval ⟨d, .call ⟨.builtin .append, [x, y].toArray, [t, t2].toArray⟩, ty, pos, af, gd⟩).run X.P w = .ok (.value (.slice (some ⟨b, o, none⟩) (i + m) cap)) w' := by
  simp only [execOp, resolve, invoke, builtin, Sem.run_bind, Sem.run_pure, Result.andThen_ok, List.map_toArray, List.map_cons, List.map_nil, hk.ev hx, hk.ev hy]
  rw [hrun]
  rfl
 rw [this]
 exact ⟨_, _, ⟨rfl, rfl⟩, rfl, hst'⟩
theorem l_clearS {α : Type} (k : Kd α) {p : Option Addr} {e e' bytes cap i n cc : Nat} {xs : List α} {z : List Value} (ht : slElem X.P t = some (e, k.sz, bytes)) (hz : zeroOf X.P e = some z) (hzl : z.length = k.sz) (hz1 : ∀ v ∈ z, v.oneCell' = true) (hk0 : 0 < k.sz) (hx : Env.ev E x = some (.slice (cutAddr p cap i k.sz) n cc))
  (hp : Pick L (RowO k e' p cap xs) L1) (hl : xs.length ≤ i) (hic : i < cap) (hfit : i + n ≤ cap) :
  OpL X ⟨d, .call ⟨.builtin .clear, [x].toArray, [t].toArray⟩, ty, pos, af, gd⟩ E L (fun v L' => v = .tuple #[] ∧ L' = RowO k e' p cap xs :: L1) := fun a w hk hst => by
 have h1 := hst.pick hp
 rcases rowO_open h1 with ⟨_, hc0, _⟩ | ⟨b, o, c, rfl, _, hcs, h3⟩
 ·omega
 obtain ⟨w', hrun, hst'⟩ := run_clearSpare (ty := ty) (cc := cc) (i := i) ht hz hzl hz1 hk0 hcs hl hfit h3
 unfold Oper.wp
 have : (execOp a.eval ⟨d, .call ⟨.builtin .clear, [x].toArray, [t].toArray⟩, ty, pos, af, gd⟩).run X.P w = .ok (.value (.tuple #[])) w' := by
  rw [cutAddr_in hic] at hx
  simp only [execOp, resolve, invoke, builtin, Sem.run_bind, Sem.run_pure, Result.andThen_ok, List.map_toArray, List.map_cons, List.map_nil, hk.ev hx]
  rw [hrun]
  rfl
 rw [this]
 exact ⟨_, _, ⟨rfl, rfl⟩, rfl, hst'⟩
theorem rowAt.setE {α : Type} {sz : Nat} {enc : α → List Value} {hl : ∀ x, (enc x).length = sz} {h1 : ∀ x, ∀ v ∈ enc x, v.oneCell' = true} {g : Hp} {c c' : Array Value} {o n : Nat} {xs : List α} {el' : α} (h : rowAt (Kd.flat sz enc hl h1) g c o xs)
  (hout : ∀ i j, i ≠ n → j < sz → c'[o + i * sz + j]? = c[o + i * sz + j]?) (hin : ∀ j v, (enc el')[j]? = some v → c'[o + n * sz + j]? = some v) : rowAt (Kd.flat sz enc hl h1) g c' o (xs.set n el') := fun i x hx => by
 rw [List.getElem?_set] at hx
 split at hx
 ·rename_i e
  subst e
  split at hx
  ·cases hx
   exact ⟨enc el', rfl, hin⟩
  ·cases hx
 ·rename_i e
  obtain ⟨cs, h1', h2⟩ := h i x hx
  cases (h1' : cs = enc x)
  refine ⟨enc x, rfl, fun j v hv => ?_⟩
  have hj : j < sz := by rw [← hl x]; exact (List.getElem?_eq_some_iff.1 hv).1
  show c'[o + i * sz + j]? = some v
  rw [hout i j (fun h => e h.symm) hj]
  exact h2 j v hv
theorem lP {α : Type} {sz : Nat} {enc : α → List Value} {hl : ∀ x, (enc x).length = sz} {h1 : ∀ x, ∀ v ∈ enc x, v.oneCell' = true} {p : Option Addr} {e cap n j : Nat} {xs : List α} {el : α} {v : Value} (el' : α) (ht : cellK X.P t = some (false, 1)) (hx : Env.ev E x = some (.pointer (some (elA p n sz j)))) (hy : Env.ev E y = some v)
  (hv : v.oneCell' = true) (hp : Pick L (RowO (Kd.flat sz enc hl h1) e p cap xs) L1) (he : xs[n]? = some el) (hj : j < sz) (hset : (enc el).set j v = enc el') :
  OpL X ⟨d, .store t x y, ty, pos, af, gd⟩ E L (fun v' L' => v' = undef ∧ L' = RowO (Kd.flat sz enc hl h1) e p cap (xs.set n el') :: L1) := fun a w hk hs => by
 have hs' := hs.pick hp
 have hn : n < xs.length := (List.getElem?_eq_some_iff.1 he).1
 rcases rowO_open hs' with ⟨_, _, hx0, _⟩ | ⟨b, o, c, rfl, hlc, hcs, h2⟩
 ·rw [hx0] at hn; simp at hn
 have hb : w.heap[b]? = some (.cells c e (0, 0)) := h2.pt_heap (List.Mem.head _)
 have hcells : v.cells = #[v] := by cases v <;> first | rfl | (simp [Value.oneCell'] at hv)
 have hcs' : o + cap * sz ≤ c.size := hcs
 have hmul : (n + 1) * sz ≤ cap * sz := Nat.mul_le_mul_right _ tO
 rw [Nat.succ_mul] at hmul
 have hrun := run_storeCells (P := X.P) (b := b) (o := o + n * sz + j) [v] 0 w c hb (by simpa using hv) (by simp; omega)
 rw [Nat.add_zero] at hrun
 rw [elA_some] at hx
 unfold Oper.wp
 have : (execOp a.eval ⟨d, .store t x y, ty, pos, af, gd⟩).run X.P w = .ok .skip (putBlk w b (.cells (spl c (o + n * sz + j) [v]) e (0, 0))) := by
  simp only [execOp, hk.ev hx, hk.ev hy, Instr.storeAt, Instr.sureAddr, storeVar, Sem.run_bind, Sem.run_pure, Result.andThen_ok, run_sizeK ht, hcells]
  simp only [List.size_toArray, List.length_cons, List.length_nil, Nat.zero_add, ne_eq, not_true_eq_false, if_false]
  rw [hrun]
  simp
 rw [this]
 refine ⟨undef, _, ⟨rfl, rfl⟩, rfl, ?_⟩
 have hL2 := h2.put (.cells (spl c (o + n * sz + j) [v]) e (0, 0))
 have hget := fun q => spl_get [v] c (o + n * sz + j) q (by simp; omega)
 have key : ∀ {i q : Nat}, i ≠ n → q < sz → ¬ (o + i * sz + q = o + n * sz + j) := fun {i q} hi hq e => by
  rcases Nat.lt_or_gt_of_ne hi with h | h
  ·have := Nat.mul_le_mul_right sz (show i + 1 ≤ n from h); rw [Nat.succ_mul] at this; omega
  ·have := Nat.mul_le_mul_right sz (show n + 1 ≤ i from h); rw [Nat.succ_mul] at this; omega
 have hL3 := St.derive (B := rowP (Kd.flat sz enc hl h1) (spl c (o + n * sz + j) [v]) o (xs.set n el')) (List.Mem.tail _ (List.Mem.head _)) rfl
  (fun g _ hr => rowAt.setE (hr : rowAt (Kd.flat sz enc hl h1) g c o xs) (fun i q hi hq => by
    have := key hi hq
    rw [hget, if_neg (by simp only [List.length_singleton]; omega)])
   (fun q u hu => by
    rw [← hset, List.getElem?_set] at hu
    split at hu
    ·rename_i e
     subst e
     split at hu
     ·cases hu
      rw [hget, if_pos (by simp only [List.length_singleton]; omega), Nat.sub_self]; rfl
     ·cases hu
    ·rename_i e
     rw [hget, if_neg (by simp only [List.length_singleton]; omega)]
     obtain ⟨cs, h3, h4⟩ := (hr : rowAt (Kd.flat sz enc hl h1) g c o xs) n el he
     cases (h3 : cs = enc el)
     exact h4 q u hu)) hL2
 exact rowO_shut (c := spl c (o + n * sz + j) [v]) (by rw [spl_size]; exact hcs) (by rw [List.length_set]; exact hlc) (((hL3.pick (.there .here)).pick (.there (.there .here))).tail)
end
end Go.Proofs.YtkbhldicnamcdaaGreat.L
namespace Go.Proofs.YtkbhldicnamcdaaGreat.L
open Go
def cmpI (a b : Int) : Int := if a < b then -1 else if b < a then 1 else 0
def cmpL : List UInt8 → List UInt8 → Int
 | [], [] => 0
 | [], _ :: _ => -1
 | _ :: _, [] => 1
 | x :: xs, y :: ys => if x < y then -1 else if y < x then 1 else cmpL xs ys
def cmpB (a b : ByteArray) : Int := cmpL (bytesOf a) (bytesOf b)
theorem cmpL_less : ∀ l m : List UInt8, cmpL l m = if Op.bytesLess l m = true then -1 else if l = m then 0 else 1
 | [], [] => by simp [cmpL, Op.bytesLess]
 | [], _ :: _ => by simp [cmpL, Op.bytesLess]
 | _ :: _, [] => by simp [cmpL, Op.bytesLess]
 | x :: xs, y :: ys => by
  have ih := cmpL_less xs ys
  unfold cmpL Op.bytesLess
  rw [ih]
  by_cases h1 : x < y
  ·simp [h1]
  ·by_cases h2 : y < x
   ·have hne : ¬ x = y := fun e => by subst e; exact UInt8.lt_irrefl _ h2
    simp [h1, h2, hne]
   ·have he : x = y := by
     apply UInt8.toNat.inj
     have a1 := (not_congr UInt8.lt_iff_toNat_lt).1 h1
     have a2 := (not_congr UInt8.lt_iff_toNat_lt).1 h2
     omega
    subst he
    simp [h1]
theorem bytesOf_inj {a b : ByteArray} : bytesOf a = bytesOf b ↔ a = b := by
 refine ⟨fun h => ?_, fun h => by rw [h]⟩
 rw [← bytesOf_mk a, ← bytesOf_mk b, h]
theorem toList_bytesOf (a : ByteArray) : a.toList = bytesOf a := by rw [ByteArray.toList_eq]; rfl
theorem cmpB_less (a b : ByteArray) : cmpB a b = if Op.bytesLess a.toList b.toList = true then -1 else if a = b then 0 else 1 := by
 unfold cmpB
 rw [cmpL_less, toList_bytesOf, toList_bytesOf]
 simp only [bytesOf_inj]
theorem cmpL_self (l : List UInt8) : cmpL l l = 0 := by
 induction l with
 | nil => rfl
 | cons x l ih => simp [cmpL, ih, UInt8.lt_irrefl]
theorem cmpL_zero : ∀ {l m : List UInt8}, cmpL l m = 0 → l = m
 | [], [], _ => rfl
 | [], _ :: _, h => by simp [cmpL] at h
 | _ :: _, [], h => by simp [cmpL] at h
 | x :: xs, y :: ys, h => by
  unfold cmpL at h
  split at h
  ·cases h
  ·split at h
   ·cases h
   ·rename_i h1 h2
    have he : x = y := by
     apply UInt8.toNat.inj
     have a1 := (not_congr UInt8.lt_iff_toNat_lt).1 h1
     have a2 := (not_congr UInt8.lt_iff_toNat_lt).1 h2
     omega
    rw [he, cmpL_zero h]
theorem cmpL_nilL : ∀ {m : List UInt8}, m ≠ [] → cmpL [] m = -1
 | [], h => absurd rfl h
 | _ :: _, _ => rfl
theorem cmpL_nilR : ∀ {m : List UInt8}, m ≠ [] → cmpL m [] = 1
 | [], h => absurd rfl h
 | _ :: _, _ => rfl
theorem cmpB_self (a : ByteArray) : cmpB a a = 0 := cmpL_self _
theorem cmpB_zero {a b : ByteArray} : cmpB a b = 0 ↔ a = b := ⟨fun h => bytesOf_inj.1 (cmpL_zero h), fun h => by rw [h]; exact cmpB_self _⟩
def idxP {α : Type} (p : α → Bool) (l : List α) : Int := match l.findIdx? p with | some i => (i : Int) | none => -1
theorem idxP_some {α : Type} {p : α → Bool} {l : List α} {i : Nat} {x : α} (hx : l[i]? = some x) (hp : p x = true) (h : (l.take i).any p = false) : idxP p l = i := by
 have : l.findIdx? p = some i := by
  rw [List.findIdx?_eq_some_iff_getElem]
  obtain ⟨hi, e⟩ := List.getElem?_eq_some_iff.1 hx
  refine ⟨hi, by rw [e]; exact hp, fun j hj => ?_⟩
  rw [List.any_eq_false] at h
  have := h l[j] (List.mem_take_iff_getElem.2 ⟨j, by omega, rfl⟩)
  simpa using this
 unfold idxP
 rw [this]
theorem idxP_none {α : Type} {p : α → Bool} {l : List α} (h : l.any p = false) : idxP p l = -1 := by
 have : l.findIdx? p = none := by
  rw [List.findIdx?_eq_none_iff]
  intro x hx
  rw [List.any_eq_false] at h
  simpa using h x hx
 unfold idxP
 rw [this]
theorem idxP_any {α : Type} (p : α → Bool) (l : List α) : decide (0 ≤ idxP p l) = l.any p := by
 unfold idxP
 cases h : l.findIdx? p with
 | none =>
  rw [List.findIdx?_eq_none_iff] at h
  have : l.any p = false := by rw [List.any_eq_false]; intro x hx; simp [h x hx]
  rw [this]; rfl
 | some i =>
  rw [List.findIdx?_eq_some_iff_getElem] at h
  obtain ⟨hi, h1, _⟩ := h
  have : l.any p = true := List.any_eq_true.2 ⟨l[i], List.getElem_mem hi, h1⟩
  rw [this]
  exact decide_eq_true (show (0 : Int) ≤ (i : Int) by omega)
theorem any_take_succ {α : Type} {p : α → Bool} {l : List α} {i : Nat} {x : α} (hx : l[i]? = some x) : (l.take (i + 1)).any p = ((l.take i).any p || p x) := by
 rw [List.take_add_one, hx]; simp [List.any_append]
theorem all_take_succ {α : Type} {p : α → Bool} {l : List α} {i : Nat} {x : α} (hx : l[i]? = some x) : (l.take (i + 1)).all p = ((l.take i).all p && p x) := by
 rw [List.take_add_one, hx]; simp [List.all_append]
def adj {α : Type} (f : α → α → Bool) : List α → Bool
 | [] => true
 | [_] => true
 | a :: b :: l => f a b && adj f (b :: l)
theorem adj_snoc {α : Type} (f : α → α → Bool) : ∀ (l : List α) (a b : α), adj f (l ++ [a, b]) = (adj f (l ++ [a]) && f a b)
 | [], a, b => by simp [adj]
 | [c], a, b => by simp [adj]
 | c :: d :: l, a, b => by
  have := adj_snoc f (d :: l) a b
  simp only [List.cons_append] at this ⊢
  simp only [adj]
  rw [this, Bool.and_assoc]
theorem adj_take_succ {α : Type} {f : α → α → Bool} {l : List α} {i : Nat} {x y : α} (hx : l[i]? = some x) (hy : l[i + 1]? = some y) : adj f (l.take (i + 2)) = (adj f (l.take (i + 1)) && f x y) := by
 have e1 : l.take (i + 1) = l.take i ++ [x] := by rw [List.take_add_one, hx]; rfl
 have e2 : l.take (i + 2) = l.take i ++ [x, y] := by rw [List.take_add_one, hy, e1]; simp
 rw [e1, e2, adj_snoc]
theorem adj_take_one {α : Type} (f : α → α → Bool) (l : List α) : adj f (l.take 1) = true := by cases l <;> simp [adj]
theorem adj_prefix {α : Type} {f : α → α → Bool} : ∀ {l m : List α}, adj f (l ++ m) = true → adj f l = true
 | [], _, _ => rfl
 | [_], _, _ => rfl
 | a :: b :: l, m, h => by
  simp only [List.cons_append, adj, Bool.and_eq_true] at h ⊢
  exact ⟨h.1, adj_prefix (l := b :: l) h.2⟩
theorem adj_take {α : Type} {f : α → α → Bool} {l : List α} (h : adj f l = true) (i : Nat) : adj f (l.take i) = true := by
 rw [← List.take_append_drop i l] at h
 exact adj_prefix h
theorem adj_false_take {α : Type} {f : α → α → Bool} {l : List α} {i : Nat} (h : adj f (l.take i) = false) : adj f l = false := by
 cases ha : adj f l with
 | false => rfl
 | true => rw [adj_take ha] at h; cases h
theorem pv_ints {ρ : World} {L : List HP} {w : World} {b e : Nat} {cs : List Value} (xs : List Int) (hc : cs = xs.map fun n => Value.int .i64 n) (h : St ρ (pv b e cs :: L) w) : St ρ (RowF (Kd.int .i64) (some ⟨b, 0, none⟩) xs :: L) w := by
 refine pv_flat (enc := fun n => [Value.int .i64 n]) xs ?_ h
 rw [hc]
 clear h hc
 induction xs with
 | nil => rfl
 | cons x xs ih => simp [ih]
def emp : HP := HP.own (fun _ _ => True) (fun _ h => h)
theorem St.emp {ρ : World} {L : List HP} {w : World} (h : St ρ L w) : St ρ (emp :: L) w := by
 obtain ⟨g, k, a, b, c, d⟩ := h.body
 exact ⟨h.os, h.tape, h.output, g, k, a, b, c, fun _ => none, k, fun _ => .inl rfl, Hp.none_le _, Hp.le_refl _, trivial, d⟩
theorem Fn.frame1 {P : Program} {f : FuncId} {args : Array Value} {x : Value} (R : HP) (h : Fn P f args [] (fun v post => v = x ∧ post = [])) : Fn P f args [R] (fun v post => v = x ∧ post = [R]) :=
 ⟨h.1, fun ρ L w hs => (h.2 ρ (R :: L) w hs).mono fun _ _ ⟨v, post, he, ⟨hv, hp⟩, hs'⟩ => ⟨v, [R], he, ⟨hv, rfl⟩, by subst hp; exact hs'⟩⟩
def cmpM (a b : Msg) : Int := if a.pri = b.pri then cmpI a.id b.id else cmpI a.pri b.pri
end Go.Proofs.YtkbhldicnamcdaaGreat.L
namespace Go.Proofs.YtkbhldicnamcdaaGreat.L
open Go Go.Proofs
attribute [local irreducible] pv fv pt fz RowF RowO rowP old pure_ elA Rd.int Rd.text Rd.flag Rd.msg Rd.rint Rd.rtext Rd.rflag Rd.rmsg
theorem nan_str (a : ByteArray) : Fn Tryz.prog 207 [.string a].toArray [] (fun r post => r = .bool false ∧ post = []) := by
 refine Fn.enter (N := 6) func207 rfl ntmps207 tK rfl (fun ρ L => ?_)
 refine ky<|ka rfl<|kz<|km rfl<|km rfl<|kq (q_sneF rfl rfl (rfl))<|ka rfl<|zm ?_
 refine kr1 func207 results207 rfl (fun w hs => ?_)
 exact ⟨_, [], rfl, ⟨rfl, rfl⟩, hs.fitD⟩
theorem nan_int (a : Int) : Fn Tryz.prog 229 [.int .i64 a].toArray [] (fun r post => r = .bool false ∧ post = []) := by
 refine Fn.enter (N := 6) func229 rfl ntmps229 tK rfl (fun ρ L => ?_)
 refine ky<|ka rfl<|kz<|km rfl<|km rfl<|kq (q_neF rfl rfl (rfl))<|ka rfl<|zm ?_
 refine kr1 func229 results229 rfl (fun w hs => ?_)
 exact ⟨_, [], rfl, ⟨rfl, rfl⟩, hs.fitD⟩
theorem cmp_str (a b : ByteArray) : Fn Tryz.prog 184 [.string a, .string b].toArray [] (fun r post => r = .int .i64 (cmpB a b) ∧ post = []) := by
 refine Fn.enter (N := 20) func184 rfl ntmps184 tK rfl (fun ρ L => ?_)
 refine ky<|ka rfl<|kz<|km rfl<|kl (kc rfl (h := nan_str _)) ?_
 rintro _ _ ⟨_, ⟨rfl, rfl⟩, rfl⟩
 refine ka rfl<|kz<|km rfl<|kl (kc rfl (h := nan_str _)) ?_
 rintro _ _ ⟨_, ⟨rfl, rfl⟩, rfl⟩
 refine ka rfl<|zm<|ke<|ky<|km rfl<|zm<|K.no rfl<|za<|ke<|ky<|km rfl<|zm<|K.no rfl<|za<|ke<|ky<|km rfl<|km rfl<|kq (q_slt rfl rfl)<|zm ?_
 refine kT (s := 16) rfl (fun g16 => ?_) (fun g16 => ?_)
 ·refine ky<|ka rfl<|zm ?_
  refine kr1 func184 results184 rfl (fun w hs => ?_)
  exact ⟨_, [], rfl, ⟨by rw [cmpB_less]; simp_all, rfl⟩, hs.fitD⟩
 ·refine za<|ke<|ky<|km rfl<|km rfl<|kq (q_sgt rfl rfl)<|zm ?_
  refine kT (s := 19) rfl (fun g19 => ?_) (fun g19 => ?_)
  ·refine ky<|ka rfl<|zm ?_
   refine kr1 func184 results184 rfl (fun w hs => ?_)
   exact ⟨_, [], rfl, ⟨by rw [cmpB_less]; simp_all, rfl⟩, hs.fitD⟩
  ·refine za<|ky<|ka rfl<|zm ?_
   refine kr1 func184 results184 rfl (fun w hs => ?_)
   exact ⟨_, [], rfl, ⟨by rw [cmpB_less]; simp_all, rfl⟩, hs.fitD⟩
theorem cmp_int (a b : Int) : Fn Tryz.prog 219 [.int .i64 a, .int .i64 b].toArray [] (fun r post => r = .int .i64 (cmpI a b) ∧ post = []) := by
 refine Fn.enter (N := 20) func219 rfl ntmps219 tK rfl (fun ρ L => ?_)
 refine ky<|ka rfl<|kz<|km rfl<|kl (kc rfl (h := nan_int _)) ?_
 rintro _ _ ⟨_, ⟨rfl, rfl⟩, rfl⟩
 refine ka rfl<|kz<|km rfl<|kl (kc rfl (h := nan_int _)) ?_
 rintro _ _ ⟨_, ⟨rfl, rfl⟩, rfl⟩
 refine ka rfl<|zm<|ke<|ky<|km rfl<|zm<|K.no rfl<|za<|ke<|ky<|km rfl<|zm<|K.no rfl<|za<|ke<|ky<|km rfl<|km rfl<|kq (q_lt rfl rfl)<|zm ?_
 refine kD (s := 16) rfl (fun g16 => ?_) (fun g16 => ?_)
 ·refine ky<|ka rfl<|zm ?_
  refine kr1 func219 results219 rfl (fun w hs => ?_)
  exact ⟨_, [], rfl, ⟨by refine congrArg (Value.int .i64) ?_; unfold cmpI; (repeat' split) <;> omega, rfl⟩, hs.fitD⟩
 ·refine za<|ke<|ky<|km rfl<|km rfl<|kq (q_gt rfl rfl)<|zm ?_
  refine kD (s := 19) rfl (fun g19 => ?_) (fun g19 => ?_)
  ·refine ky<|ka rfl<|zm ?_
   refine kr1 func219 results219 rfl (fun w hs => ?_)
   exact ⟨_, [], rfl, ⟨by refine congrArg (Value.int .i64) ?_; unfold cmpI; (repeat' split) <;> omega, rfl⟩, hs.fitD⟩
  ·refine za<|ky<|ka rfl<|zm ?_
   refine kr1 func219 results219 rfl (fun w hs => ?_)
   exact ⟨_, [], rfl, ⟨by refine congrArg (Value.int .i64) ?_; unfold cmpI; (repeat' split) <;> omega, rfl⟩, hs.fitD⟩
theorem ord_Keys (a b : ByteArray) : Fn Tryz.prog 134 [.string a, .string b].toArray [] (fun r post => r = .int .i64 (cmpB a b) ∧ post = []) := by
 refine Fn.enter (N := 8) func134 rfl ntmps134 tK rfl (fun ρ L => ?_)
 refine ky<|ka rfl<|kz<|km rfl<|km rfl<|kl (kc rfl (h := cmp_str _ _)) ?_
 rintro _ _ ⟨_, ⟨rfl, rfl⟩, rfl⟩
 refine ka rfl<|zm ?_
 refine kr1 func134 results134 rfl (fun w hs => ?_)
 exact ⟨_, [], rfl, ⟨rfl, rfl⟩, hs.fitD⟩
theorem find_nz {xs : List Int} {i : Nat} {v : Int} (hv : xs[i]? = some v) (h : ∀ x ∈ xs.take i, x = 0) (hne : v ≠ 0) : (xs.find? (fun v => decide (v ≠ 0))).getD 0 = v := by
 have e : xs = xs.take i ++ (v :: xs.drop (i + 1)) := by
  obtain ⟨hi, e⟩ := List.getElem?_eq_some_iff.1 hv
  rw [← e, List.getElem_cons_drop hi, List.take_append_drop]
 rw [e, List.find?_append]
 have : (xs.take i).find? (fun v => decide (v ≠ 0)) = none := by
  rw [List.find?_eq_none]; intro x hx; simp [h x hx]
 rw [this]
 simp [hne]
theorem find_nz_none {xs : List Int} (h : ∀ x ∈ xs, x = 0) : (xs.find? (fun v => decide (v ≠ 0))).getD 0 = 0 := by
 have : xs.find? (fun v => decide (v ≠ 0)) = none := by
  rw [List.find?_eq_none]; intro x hx; simp [h x hx]
 rw [this]; rfl
theorem or_int (q : Option Addr) (cap : Nat) (xs : List Int) (hl : (xs.length : Int) ≤ 9223372036854775807) : Fn Tryz.prog 218 [.slice q xs.length cap].toArray [RowF (Kd.int .i64) q xs] (fun r post => r = .int .i64 ((xs.find? (fun v => decide (v ≠ 0))).getD 0) ∧ post = []) := by
 refine Fn.enter (N := 18) func218 rfl ntmps218 tK rfl (fun ρ L => ?_)
 refine ky<|ka rfl<|kz<|ka rfl<|zm<|ke<|ky<|km rfl<|kq (qG underlying22 rfl)<|km rfl<|zm<|kB ?_
 refine K.rloop (ι := { i : Nat // i ≤ xs.length ∧ ∀ x ∈ xs.take i, x = 0 }) (fun x => [(8, .int .i64 x.1), (7, .int .i64 xs.length), (6, .slice q xs.length cap), (3, .int .i64 0)]) (fun x => xs.length - x.1) ⟨0, Nat.zero_le _, by simp⟩ tS (fun x ih => ?_)
 obtain ⟨i, hi, hz⟩ := x
 dsimp only at hi hz ⊢
 refine ky<|kq (q_lt rfl rfl)<|zm<|ke ?_
 refine kD (s := 9) rfl (fun g9 => ?_) (fun g9 => ?_)
 ·obtain ⟨e, he⟩ : ∃ e, xs[i]? = some e := ⟨_, List.getElem?_eq_getElem tO⟩
  refine za<|ke<|kB<|ke<|kr ?_
  first | refine kq (q_ix _ se_22 rfl rfl rfl isF tM rfl tL) ?_ | refine kq (q_ix _ se_22 rfl rfl rfl isO tM rfl tL) ?_
  first | refine kq (q_ldE ck_3 rfl isF tM tE rfl) ?_ | refine kq (q_ldE ck_3 rfl isO tM tE rfl) ?_
  refine ka rfl<|kz<|km rfl<|km rfl<|kq (q_ne rfl rfl)<|zm ?_
  refine kD (s := 14) rfl (fun g14 => ?_) (fun g14 => ?_)
  ·have hr := find_nz he hz g14
   rw [hr]
   refine ky<|km rfl<|ka rfl<|zm ?_
   refine kr1 func218 results218 rfl (fun w hs => ?_)
   exact ⟨_, [], rfl, ⟨rfl, rfl⟩, hs.fitD⟩
  ·refine za<|zd<|kr<|kq (q_add rfl rfl tN tN)<|km rfl<|zm ?_
   exact K.subE tS (ih ⟨i + 1, by omega, fun x hx => by
    rw [List.take_add_one, he] at hx
    rcases List.mem_append.1 hx with h | h
    ·exact hz x h
    ·rw [List.mem_singleton.1 h]; exact Decidable.not_not.1 g14⟩ (by show xs.length - (i + 1) < xs.length - i; omega))
 ·have hr := find_nz_none (xs := xs) (fun x hx => hz x (by rw [List.take_of_length_le tO]; exact hx))
  rw [hr]
  refine K.exit rfl<|ky<|km rfl<|ka rfl<|zm ?_
  refine kr1 func218 results218 rfl (fun w hs => ?_)
  exact ⟨_, [], rfl, ⟨rfl, rfl⟩, hs.fitD⟩
theorem ord_Msgs (a b : Msg) : Fn Tryz.prog 205 [.agg a.cells.toArray, .agg b.cells.toArray].toArray [] (fun r post => r = .int .i64 (cmpM a b) ∧ post = []) := by
 refine Fn.enter (N := 17) func205 rfl ntmps205 tK rfl (fun ρ L => ?_)
 refine ky<|kl (l_box rfl rfl) ?_
 rintro _ _ ⟨b2, rfl, rfl⟩
 refine kl (l_box rfl rfl) ?_
 rintro _ _ ⟨b3, rfl, rfl⟩
 refine ka rfl<|zm<|ke ?_
 refine K.drawU (by repeat (first | apply SubL.pers | apply SubL.own (b := b2) | apply SubL.own (b := b3) | apply SubL.drop | exact SubL.none)) mixed ?_
 refine dq 0 rfl (qO fo_56_1 rfl)<|dq 1 rfl (qD ck_3 rfl)<|dq 2 rfl (qO fo_56_1 rfl)<|dq 3 rfl (qD ck_3 rfl)<|dq 5 rfl (qO fo_56_0 rfl)<|dq 6 rfl (qD ck_3 rfl)<|dq 7 rfl (qO fo_56_0 rfl)<|dq 8 rfl (qD ck_3 rfl)<|dq1 4 rfl (kc rfl (h := cmp_int _ _)) (.inr (by rintro _ _ ⟨_, ⟨rfl, rfl⟩, rfl⟩ w h; exact h.subD)) ?_
 rintro _ _ ⟨_, ⟨rfl, rfl⟩, rfl⟩
 refine dq1 9 rfl (kc rfl (h := cmp_int _ _)) (.inr (by rintro _ _ ⟨_, ⟨rfl, rfl⟩, rfl⟩ w h; exact h.subD)) ?_
 rintro _ _ ⟨_, ⟨rfl, rfl⟩, rfl⟩
 refine dq1 10 rfl (l_slice sz_22_2 rfl tF) (.inr (by rintro _ _ ⟨b15, rfl, rfl⟩ w h; exact h.subD)) ?_
 rintro _ _ ⟨b15, rfl, rfl⟩
 refine D.st (fun w h => pv_ints [cmpI a.pri b.pri, cmpI a.id b.id] rfl h)<|dq1 11 rfl (OpL.callE rfl (or_int (some ⟨b15, 0, none⟩) 2 [cmpI a.pri b.pri, cmpI a.id b.id] (by simp))) (.inr (by rintro _ _ ⟨_, ⟨rfl, rfl⟩, rfl⟩ w h; exact h.subD)) ?_
 rintro _ _ ⟨_, ⟨rfl, rfl⟩, rfl⟩
 refine dq 12 rfl (q_assign rfl)<|D.done tK ?_
 refine kr1 func205 results205 rfl (fun w hs => ?_)
 refine ⟨_, [], rfl, ⟨?_, rfl⟩, hs.fitD⟩
 refine congrArg (Value.int .i64) ?_
 unfold cmpM cmpI
 (repeat' split) <;> first | omega | (simp_all; done) | (simp_all; omega)
theorem ref_Msgs (a b : Msg) : Fn Tryz.prog 152 [.agg a.cells.toArray, .agg b.cells.toArray].toArray [] (fun r post => r = .int .i64 (cmpM a b) ∧ post = []) := by
 refine Fn.enter (N := 38) func152 rfl ntmps152 tK rfl (fun ρ L => ?_)
 refine ky<|kl (l_box rfl rfl) ?_
 rintro _ _ ⟨b2, rfl, rfl⟩
 refine kl (l_box rfl rfl) ?_
 rintro _ _ ⟨b3, rfl, rfl⟩
 refine ka rfl<|zm<|ke<|kB<|ky<|kq (qO fo_56_1 rfl)<|kq (qD ck_3 rfl)<|kq (qO fo_56_1 rfl)<|kq (qD ck_3 rfl)<|kq (q_lt rfl rfl)<|km rfl ?_
 refine KO.dsplit 11 rfl (fun g11 => ?_) (fun g11 => ?_)
 ·refine zq<|zq<|zq<|zq<|zq<|zq<|KO.gone rfl<|KO.gone rfl<|KO.gone rfl<|KO.gone rfl<|KO.gone rfl<|zq<|kq (qT rfl rfl)<|ka rfl<|zm<|K.yes rfl<|ky<|ka rfl<|zm ?_
  refine kr1 func152 results152 rfl (fun w hs => ?_)
  exact ⟨_, [], rfl, ⟨by refine congrArg (Value.int .i64) ?_; unfold cmpM cmpI; (repeat' split) <;> omega, rfl⟩, hs.fitD⟩
 ·refine kq (qO fo_56_1 rfl)<|kq (qD ck_3 rfl)<|kq (qO fo_56_1 rfl)<|kq (qD ck_3 rfl)<|kq (q_eq rfl rfl)<|km rfl ?_
  refine KO.dsplit 17 rfl (fun g17 => ?_) (fun g17 => ?_)
  ·refine kq (qO fo_56_0 rfl)<|kq (qD ck_3 rfl)<|kq (qO fo_56_0 rfl)<|kq (qD ck_3 rfl)<|kq (q_lt rfl rfl)<|kq (qT rfl rfl)<|kq (qF rfl rfl)<|ka rfl<|zm ?_
   refine kD (s := 5) rfl (fun g5 => ?_) (fun g5 => ?_)
   ·refine ky<|ka rfl<|zm ?_
    refine kr1 func152 results152 rfl (fun w hs => ?_)
    exact ⟨_, [], rfl, ⟨by refine congrArg (Value.int .i64) ?_; unfold cmpM cmpI; (repeat' split) <;> omega, rfl⟩, hs.fitD⟩
   ·refine ky<|kq (qO fo_56_1 rfl)<|kq (qD ck_3 rfl)<|kq (qO fo_56_1 rfl)<|kq (qD ck_3 rfl)<|kq (q_gt rfl rfl)<|km rfl ?_
    refine KO.dsplit 31 rfl (fun g31 => ?_) (fun g31 => ?_)
    ·refine zq<|zq<|zq<|zq<|zq<|kq (qT rfl rfl)<|ka rfl<|zm<|K.yes rfl<|ky<|ka rfl<|zm ?_
     refine kr1 func152 results152 rfl (fun w hs => ?_)
     exact ⟨_, [], rfl, ⟨by refine congrArg (Value.int .i64) ?_; unfold cmpM cmpI; (repeat' split) <;> omega, rfl⟩, hs.fitD⟩
    ·refine kq (qO fo_56_0 rfl)<|kq (qD ck_3 rfl)<|kq (qO fo_56_0 rfl)<|kq (qD ck_3 rfl)<|kq (q_gt rfl rfl)<|kq (qF rfl rfl)<|ka rfl<|zm ?_
     refine kD (s := 25) rfl (fun g25 => ?_) (fun g25 => ?_)
     ·refine ky<|ka rfl<|zm ?_
      refine kr1 func152 results152 rfl (fun w hs => ?_)
      exact ⟨_, [], rfl, ⟨by refine congrArg (Value.int .i64) ?_; unfold cmpM cmpI; (repeat' split) <;> omega, rfl⟩, hs.fitD⟩
     ·refine za<|zd<|ky<|ka rfl<|zm ?_
      refine kr1 func152 results152 rfl (fun w hs => ?_)
      exact ⟨_, [], rfl, ⟨by refine congrArg (Value.int .i64) ?_; unfold cmpM cmpI; (repeat' split) <;> omega, rfl⟩, hs.fitD⟩
  ·refine zq<|zq<|zq<|zq<|zq<|kq (qF rfl rfl)<|kq (qF rfl rfl)<|ka rfl<|zm<|K.no rfl<|ky<|kq (qO fo_56_1 rfl)<|kq (qD ck_3 rfl)<|kq (qO fo_56_1 rfl)<|kq (qD ck_3 rfl)<|kq (q_gt rfl rfl)<|km rfl ?_
   refine KO.dsplit 31 rfl (fun g31 => ?_) (fun g31 => ?_)
   ·refine zq<|zq<|zq<|zq<|zq<|kq (qT rfl rfl)<|ka rfl<|zm<|K.yes rfl<|ky<|ka rfl<|zm ?_
    refine kr1 func152 results152 rfl (fun w hs => ?_)
    exact ⟨_, [], rfl, ⟨by refine congrArg (Value.int .i64) ?_; unfold cmpM cmpI; (repeat' split) <;> omega, rfl⟩, hs.fitD⟩
   ·refine kq (qO fo_56_0 rfl)<|kq (qD ck_3 rfl)<|kq (qO fo_56_0 rfl)<|kq (qD ck_3 rfl)<|kq (q_gt rfl rfl)<|kq (qF rfl rfl)<|ka rfl<|zm ?_
    refine kD (s := 25) rfl (fun g25 => ?_) (fun g25 => ?_)
    ·refine ky<|ka rfl<|zm ?_
     refine kr1 func152 results152 rfl (fun w hs => ?_)
     exact ⟨_, [], rfl, ⟨by refine congrArg (Value.int .i64) ?_; unfold cmpM cmpI; (repeat' split) <;> omega, rfl⟩, hs.fitD⟩
    ·refine za<|zd<|ky<|ka rfl<|zm ?_
     refine kr1 func152 results152 rfl (fun w hs => ?_)
     exact ⟨_, [], rfl, ⟨by refine congrArg (Value.int .i64) ?_; unfold cmpM cmpI; (repeat' split) <;> omega, rfl⟩, hs.fitD⟩
theorem ref_Keys (a b : ByteArray) (ha : (a.size : Int) ≤ 9223372036854775807) (hb : (b.size : Int) ≤ 9223372036854775807) : Fn Tryz.prog 111 [.string a, .string b].toArray [] (fun r post => r = .int .i64 (cmpB a b) ∧ post = []) := by
 have la := bytesOf_length a
 have lb := bytesOf_length b
 refine Fn.enter (N := 44) func111 rfl ntmps111 tK rfl (fun ρ L => ?_)
 refine ky<|ka rfl<|zm<|ke<|ky<|ka rfl<|zm<|kB ?_
 refine K.rloop (ι := { i : Nat // i ≤ a.size ∧ i ≤ b.size ∧ cmpB a b = cmpL ((bytesOf a).drop i) ((bytesOf b).drop i) }) (fun x => [(5, .int .i64 x.1), (0, .string a), (1, .string b)]) (fun x => a.size - x.1) ⟨0, Nat.zero_le _, Nat.zero_le _, rfl⟩ tS (fun x ih => ?_)
 obtain ⟨i, hi, hi2, hc⟩ := x
 dsimp only at hi hi2 hc ⊢
 refine ke<|ky<|km rfl<|km rfl<|kq (q_lenS underlying9 rfl)<|kq (q_lt rfl rfl)<|km rfl ?_
 refine KO.dsplit 10 rfl (fun g10 => ?_) (fun g10 => ?_)
 ·refine km rfl<|km rfl<|kq (q_lenS underlying9 rfl)<|kq (q_lt rfl rfl)<|kq (qT rfl rfl)<|zm ?_
  refine kD (s := 15) rfl (fun g15 => ?_) (fun g15 => ?_)
  ·obtain ⟨x, hx⟩ : ∃ e, (bytesOf a)[i]? = some e := ⟨_, List.getElem?_eq_getElem tO⟩
   obtain ⟨y, hy⟩ : ∃ e, (bytesOf b)[i]? = some e := ⟨_, List.getElem?_eq_getElem tO⟩
   have ex : (bytesOf a).drop i = x :: (bytesOf a).drop (i + 1) := by
    obtain ⟨h1, h2⟩ := List.getElem?_eq_some_iff.1 hx
    rw [← h2, List.getElem_cons_drop h1]
   have ey : (bytesOf b).drop i = y :: (bytesOf b).drop (i + 1) := by
    obtain ⟨h1, h2⟩ := List.getElem?_eq_some_iff.1 hy
    rw [← h2, List.getElem_cons_drop h1]
   rw [ex, ey] at hc
   unfold cmpL at hc
   refine za<|ke<|kB<|ke<|ke<|K.draw [] mixed<|D.q 0 rfl tK tK (q_move rfl) (fun _ h => h.nil)<|D.q 1 rfl tK tK (q_move rfl) (fun _ h => h.nil)<|D.q 2 rfl tK tK (q_six underlying9 rfl rfl rfl (by assumption)) (fun _ h => h.nil)<|D.q 3 rfl tK tK (q_move rfl) (fun _ h => h.nil)<|D.q 4 rfl tK tK (q_move rfl) (fun _ h => h.nil)<|D.q 5 rfl tK tK (q_six underlying9 rfl rfl rfl (by assumption)) (fun _ h => h.nil)<|D.q 6 rfl tK tK (q_lt rfl rfl) (fun _ h => h.nil)<|D.done tK ?_
   refine kD (s := 24) rfl (fun g24 => ?_) (fun g24 => ?_)
   ·refine ke ?_
    have hr : cmpB a b = -1 := by rw [hc, if_pos (UInt8.lt_iff_toNat_lt.2 tO)]
    refine kr<|ka rfl<|zm ?_
    refine kr1 func111 results111 rfl (fun w hs => ?_)
    rw [hr]
    exact ⟨_, [], rfl, ⟨rfl, rfl⟩, hs.fitD⟩
   ·refine za<|ke<|K.draw [] mixed<|D.q 0 rfl tK tK (q_move rfl) (fun _ h => h.nil)<|D.q 1 rfl tK tK (q_move rfl) (fun _ h => h.nil)<|D.q 2 rfl tK tK (q_six underlying9 rfl rfl rfl (by assumption)) (fun _ h => h.nil)<|D.q 3 rfl tK tK (q_move rfl) (fun _ h => h.nil)<|D.q 4 rfl tK tK (q_move rfl) (fun _ h => h.nil)<|D.q 5 rfl tK tK (q_six underlying9 rfl rfl rfl (by assumption)) (fun _ h => h.nil)<|D.q 6 rfl tK tK (q_gt rfl rfl) (fun _ h => h.nil)<|D.done tK ?_
    refine kD (s := 31) rfl (fun g31 => ?_) (fun g31 => ?_)
    ·refine ke ?_
     have hr : cmpB a b = 1 := by rw [hc, if_neg (fun h => g24 (by have := UInt8.lt_iff_toNat_lt.1 h; omega)), if_pos (UInt8.lt_iff_toNat_lt.2 tO)]
     refine kr<|ka rfl<|zm ?_
     refine kr1 func111 results111 rfl (fun w hs => ?_)
     rw [hr]
     exact ⟨_, [], rfl, ⟨rfl, rfl⟩, hs.fitD⟩
    ·refine za<|zd<|kr<|km rfl<|kq (q_add rfl rfl tN tN)<|ka rfl<|zm ?_
     have hr : cmpB a b = cmpL ((bytesOf a).drop (i + 1)) ((bytesOf b).drop (i + 1)) := by rw [hc, if_neg (fun h => g24 (by have := UInt8.lt_iff_toNat_lt.1 h; omega)), if_neg (fun h => g31 (by have := UInt8.lt_iff_toNat_lt.1 h; omega))]
     exact K.subE tS (ih ⟨i + 1, by omega, by omega, hr⟩ (by show a.size - (i + 1) < a.size - i; omega))
  ·refine K.exit rfl<|ke<|kB<|ky<|km rfl<|kq (q_lenS underlying9 rfl)<|km rfl<|kq (q_lenS underlying9 rfl)<|kq (q_lt rfl rfl)<|ka rfl<|zm ?_
   refine kD (s := 32) rfl (fun g32 => ?_) (fun g32 => ?_)
   ·refine ke ?_
    have hr : cmpB a b = -1 := by
     rw [hc, List.drop_eq_nil_of_le (by omega : (bytesOf a).length ≤ i)]
     exact cmpL_nilL (fun hd => by have := congrArg List.length hd; simp at this; omega)
    refine kr<|ka rfl<|zm ?_
    refine kr1 func111 results111 rfl (fun w hs => ?_)
    rw [hr]
    exact ⟨_, [], rfl, ⟨rfl, rfl⟩, hs.fitD⟩
   ·refine ky<|km rfl<|kq (q_lenS underlying9 rfl)<|km rfl<|kq (q_lenS underlying9 rfl)<|kq (q_gt rfl rfl)<|ka rfl<|zm ?_
    refine kD (s := 38) rfl (fun g38 => ?_) (fun g38 => ?_)
    ·refine ke ?_
     have hr : cmpB a b = 1 := by
      rw [hc, List.drop_eq_nil_of_le (by omega : (bytesOf b).length ≤ i)]
      exact cmpL_nilR (fun hd => by have := congrArg List.length hd; simp at this; omega)
     refine kr<|ka rfl<|zm ?_
     refine kr1 func111 results111 rfl (fun w hs => ?_)
     rw [hr]
     exact ⟨_, [], rfl, ⟨rfl, rfl⟩, hs.fitD⟩
    ·refine za<|zd<|ke ?_
     have hr : cmpB a b = 0 := by
      rw [hc, List.drop_eq_nil_of_le (by omega : (bytesOf b).length ≤ i), List.drop_eq_nil_of_le (by omega : (bytesOf a).length ≤ i)]
      rfl
     refine kr<|ka rfl<|zm ?_
     refine kr1 func111 results111 rfl (fun w hs => ?_)
     rw [hr]
     exact ⟨_, [], rfl, ⟨rfl, rfl⟩, hs.fitD⟩
 ·refine zq<|zq<|zq<|zq<|kq (qF rfl rfl)<|zm<|K.no rfl<|K.exit rfl<|ke<|kB<|ky<|km rfl<|kq (q_lenS underlying9 rfl)<|km rfl<|kq (q_lenS underlying9 rfl)<|kq (q_lt rfl rfl)<|ka rfl<|zm ?_
  refine kD (s := 32) rfl (fun g32 => ?_) (fun g32 => ?_)
  ·refine ke ?_
   have hr : cmpB a b = -1 := by
    rw [hc, List.drop_eq_nil_of_le (by omega : (bytesOf a).length ≤ i)]
    exact cmpL_nilL (fun hd => by have := congrArg List.length hd; simp at this; omega)
   refine kr<|ka rfl<|zm ?_
   refine kr1 func111 results111 rfl (fun w hs => ?_)
   rw [hr]
   exact ⟨_, [], rfl, ⟨rfl, rfl⟩, hs.fitD⟩
  ·refine ky<|km rfl<|kq (q_lenS underlying9 rfl)<|km rfl<|kq (q_lenS underlying9 rfl)<|kq (q_gt rfl rfl)<|ka rfl<|zm ?_
   refine kD (s := 38) rfl (fun g38 => ?_) (fun g38 => ?_)
   ·refine ke ?_
    have hr : cmpB a b = 1 := by
     rw [hc, List.drop_eq_nil_of_le (by omega : (bytesOf b).length ≤ i)]
     exact cmpL_nilR (fun hd => by have := congrArg List.length hd; simp at this; omega)
    refine kr<|ka rfl<|zm ?_
    refine kr1 func111 results111 rfl (fun w hs => ?_)
    rw [hr]
    exact ⟨_, [], rfl, ⟨rfl, rfl⟩, hs.fitD⟩
   ·refine za<|zd<|ke ?_
    have hr : cmpB a b = 0 := by
     rw [hc, List.drop_eq_nil_of_le (by omega : (bytesOf b).length ≤ i), List.drop_eq_nil_of_le (by omega : (bytesOf a).length ≤ i)]
     rfl
    refine kr<|ka rfl<|zm ?_
    refine kr1 func111 results111 rfl (fun w hs => ?_)
    rw [hr]
    exact ⟨_, [], rfl, ⟨rfl, rfl⟩, hs.fitD⟩
theorem ref_FindMsg (q : Option Addr) (cap : Nat) (l : List Msg) (n : Int) (hl : (l.length : Int) ≤ 9223372036854775807) : Fn Tryz.prog 153 [.slice q l.length cap, .int .i64 n].toArray [RowF Kd.msg q l] (fun r post => r = .int .i64 (idxP (fun m => decide (m.id = n)) l) ∧ post = []) := by
 refine Fn.enter (N := 20) func153 rfl ntmps153 tK rfl (fun ρ L => ?_)
 refine ky<|ka rfl<|zm<|ke<|ky<|ka rfl<|zm<|kB ?_
 refine K.rloop (ι := { i : Nat // i ≤ l.length ∧ (l.take i).any (fun m => decide (m.id = n)) = false }) (fun x => [(5, .int .i64 x.1), (0, .slice q l.length cap), (1, .int .i64 n)]) (fun x => l.length - x.1) ⟨0, Nat.zero_le _, rfl⟩ tS (fun x ih => ?_)
 obtain ⟨i, hi, hz⟩ := x
 dsimp only at hi hz ⊢
 refine ke<|ky<|km rfl<|km rfl<|kq (qG underlying60 rfl)<|kq (q_lt rfl rfl)<|zm ?_
 refine kD (s := 9) rfl (fun g9 => ?_) (fun g9 => ?_)
 ·obtain ⟨e, he⟩ : ∃ e, l[i]? = some e := ⟨_, List.getElem?_eq_getElem tO⟩
  refine za<|ke<|kB<|ky<|km rfl<|km rfl ?_
  first | refine kq (q_ix _ se_60 rfl rfl rfl isF tM rfl tL) ?_ | refine kq (q_ix _ se_60 rfl rfl rfl isO tM rfl tL) ?_
  refine kq (qE fo_56_0 rfl) ?_
  first | refine kq (q_ldE ck_3 rfl isF tM tE rfl) ?_ | refine kq (q_ldE ck_3 rfl isO tM tE rfl) ?_
  refine km rfl<|kq (q_eq rfl rfl)<|zm ?_
  refine kD (s := 18) rfl (fun g18 => ?_) (fun g18 => ?_)
  ·refine ke ?_
   have hr : idxP (fun m => decide (m.id = n)) l = i := idxP_some he (by simp [*]) hz
   refine kr<|km rfl<|ka rfl<|zm ?_
   refine kr1 func153 results153 rfl (fun w hs => ?_)
   rw [hr]
   exact ⟨_, [], rfl, ⟨rfl, rfl⟩, hs.fitD⟩
  ·refine za<|zd<|kr<|km rfl<|kq (q_add rfl rfl tN tN)<|ka rfl<|zm ?_
   exact K.subE tS (ih ⟨i + 1, by omega, by rw [any_take_succ he, hz]; simp [*]⟩ (by show l.length - (i + 1) < l.length - i; omega))
 ·refine K.exit rfl<|ke ?_
  have hr : idxP (fun m => decide (m.id = n)) l = -1 := idxP_none (by rw [List.take_of_length_le tO] at hz; exact hz)
  refine kr<|ka rfl<|zm ?_
  refine kr1 func153 results153 rfl (fun w hs => ?_)
  rw [hr]
  exact ⟨_, [], rfl, ⟨rfl, rfl⟩, hs.fitD⟩
theorem ixf_rw (R : HP) (q : Option Addr) (cap : Nat) (l : List Rw) (f : FuncId) (cs : List Value) (p : Rw → Bool) (hl : (l.length : Int) ≤ 9223372036854775807) (hf : ∀ x ∈ l, Fn Tryz.prog f (Value.agg x.cells.toArray :: cs).toArray [R] (fun v post => v = .bool (p x) ∧ post = [R])) :
  Fn Tryz.prog 204 [.slice q l.length cap, .func (.func f) #[] cs.toArray].toArray [RowF Kd.rw q l, R] (fun r post => r = .int .i64 (idxP p l) ∧ post = [R]) := by
 refine Fn.enter (N := 19) func204 rfl ntmps204 tK rfl (fun ρ L => ?_)
 refine ky<|ka rfl<|zm<|ke<|ky<|km rfl<|kq (qG underlying59 rfl)<|km rfl<|zm<|kB ?_
 refine K.rloop (ι := { i : Nat // i ≤ l.length ∧ (l.take i).any p = false }) (fun x => [(8, .int .i64 x.1), (7, .int .i64 l.length), (0, .slice q l.length cap), (1, .func (.func f) #[] cs.toArray)]) (fun x => l.length - x.1) ⟨0, Nat.zero_le _, rfl⟩ tS (fun x ih => ?_)
 obtain ⟨i, hi, hz⟩ := x
 dsimp only at hi hz ⊢
 refine ky<|kq (q_lt rfl rfl)<|zm<|ke ?_
 refine kD (s := 9) rfl (fun g9 => ?_) (fun g9 => ?_)
 ·obtain ⟨e, he⟩ : ∃ e, l[i]? = some e := ⟨_, List.getElem?_eq_getElem tO⟩
  refine za<|ke<|kB<|ky<|km rfl<|ka rfl<|kz<|km rfl<|km rfl<|km rfl ?_
  first | refine kq (q_ix _ se_59 rfl rfl rfl isF tM rfl tL) ?_ | refine kq (q_ix _ se_59 rfl rfl rfl isO tM rfl tL) ?_
  first | refine kq (q_ldEN ck_136 rfl isF tM tE) ?_ | refine kq (q_ldEN ck_136 rfl isO tM tE) ?_
  refine kl (OpL.callCG (first := []) (captured := cs) rfl rfl tG (hf e (List.mem_of_getElem? he))) ?_
  rintro _ _ ⟨_, ⟨rfl, rfl⟩, rfl⟩
  refine zm ?_
  refine kT (s := 16) rfl (fun g16 => ?_) (fun g16 => ?_)
  ·refine ke ?_
   have hr : idxP p l = i := idxP_some he g16 hz
   refine kr<|km rfl<|ka rfl<|zm ?_
   refine kr1 func204 results204 rfl (fun w hs => ?_)
   rw [hr]
   exact ⟨_, [R], rfl, ⟨rfl, rfl⟩, hs.fitD⟩
  ·refine za<|zd<|kr<|kq (q_add rfl rfl tN tN)<|km rfl<|zm ?_
   exact K.weak tS (fun w h => h.fitD) (ih ⟨i + 1, by omega, by rw [any_take_succ he, hz, g16]; rfl⟩ (by show l.length - (i + 1) < l.length - i; omega))
 ·refine K.exit rfl<|ke ?_
  have hr : idxP p l = -1 := idxP_none (by rw [List.take_of_length_le tO] at hz; exact hz)
  refine kr<|ka rfl<|zm ?_
  refine kr1 func204 results204 rfl (fun w hs => ?_)
  rw [hr]
  exact ⟨_, [R], rfl, ⟨rfl, rfl⟩, hs.fitD⟩
theorem cof_rw (R : HP) (q : Option Addr) (cap : Nat) (l : List Rw) (f : FuncId) (cs : List Value) (p : Rw → Bool) (hl : (l.length : Int) ≤ 9223372036854775807) (hf : ∀ x ∈ l, Fn Tryz.prog f (Value.agg x.cells.toArray :: cs).toArray [R] (fun v post => v = .bool (p x) ∧ post = [R])) :
  Fn Tryz.prog 178 [.slice q l.length cap, .func (.func f) #[] cs.toArray].toArray [RowF Kd.rw q l, R] (fun r post => r = .bool (l.any p) ∧ post = [R]) := by
 refine Fn.enter (N := 9) func178 rfl ntmps178 tK rfl (fun ρ L => ?_)
 refine ky<|ka rfl<|kz<|km rfl<|km rfl<|kl (kc rfl (h := ixf_rw R q cap l f cs p hl hf)) ?_
 rintro _ _ ⟨_, ⟨rfl, rfl⟩, rfl⟩
 refine kq (q_ge rfl rfl)<|ka rfl<|zm ?_
 refine kr1 func178 results178 rfl (fun w hs => ?_)
 exact ⟨_, [R], rfl, ⟨by rw [← idxP_any], rfl⟩, hs.fitD⟩
theorem ixf_msg (R : HP) (q : Option Addr) (cap : Nat) (l : List Msg) (f : FuncId) (cs : List Value) (p : Msg → Bool) (hl : (l.length : Int) ≤ 9223372036854775807) (hf : ∀ x ∈ l, Fn Tryz.prog f (Value.agg x.cells.toArray :: cs).toArray [R] (fun v post => v = .bool (p x) ∧ post = [R])) :
  Fn Tryz.prog 206 [.slice q l.length cap, .func (.func f) #[] cs.toArray].toArray [RowF Kd.msg q l, R] (fun r post => r = .int .i64 (idxP p l) ∧ post = [R]) := by
 refine Fn.enter (N := 19) func206 rfl ntmps206 tK rfl (fun ρ L => ?_)
 refine ky<|ka rfl<|zm<|ke<|ky<|km rfl<|kq (qG underlying60 rfl)<|km rfl<|zm<|kB ?_
 refine K.rloop (ι := { i : Nat // i ≤ l.length ∧ (l.take i).any p = false }) (fun x => [(8, .int .i64 x.1), (7, .int .i64 l.length), (0, .slice q l.length cap), (1, .func (.func f) #[] cs.toArray)]) (fun x => l.length - x.1) ⟨0, Nat.zero_le _, rfl⟩ tS (fun x ih => ?_)
 obtain ⟨i, hi, hz⟩ := x
 dsimp only at hi hz ⊢
 refine ky<|kq (q_lt rfl rfl)<|zm<|ke ?_
 refine kD (s := 9) rfl (fun g9 => ?_) (fun g9 => ?_)
 ·obtain ⟨e, he⟩ : ∃ e, l[i]? = some e := ⟨_, List.getElem?_eq_getElem tO⟩
  refine za<|ke<|kB<|ky<|km rfl<|ka rfl<|kz<|km rfl<|km rfl<|km rfl ?_
  first | refine kq (q_ix _ se_60 rfl rfl rfl isF tM rfl tL) ?_ | refine kq (q_ix _ se_60 rfl rfl rfl isO tM rfl tL) ?_
  first | refine kq (q_ldEN ck_56 rfl isF tM tE) ?_ | refine kq (q_ldEN ck_56 rfl isO tM tE) ?_
  refine kl (OpL.callCG (first := []) (captured := cs) rfl rfl tG (hf e (List.mem_of_getElem? he))) ?_
  rintro _ _ ⟨_, ⟨rfl, rfl⟩, rfl⟩
  refine zm ?_
  refine kT (s := 16) rfl (fun g16 => ?_) (fun g16 => ?_)
  ·refine ke ?_
   have hr : idxP p l = i := idxP_some he g16 hz
   refine kr<|km rfl<|ka rfl<|zm ?_
   refine kr1 func206 results206 rfl (fun w hs => ?_)
   rw [hr]
   exact ⟨_, [R], rfl, ⟨rfl, rfl⟩, hs.fitD⟩
  ·refine za<|zd<|kr<|kq (q_add rfl rfl tN tN)<|km rfl<|zm ?_
   exact K.weak tS (fun w h => h.fitD) (ih ⟨i + 1, by omega, by rw [any_take_succ he, hz, g16]; rfl⟩ (by show l.length - (i + 1) < l.length - i; omega))
 ·refine K.exit rfl<|ke ?_
  have hr : idxP p l = -1 := idxP_none (by rw [List.take_of_length_le tO] at hz; exact hz)
  refine kr<|ka rfl<|zm ?_
  refine kr1 func206 results206 rfl (fun w hs => ?_)
  rw [hr]
  exact ⟨_, [R], rfl, ⟨rfl, rfl⟩, hs.fitD⟩
theorem cof_msg (R : HP) (q : Option Addr) (cap : Nat) (l : List Msg) (f : FuncId) (cs : List Value) (p : Msg → Bool) (hl : (l.length : Int) ≤ 9223372036854775807) (hf : ∀ x ∈ l, Fn Tryz.prog f (Value.agg x.cells.toArray :: cs).toArray [R] (fun v post => v = .bool (p x) ∧ post = [R])) :
  Fn Tryz.prog 182 [.slice q l.length cap, .func (.func f) #[] cs.toArray].toArray [RowF Kd.msg q l, R] (fun r post => r = .bool (l.any p) ∧ post = [R]) := by
 refine Fn.enter (N := 9) func182 rfl ntmps182 tK rfl (fun ρ L => ?_)
 refine ky<|ka rfl<|kz<|km rfl<|km rfl<|kl (kc rfl (h := ixf_msg R q cap l f cs p hl hf)) ?_
 rintro _ _ ⟨_, ⟨rfl, rfl⟩, rfl⟩
 refine kq (q_ge rfl rfl)<|ka rfl<|zm ?_
 refine kr1 func182 results182 rfl (fun w hs => ?_)
 exact ⟨_, [R], rfl, ⟨by rw [← idxP_any], rfl⟩, hs.fitD⟩
end Go.Proofs.YtkbhldicnamcdaaGreat.L
namespace Go.Proofs.YtkbhldicnamcdaaGreat.L
open Go Go.Proofs
open Go.RowKit Go.ChangeShapes
structure Ob where
 name : ByteArray
 kind : Int
 limit : Int
 rows : List Rw
 msgs : List Msg
 dead : List Msg
structure ObQ where
 q1 : Option Addr
 c1 : Nat
 q2 : Option Addr
 c2 : Nat
 q3 : Option Addr
 c3 : Nat
structure Oz where
 x : Ob
 z : ObQ
def Oz.cells (o : Oz) : List Value := [.string o.x.name, .int .i64 o.x.kind, .int .i64 o.x.limit, .slice o.z.q1 o.x.rows.length o.z.c1, .slice o.z.q2 o.x.msgs.length o.z.c2, .slice o.z.q3 o.x.dead.length o.z.c3]
theorem oz_sz (o : Oz) : o.cells.length = 6 := rfl
theorem oz_one (o : Oz) : ∀ v ∈ o.cells, v.oneCell' = true := fun v h => by simp [Oz.cells] at h; rcases h with rfl | rfl | rfl | rfl | rfl | rfl <;> rfl
def Kd.oz : Kd Oz := Kd.flat 6 Oz.cells oz_sz oz_one
theorem q_as_oz {X : Fx} {o : Oper} {E : Env} {L : List HP} {cs : List Value} {name_ : ByteArray} {kind_ limit_ : Int} {q1_ q2_ q3_ : Option Addr} {c1_ c2_ c3_ : Nat} {rows_ : List Rw} {msgs_ dead_ : List Msg} (h : OpQ X o E L (.agg cs.toArray))
  (e : cs = [.string name_, .int .i64 kind_, .int .i64 limit_, .slice q1_ rows_.length c1_, .slice q2_ msgs_.length c2_, .slice q3_ dead_.length c3_]) : OpQ X o E L (.agg (Oz.cells ⟨⟨name_, kind_, limit_, rows_, msgs_, dead_⟩, ⟨q1_, c1_, q2_, c2_, q3_, c3_⟩⟩).toArray) := q_as h e
theorem ob_ext {a b : Ob} : a = b ↔ a.name = b.name ∧ a.kind = b.kind ∧ a.limit = b.limit ∧ a.rows = b.rows ∧ a.msgs = b.msgs ∧ a.dead = b.dead := by cases a; cases b; simp
instance : DecidableEq Ob := fun _ _ => decidable_of_iff _ ob_ext.symm
def Rw.sm (r : Rw) : Prop := r.key.size ≤ 140737488351232 ∧ r.value.size ≤ 140737488351232
def Msg.sm (m : Msg) : Prop := (-9223372036854775808 ≤ m.id ∧ m.id ≤ 9223372036854775807) ∧ (-9223372036854775808 ≤ m.pri ∧ m.pri ≤ 9223372036854775807) ∧ (-9223372036854775808 ≤ m.retry ∧ m.retry ≤ 9223372036854775807) ∧ m.corr.size ≤ 140737488351232 ∧ m.body.size ≤ 140737488351232
def Ob.sm (x : Ob) : Prop := x.name.size ≤ 140737488351232 ∧ (-9223372036854775808 ≤ x.kind ∧ x.kind ≤ 9223372036854775807) ∧ (-9223372036854775808 ≤ x.limit ∧ x.limit ≤ 9223372036854775807) ∧ (∀ r ∈ x.rows, r.sm) ∧ (∀ m ∈ x.msgs, m.sm) ∧ (∀ m ∈ x.dead, m.sm) ∧
 x.rows.length ≤ 140737488351232 ∧ x.msgs.length ≤ 140737488351232 ∧ x.dead.length ≤ 140737488351232
def Oz.ok (o : Oz) : Prop := o.x.sm ∧ o.x.rows.length ≤ o.z.c1 ∧ o.x.msgs.length ≤ o.z.c2 ∧ o.x.dead.length ≤ o.z.c3
abbrev ObL (o : Oz) : List HP := [RowF Kd.rw o.z.q1 o.x.rows, RowF Kd.msg o.z.q2 o.x.msgs, RowF Kd.msg o.z.q3 o.x.dead]
def Nest (o : Oz) (g : Hp) : Prop := (RowF Kd.rw o.z.q1 o.x.rows).holds g (fun _ => none) ∧ (RowF Kd.msg o.z.q2 o.x.msgs).holds g (fun _ => none) ∧ (RowF Kd.msg o.z.q3 o.x.dead).holds g (fun _ => none)
def NestF (l : List Oz) : HP := HP.per (fun g => ∀ o ∈ l, Nest o g) (fun hg h o ho => ⟨(RowF _ _ _).mono hg (h o ho).1, (RowF _ _ _).mono hg (h o ho).2.1, (RowF _ _ _).mono hg (h o ho).2.2⟩)
instance {l : List Oz} : Pers (NestF l) := ⟨rfl⟩
theorem nA {l : List Oz} {ρ : World} {L : List HP} {w : World} {o : Oz} (m : NestF l ∈ L) (ho : o ∈ l) (h : St ρ L w) : St ρ (ObL o ++ L) w := by
 have h3 := St.derive (B := RowF Kd.msg o.z.q3 o.x.dead) m rfl (fun _ _ hn => (RowF _ _ _).free rfl ((hn : ∀ o ∈ l, _) o ho).2.2) h
 have h2 := St.derive (B := RowF Kd.msg o.z.q2 o.x.msgs) (List.Mem.tail _ m) rfl (fun _ _ hn => (RowF _ _ _).free rfl ((hn : ∀ o ∈ l, _) o ho).2.1) h3
 exact St.derive (B := RowF Kd.rw o.z.q1 o.x.rows) (List.Mem.tail _ (List.Mem.tail _ m)) rfl (fun _ _ hn => (RowF _ _ _).free rfl ((hn : ∀ o ∈ l, _) o ho).1) h2
theorem nestF_nil {ρ : World} {L : List HP} {w : World} (h : St ρ L w) : St ρ (NestF [] :: L) w := by
 obtain ⟨g, q, a, b, c, d⟩ := h.body
 exact ⟨h.os, h.tape, h.output, g, q, a, b, c, sepAll_cons_per (A := NestF []) rfl (h1 := fun _ => none) (fun s hs => by cases hs) d⟩
theorem nestF_snoc {l : List Oz} {ρ : World} {L : List HP} {w : World} (o : Oz) (m : NestF l ∈ L) (m1 : RowF Kd.rw o.z.q1 o.x.rows ∈ L) (m2 : RowF Kd.msg o.z.q2 o.x.msgs ∈ L) (m3 : RowF Kd.msg o.z.q3 o.x.dead ∈ L) (h : St ρ L w) : St ρ (NestF (l ++ [o]) :: L) w := by
 obtain ⟨g, q, a, b, c, d⟩ := h.body
 obtain ⟨_, _, hn⟩ := sepAll_mem m d
 obtain ⟨_, _, h1⟩ := sepAll_mem m1 d
 obtain ⟨_, _, h2⟩ := sepAll_mem m2 d
 obtain ⟨_, _, h3⟩ := sepAll_mem m3 d
 refine ⟨h.os, h.tape, h.output, g, q, a, b, c, sepAll_cons_per (A := NestF (l ++ [o])) rfl (h1 := fun _ => none) (fun p hp => ?_) d⟩
 rcases List.mem_append.1 hp with hp | hp
 ·exact (hn : ∀ o ∈ l, _) p hp
 ·rw [List.mem_singleton.1 hp]
  exact ⟨(RowF _ _ _).free rfl h1, (RowF _ _ _).free rfl h2, (RowF _ _ _).free rfl h3⟩
structure Sz where
 next : Int
 q : Option Addr
 c : Nat
 l : List Oz
def Sz.cells (s : Sz) : List Value := [.int .i64 s.next, .slice s.q s.l.length s.c]
theorem sz_one (s : Sz) : ∀ v ∈ s.cells, v.oneCell' = true := fun v h => by simp [Sz.cells] at h; rcases h with rfl | rfl <;> rfl
theorem q_as_sz {X : Fx} {o : Oper} {E : Env} {L : List HP} {cs : List Value} {next_ : Int} {q_ : Option Addr} {c_ : Nat} {l_ : List Oz} (h : OpQ X o E L (.agg cs.toArray)) (e : cs = [.int .i64 next_, .slice q_ l_.length c_]) : OpQ X o E L (.agg (Sz.cells ⟨next_, q_, c_, l_⟩).toArray) := q_as h e
abbrev StL (s : Sz) : List HP := [RowF Kd.oz s.q s.l, NestF s.l]
def Sz.ok (s : Sz) : Prop := (-9223372036854775808 ≤ s.next ∧ s.next ≤ 9223372036854775807) ∧ s.l.length ≤ 140737488351232 ∧ s.l.length ≤ s.c ∧ ∀ o ∈ s.l, o.ok
structure Stt where
 next : Int
 objs : List Ob
theorem stt_ext {a b : Stt} : a = b ↔ a.next = b.next ∧ a.objs = b.objs := by cases a; cases b; simp
instance : DecidableEq Stt := fun _ _ => decidable_of_iff _ stt_ext.symm
def Sz.st (s : Sz) : Stt := ⟨s.next, s.l.map (·.x)⟩
def risesR (l : List Rw) : Bool := adj (fun a b => decide (cmpB a.key b.key < 0)) l
def risesM (l : List Msg) : Bool := adj (fun a b => decide (cmpM a b < 0)) l && decide (l.map (·.id)).Nodup
def Ob.right (o : Ob) : Bool := effName o.name && effKind o.kind o.limit && (if o.kind = 1 then decide ((o.msgs.length : Int) = 0) && decide ((o.dead.length : Int) = 0) && risesR o.rows && o.rows.all Rw.right
 else decide ((o.rows.length : Int) = 0) && risesM o.msgs && o.msgs.all Msg.right && o.dead.all (fun m => !m.claimed && m.right))
def Ob.ids (o : Ob) : List Int := (o.msgs ++ o.dead).map (·.id)
def Stt.ids (s : Stt) : List Int := s.objs.flatMap Ob.ids
def Stt.once (s : Stt) : Bool := decide s.ids.Nodup && s.ids.all (fun n => decide (n < s.next))
def Stt.right (s : Stt) : Bool := decide (1 ≤ s.next) && decide (s.next ≤ 1099511627776) && decide ((s.objs.length : Int) ≤ 20) && s.objs.all Ob.right && adj (fun a b => decide (cmpB a.name b.name < 0)) s.objs && s.once
end Go.Proofs.YtkbhldicnamcdaaGreat.L
namespace Go.Proofs.YtkbhldicnamcdaaGreat.L
open Go Go.Proofs
theorem nestF_put {l l' : List Oz} {ρ : World} {L : List HP} {w : World} (o : Oz) (hm : ∀ p ∈ l', p ∈ l ∨ p = o) (m : NestF l ∈ L) (m1 : RowF Kd.rw o.z.q1 o.x.rows ∈ L) (m2 : RowF Kd.msg o.z.q2 o.x.msgs ∈ L) (m3 : RowF Kd.msg o.z.q3 o.x.dead ∈ L) (h : St ρ L w) : St ρ (NestF l' :: L) w := by
 obtain ⟨g, q, a, b, c, d⟩ := h.body
 obtain ⟨_, _, hn⟩ := sepAll_mem m d
 obtain ⟨_, _, h1⟩ := sepAll_mem m1 d
 obtain ⟨_, _, h2⟩ := sepAll_mem m2 d
 obtain ⟨_, _, h3⟩ := sepAll_mem m3 d
 refine ⟨h.os, h.tape, h.output, g, q, a, b, c, sepAll_cons_per (A := NestF l') rfl (h1 := fun _ => none) (fun p hp => ?_) d⟩
 rcases hm p hp with hp | hp
 ·exact (hn : ∀ o ∈ l, _) p hp
 ·rw [hp]
  exact ⟨(RowF _ _ _).free rfl h1, (RowF _ _ _).free rfl h2, (RowF _ _ _).free rfl h3⟩
theorem rowF_nilA {α : Type} {k : Kd α} {ρ : World} {L : List HP} {w : World} (h : St ρ L w) : St ρ (RowF k none [] :: L) w := rO (e := 0) (cap := 0) (rowO_nil (k := k) 0 h)
def insAt {α : Type} (l : List α) (i : Nat) (x : α) : List α := l.take i ++ [x] ++ l.drop i
def findM (l : List Msg) (id : Int) : Int := idxP (fun m => decide (m.id = id)) l
def findO (s : Stt) (name : ByteArray) : Int := idxP (fun o => decide (o.name = name)) s.objs
def plc {α : Type} (p : α → Bool) (l : List α) : Nat := if idxP p l < 0 then l.length else (idxP p l).toNat
def addM (l : List Msg) (m : Msg) : List Msg := insAt l (plc (fun x => decide (0 < cmpM x m)) l) m
def cutM (l : List Msg) (id : Int) : List Msg × Bool := if findM l id < 0 then (l, false) else (l.eraseIdx (findM l id).toNat, true)
def claimM (l : List Msg) (id : Int) (on : Bool) : List Msg × Bool :=
 if findM l id < 0 then (l, false)
 else if (l.getD (findM l id).toNat ⟨0, 0, 0, false, ⟨#[]⟩, ⟨#[]⟩⟩).claimed = on then (l, false)
 else (l.set (findM l id).toNat { l.getD (findM l id).toNat ⟨0, 0, 0, false, ⟨#[]⟩, ⟨#[]⟩⟩ with claimed := on }, true)
def freeO (o : Ob) (id : Int) (tried : Bool) : Ob × Bool :=
 if findM o.msgs id < 0 then (o, false)
 else if (o.msgs.getD (findM o.msgs id).toNat ⟨0, 0, 0, false, ⟨#[]⟩, ⟨#[]⟩⟩).claimed = false then (o, false)
 else if tried = false then ({ o with msgs := o.msgs.set (findM o.msgs id).toNat { o.msgs.getD (findM o.msgs id).toNat ⟨0, 0, 0, false, ⟨#[]⟩, ⟨#[]⟩⟩ with claimed := false } }, true)
 else if o.limit ≤ (o.msgs.getD (findM o.msgs id).toNat ⟨0, 0, 0, false, ⟨#[]⟩, ⟨#[]⟩⟩).tried.retry then ({ o with msgs := o.msgs.eraseIdx (findM o.msgs id).toNat, dead := o.dead ++ [(o.msgs.getD (findM o.msgs id).toNat ⟨0, 0, 0, false, ⟨#[]⟩, ⟨#[]⟩⟩).tried] }, true)
 else ({ o with msgs := o.msgs.set (findM o.msgs id).toNat (o.msgs.getD (findM o.msgs id).toNat ⟨0, 0, 0, false, ⟨#[]⟩, ⟨#[]⟩⟩).tried }, true)
def whereM (o : Ob) (id : Int) : Int := if 0 ≤ findM o.msgs id then 1 else if 0 ≤ findM o.dead id then 2 else 0
def lbR (l : List Rw) (key : ByteArray) : Nat := (l.takeWhile (fun r => decide (cmpB r.key key < 0))).length
def fndR (l : List Rw) (key : ByteArray) : Bool := (l[lbR l key]?).any (fun r => decide (cmpB r.key key = 0))
def putR (l : List Rw) (r : Rw) : List Rw := if fndR l r.key = true then l.set (lbR l r.key) r else insAt l (lbR l r.key) r
def cutR (l : List Rw) (key : ByteArray) : List Rw × Bool := if fndR l key = true then (l.eraseIdx (lbR l key), true) else (l, false)
def hasM (s : Stt) (id : Int) : Bool := s.objs.any (fun o => decide (whereM o id ≠ 0))
def makeS (s : Stt) (e : Eff) : Stt × Int :=
 if 0 ≤ findO s e.object then (s, 4)
 else if 20 ≤ s.objs.length then (s, 6)
 else (⟨s.next, insAt s.objs (plc (fun o => decide (0 < cmpB o.name e.object)) s.objs) ⟨e.object, e.n, e.limit, [], [], []⟩⟩, 0)
def nextS (s : Stt) (n : Int) : Stt × Int := if n < s.next then (s, 1) else (⟨n, s.objs⟩, 0)
def queueO (s : Stt) (o : Ob) (e : Eff) : Ob × Int :=
 if e.kind = 4 then (if s.next ≤ e.msg.id ∨ e.msg.claimed = true then (o, 1) else if hasM s e.msg.id = true then (o, 4) else ({ o with msgs := addM o.msgs e.msg }, 0))
 else if e.kind = 5 then ({ o with msgs := (cutM o.msgs e.n).1 }, if (cutM o.msgs e.n).2 = true then 0 else 7)
 else if e.kind = 6 then (if findM o.msgs e.n < 0 then (o, 7) else ({ o with msgs := (claimM o.msgs e.n true).1 }, if (claimM o.msgs e.n true).2 = true then 0 else 2))
 else if e.kind = 7 then ((freeO o e.n e.tried).1, if (freeO o e.n e.tried).2 = true then 0 else 7)
 else (o, 7)
def tableO (o : Ob) (e : Eff) : Ob × Int :=
 if e.kind = 2 then ({ o with rows := putR o.rows ⟨e.key, e.value⟩ }, 0)
 else ({ o with rows := (cutR o.rows e.key).1 }, if (cutR o.rows e.key).2 = true then 0 else 7)
def Ob.zero : Ob := ⟨⟨#[]⟩, 0, 0, [], [], []⟩
def doS (s : Stt) (e : Eff) : Stt × Int :=
 if e.right = false then (s, 1)
 else if e.kind = 1 then makeS s e
 else if e.kind = 8 then nextS s e.n
 else if findO s e.object < 0 then (s, 3)
 else if decide (e.kind = 2 ∨ e.kind = 3) ≠ decide ((s.objs.getD (findO s e.object).toNat Ob.zero).kind = 1) then (s, 5)
 else if e.kind = 2 ∨ e.kind = 3 then (⟨s.next, s.objs.set (findO s e.object).toNat (tableO (s.objs.getD (findO s e.object).toNat Ob.zero) e).1⟩, (tableO (s.objs.getD (findO s e.object).toNat Ob.zero) e).2)
 else (⟨s.next, s.objs.set (findO s e.object).toNat (queueO s (s.objs.getD (findO s e.object).toNat Ob.zero) e).1⟩, (queueO s (s.objs.getD (findO s e.object).toNat Ob.zero) e).2)
def doAll : Stt → List Eff → Stt × Int
 | s, [] => (s, 0)
 | s, e :: l => if (doS s e).2 = 0 then doAll (doS s e).1 l else (⟨0, []⟩, (doS s e).2)
def applyS (s : Stt) (l : List Eff) : Stt × Int := if s.right = false then (⟨0, []⟩, 1) else doAll s l
def claimsO (o : Ob) : List Eff := (o.msgs.filter (·.claimed)).map (fun m => ⟨7, o.name, ⟨#[]⟩, ⟨#[]⟩, m.id, 0, true, ⟨0, 0, 0, false, ⟨#[]⟩, ⟨#[]⟩⟩⟩)
def claimsS (s : Stt) : List Eff := s.objs.flatMap claimsO
end Go.Proofs.YtkbhldicnamcdaaGreat.L
namespace Go.Proofs.YtkbhldicnamcdaaGreat.L
open Go Go.RowKit
theorem pt_apart {α : Type} {k : Kd α} {ρ : World} {L1 : List HP} {w : World} {bv : Nat} {ob : Obj} {e : TypeId} {b o cap : Nat} {xs : List α} (m : RowO k e (some ⟨b, o, none⟩) cap xs ∈ L1) (h : St ρ (pt bv ob :: L1) w) : bv ≠ b := by
 obtain ⟨g, q, a, lg, lq, h1, h2, ap, l1, l2, ha, d⟩ := h.body
 obtain ⟨h3, l3, hr⟩ := sepAll_mem m d
 rcases (hr : _ ∨ _) with ⟨hp, _⟩ | ⟨b', o', c, hp, _, hb, _⟩
 ·cases hp
 ·cases hp
  rintro rfl
  have ha : h1 bv = some ob := ha
  rcases ap bv with e1 | e1
  ·rw [ha] at e1; cases e1
  ·rw [l3 _ _ hb] at e1; cases e1
theorem row_heap {α : Type} {k : Kd α} {ρ : World} {L1 : List HP} {w : World} {e : TypeId} {b o cap : Nat} {xs : List α} (m : RowO k e (some ⟨b, o, none⟩) cap xs ∈ L1) (h : St ρ L1 w) : ∃ c, w.heap[b]? = some (.cells c e (0, 0)) ∧ o + cap * k.sz ≤ c.size := by
 obtain ⟨g, q, a, lg, lq, d⟩ := h.body
 obtain ⟨h3, l3, hr⟩ := sepAll_mem m d
 rcases (hr : _ ∨ _) with ⟨hp, _⟩ | ⟨b', o', c, hp, _, hb, hs, _⟩
 ·cases hp
 ·cases hp
  exact ⟨c, lq _ _ (l3 _ _ hb), hs⟩
section
variable {X : Fx} {E : Env} {L L1 : List HP} {d : Option Tmp} {ty : TypeId} {pos : String} {af : Array Edge} {gd : Option (Nat × Bool)} {x y : Operand} {ats : Array TypeId}
theorem q_apart {α : Type} {k : Kd α} {f : FuncId} {fn : Func} {tS tR e1 e ev bytes bv ov la ca b o o' lb cb cap : Nat} {cs : List Value} {xs : List α} (hf : X.P.funcs[f]? = some fn) (hname : (fn.name == "runtime.NumGoroutine") = false) (hb : fn.body.isNone = true) (hn : Extern.findNext fn = none)
  (he : Extern.find fn = some (Extern.SlicesOverlaps.overlaps #[tS, tS] #[tR])) (ht : slElem X.P tS = some (e1, k.sz, bytes)) (hx : Env.ev E x = some (.slice (some ⟨bv, ov, none⟩) la ca)) (hy : Env.ev E y = some (.slice (some ⟨b, o', none⟩) lb cb))
  (hp : Pick L (pv bv ev cs) L1) (m : RowO k e (some ⟨b, o, none⟩) cap xs ∈ L1) (h0 : 0 < cap) (hk0 : 0 < k.sz) :
  OpQ X ⟨d, .call ⟨.value (.func f), [x, y].toArray, ats⟩, ty, pos, af, gd⟩ E L (.bool false) := fun a w hk hs => by
 have h1 := hs.pick hp
 have hne := pt_apart m h1
 obtain ⟨c, hc, hcs⟩ := row_heap m h1.tail
 have hv : w.heap[bv]? = some (.cells cs.toArray ev (0, 0)) := h1.pt_heap (List.Mem.head _)
 unfold slElem at ht
 cases hu : X.P.underlying tS with
 | none => rw [hu] at ht; simp at ht
 | some dd =>
  cases dd <;> rw [hu] at ht <;> simp only [reduceCtorEq] at ht
  rename_i e2
  cases hinf : X.P.info? e2 with
  | none => rw [hinf] at ht; simp at ht
  | some inf =>
   rw [hinf] at ht
   simp only [Option.some.injEq, Prod.mk.injEq] at ht
   obtain ⟨rfl, hisz, _⟩ := ht
   have hpos : 0 < cap * k.sz := Nat.mul_pos h0 hk0
   have hrun := Go.Lib.run_overlaps_apart (P := X.P) w tS tR e2 hu k.sz (fun w => by simp [sizeOf, typeInfo, hinf, hisz]) ⟨bv, ov, none⟩ ⟨b, o', none⟩ la ca lb cb hne ev e cs.toArray.size c.size
    (by simp [World.shape?, hv]) (by simp [World.shape?, hc]) tO (by simp [World.frozen?, hv]) (by simp [World.frozen?, hv])
   have hcall := run_callFunc_extern (P := X.P) hf hname hb hn he #[.slice (some ⟨bv, ov, none⟩) la ca, .slice (some ⟨b, o', none⟩) lb cb] w
   rw [hrun] at hcall
   have n1 : ¬ fn.name = "runtime.NumGoroutine" := by simpa using hname
   have e0 : a.eval (.func f) = .func (.func f) #[] #[] := hk.ev (x := .func f) rfl
   simp [execOp, resolve, Deferred.ofValue, invoke, e0, hk.ev hx, hk.ev hy, hcall, Result.andThen_ok]
theorem q_cut3 {p : Option Addr} {n cap e sz bytes : Nat} {t : TypeId} {lo hi mx : Operand} {l h m : Int} (ht : slElem X.P t = some (e, sz, bytes)) (hx : Env.ev E x = some (.slice p n cap))
  (hl : Env.ev E lo = some (.int .i64 l)) (hh : Env.ev E hi = some (.int .i64 h)) (hm : Env.ev E mx = some (.int .i64 m)) (h0 : 0 ≤ l) (h1 : l ≤ h) (h2 : h ≤ m) (h3 : m ≤ cap) :
  OpQ X ⟨d, .slice t x (some lo) (some hi) (some mx), ty, pos, af, gd⟩ E L (.slice (cutAddr p m.toNat l.toNat sz) (h.toNat - l.toNat) (m.toNat - l.toNat)) := fun _ w hk _ => by
 unfold slElem at ht
 cases hu : X.P.underlying t with
 | none => rw [hu] at ht; simp at ht
 | some ds =>
  cases ds <;> rw [hu] at ht <;> simp only [reduceCtorEq] at ht
  rename_i e'
  cases hi' : X.P.info? e' with
  | none => rw [hi'] at ht; simp at ht
  | some inf =>
   rw [hi'] at ht
   simp only [Option.some.injEq, Prod.mk.injEq] at ht
   obtain ⟨rfl, rfl, rfl⟩ := ht
   obtain ⟨l, rfl⟩ := Int.eq_ofNat_of_zero_le h0
   obtain ⟨h, rfl⟩ := Int.eq_ofNat_of_zero_le (a := h) tO
   obtain ⟨m, rfl⟩ := Int.eq_ofNat_of_zero_le (a := m) tO
   have k1 : l ≤ h := by omega
   have k2 : h ≤ m := by omega
   have k3 : m ≤ cap := by omega
   simp [execOp, hk.ev hx, hk.ev hl, hk.ev hh, hk.ev hm, Instr.sliceAt, underlying, hu, Instr.slice, Instr.sliceBounds, Instr.sliceBound, asIntOf, k1, k2, k3, sizeOf, typeInfo, hi', cutAddr]
theorem l_storeEN {α : Type} {sz : Nat} {enc : α → List Value} {hl : ∀ x, (enc x).length = sz} {h1 : ∀ x, ∀ v ∈ enc x, v.oneCell' = true} {p : Option Addr} {e cap n : Nat} {t : TypeId} {xs : List α} (el' : α) (ht : cellK X.P t = some (true, sz)) (hx : Env.ev E x = some (.pointer (some (elA p n sz 0)))) (hy : Env.ev E y = some (.agg (enc el').toArray))
  (hp : Pick L (RowO (Kd.flat sz enc hl h1) e p cap xs) L1) (hn : n < xs.length) :
  OpL X ⟨d, .store t x y, ty, pos, af, gd⟩ E L (fun v' L' => v' = undef ∧ L' = RowO (Kd.flat sz enc hl h1) e p cap (xs.set n el') :: L1) := fun a w hk hs => by
 have hs' := hs.pick hp
 rcases rowO_open hs' with ⟨_, _, hx0, _⟩ | ⟨b, o, c, rfl, hlc, hcs, h2⟩
 ·rw [hx0] at hn; simp at hn
 have hb : w.heap[b]? = some (.cells c e (0, 0)) := h2.pt_heap (List.Mem.head _)
 have hcs' : o + cap * sz ≤ c.size := hcs
 have hmul : (n + 1) * sz ≤ cap * sz := Nat.mul_le_mul_right _ tO
 rw [Nat.succ_mul] at hmul
 have hlen := hl el'
 have hrun := run_storeCells (P := X.P) (b := b) (o := o + n * sz) (enc el') 0 w c hb (h1 el') tO
 rw [Nat.add_zero] at hrun
 rw [elA_some] at hx
 unfold Oper.wp
 have : (execOp a.eval ⟨d, .store t x y, ty, pos, af, gd⟩).run X.P w = .ok .skip (putBlk w b (.cells (spl c (o + n * sz) (enc el')) e (0, 0))) := by
  simp only [execOp, hk.ev hx, hk.ev hy, Instr.storeAt, Instr.sureAddr, storeVar, Sem.run_bind, Sem.run_pure, Result.andThen_ok, run_sizeK ht, Value.cells]
  simp only [List.size_toArray, hlen, ne_eq, not_true_eq_false, if_false]
  rw [Nat.add_zero, hrun]
  rfl
 rw [this]
 refine ⟨undef, _, ⟨rfl, rfl⟩, rfl, ?_⟩
 have hL2 := h2.put (.cells (spl c (o + n * sz) (enc el')) e (0, 0))
 have hget := fun q => spl_get (enc el') c (o + n * sz) q tO
 have hL3 := St.derive (B := rowP (Kd.flat sz enc hl h1) (spl c (o + n * sz) (enc el')) o (xs.set n el')) (List.Mem.tail _ (List.Mem.head _)) rfl
  (fun g _ hr => rowAt.setE (hr : rowAt (Kd.flat sz enc hl h1) g c o xs) (fun i q hi hq => by
    rw [hget, if_neg]
    rcases Nat.lt_or_gt_of_ne hi with h | h
    ·have := Nat.mul_le_mul_right sz (show i + 1 ≤ n from h); rw [Nat.succ_mul] at this; omega
    ·have := Nat.mul_le_mul_right sz (show n + 1 ≤ i from h); rw [Nat.succ_mul] at this; omega)
   (fun q u hu => by
    have hq : q < (enc el').length := (List.getElem?_eq_some_iff.1 hu).1
    rw [hget, if_pos tO, ← hu]
    congr 1
    omega)) hL2
 exact rowO_shut (c := spl c (o + n * sz) (enc el')) (by rw [spl_size]; exact hcs) (by rw [List.length_set]; exact hlc) (((hL3.pick (.there .here)).pick (.there (.there .here))).tail)
theorem rowAt_zeros {α : Type} {k : Kd α} {g : Hp} {z : List Value} {zc : Array Value} {z0 : α} (hz0 : k.rd g z0 z) (hzc : zc.toList = z) (hzl : z.length = k.sz) (n : Nat) : rowAt k g (Builtin.zeroCells zc n) 0 (List.replicate n z0) := fun i x hx => by
 obtain ⟨hi, e⟩ := List.getElem?_eq_some_iff.1 hx
 rw [List.length_replicate] at hi
 rw [List.getElem_replicate] at e
 subst e
 have hs : zc.size = k.sz := by rw [← hzl, ← hzc]; simp
 refine ⟨z, hz0, fun j v hv => ?_⟩
 have hj : j < k.sz := by rw [← hzl]; exact (List.getElem?_eq_some_iff.1 hv).1
 have hm : (i + 1) * k.sz ≤ n * k.sz := Nat.mul_le_mul_right _ hi
 rw [Nat.succ_mul] at hm
 have hlt : 0 + i * k.sz + j < n * zc.size := by rw [hs]; omega
 unfold Builtin.zeroCells
 rw [Array.getElem?_map, Array.getElem?_range, if_pos hlt, Option.map_some]
 have hmod : (0 + i * k.sz + j) % zc.size = j := by rw [hs, Nat.zero_add, Nat.mul_comm, Nat.mul_add_mod, Nat.mod_eq_of_lt hj]
 rw [hmod, ← hv, ← hzc, Array.getElem?_toList, getElem!_pos zc j (by rw [hs]; exact hj), Array.getElem?_eq_getElem (by rw [hs]; exact hj)]
theorem l_growPre {α : Type} (k : Kd α) {t t2 : TypeId} {e e' bytes n i cap : Nat} {p : Option Addr} {xs : List α} {z : List Value} (z0 : α) (ht : slElem X.P t = some (e, k.sz, bytes)) (ht2 : X.P.underlying t2 = some (.int .i64)) (hz : zeroOf X.P e = some z) (hzl : z.length = k.sz) (hz0 : ∀ g, k.rd g z0 z)
  (hx : Env.ev E x = some (.slice p i cap)) (hy : Env.ev E y = some (.int .i64 (n : Int))) (hp : Pick L (RowO k e' p cap xs) L1) (hi : i ≤ xs.length) (hgrow : cap < i + n) (h0 : 0 < n) (hk0 : 0 < k.sz) (hby : bytes ≠ 0) (hbig : (2 * (i + n) + 768) * bytes ≤ 281474976710656) :
  OpL X ⟨d, .call ⟨.builtin .append, [x, y].toArray, [t, t2].toArray⟩, ty, pos, af, gd⟩ E L (fun v L' => ∃ b cap', v = .slice (some ⟨b, 0, none⟩) (i + n) cap' ∧ L' = RowO k e (some ⟨b, 0, none⟩) cap' (xs.take i ++ List.replicate n z0) :: RowO k e' p cap xs :: L1) := fun a w hk hst => by
 have e1 := hk.ev hx
 have e2 := hk.ev hy
 have h1 := hst.pick hp
 obtain ⟨old, hold, holdsz, _, h2⟩ := row_cells (P := X.P) (n := i) (c := cap) (isRow_take (isO (k := k) (e := e') (p := p) (cap := cap) (xs := xs)) i) (List.Mem.head L1) (by rw [List.length_take]; omega) h1
 unfold slElem at ht
 cases hu : X.P.underlying t with
 | none => rw [hu] at ht; simp at ht
 | some dd =>
  cases dd <;> rw [hu] at ht <;> simp only [reduceCtorEq] at ht
  rename_i e1'
  cases hinf : X.P.info? e1' with
  | none => rw [hinf] at ht; simp at ht
  | some inf =>
   rw [hinf] at ht
   simp only [Option.some.injEq, Prod.mk.injEq] at ht
   obtain ⟨rfl, hisz, hiby⟩ := ht
   unfold zeroOf at hz
   rw [hinf] at hz
   simp only [Option.bind_some] at hz
   obtain ⟨zv, hzv, hzc⟩ := Option.map_eq_some_iff.1 hz
   have hzs : zv.cells.size = k.sz := by rw [← hzl, ← hzc]; simp
   have hle1 : i + n ≤ (2 * (i + n) + 768) * bytes := Nat.le_trans tO (Nat.le_mul_of_pos_right _ (Nat.pos_of_ne_zero hby))
   have hn2 : Builtin.nextslicecap (i + n) cap ≤ 2 * (i + n) + 768 := nextcap_le tO
   have hbig' : ¬ (Builtin.nextslicecap (i + n) cap * inf.bytes > 2 ^ 48) := by
    have := Nat.mul_le_mul_right inf.bytes hn2
    rw [hiby] at this ⊢
    omega
   have hw : IntKind.i64.wrap (n : Int) = n := wrap_i64 tO tO
   have hneg : ¬ (n : Int) < 0 := by omega
   have hnb : n * bytes ≤ 281474976710656 := Nat.le_trans (Nat.mul_le_mul_right _ tO) hbig
   have hb3 : ¬ (281474976710656 < (n : Int) * (inf.bytes : Int)) := by
    rw [hiby]
    have : ((n * bytes : Nat) : Int) ≤ 281474976710656 := by omega
    rw [Int.natCast_mul] at this
    omega
   have hm2 : ¬ (9223372036854775807 < (i : Int) + (n : Int)) := by omega
   have hfit : ¬ i + n ≤ cap := by omega
   have hni : ¬ n = 0 := by omega
   have hks : ¬ k.sz = 0 := by omega
   have hb0 : ¬ inf.bytes = 0 := by rw [hiby]; exact hby
   have hb4 : ¬ (281474976710656 < Builtin.nextslicecap (i + n) cap * inf.bytes) := by simpa using hbig'
   have hforced : (Question.appendCap (i + n) cap e1').forced = false := rfl
   let nc := (Question.appendCap (i + n) cap e1').cut (w.tape w.drawn (Question.appendCap (i + n) cap e1'))
   have hnc : i + n ≤ nc := Nat.le_add_right _ _
   let arr : Array Value := old ++ Builtin.zeroCells zv.cells n ++ Builtin.zeroCells zv.cells (nc - (i + n))
   have hold' : (Builtin.firstCells k.sz i (.slice p i cap)).run X.P w.drew = .ok old w.drew := hold _ rfl
   have hrun : (Builtin.append_ #[t, t2] ty #[.slice p i cap, .int .i64 (n : Int)]).run X.P w = .ok (.slice (some ⟨w.heap.size, 0, none⟩) (i + n) nc) { w with drawn := w.drawn + 1, heap := w.heap.push (.cells arr e1') } := by
    simp [Builtin.append_, underlying, hu, sizeOf, typeInfo, hinf, hisz, ht2, asInt, asIntOf, hw, hneg, hb3, hb4, hm2, hfit, hforced, hold', zeroValue, hzv, newRow, nc, arr, hb0]
    rw [if_neg (Nat.ne_of_gt (Nat.mul_pos h0 hk0))]
    rfl
   have hzn : ∀ q, (Builtin.zeroCells zv.cells q).size = q * k.sz := fun q => by simp [Builtin.zeroCells, hzs]
   have harr : arr.size = 0 + nc * k.sz := by
    have : nc * k.sz = (i * k.sz + n * k.sz) + (nc - (i + n)) * k.sz := by rw [← Nat.add_mul, ← Nat.add_mul]; congr 1; omega
    simp only [arr, Array.size_append, holdsz, hzn]
    omega
   unfold Oper.wp
   have : (execOp a.eval ⟨d, .call ⟨.builtin .append, [x, y].toArray, [t, t2].toArray⟩, ty, pos, af, gd⟩).run X.P w = .ok (.value (.slice (some ⟨w.heap.size, 0, none⟩) (i + n) nc)) { w with drawn := w.drawn + 1, heap := w.heap.push (.cells arr e1') } := by
    simp only [execOp, resolve, invoke, builtin, Sem.run_bind, Sem.run_pure, Result.andThen_ok, List.map_toArray, List.map_cons, List.map_nil, e1, e2]
    rw [hrun]
    rfl
   rw [this]
   have hL1 := (h2.drewN (w.drawn + 1) (Nat.le_succ _)).alloc (.cells arr e1')
   have htl : (xs.take i).length = i := by rw [List.length_take]; omega
   have hL3 := St.derive (B := rowP k arr 0 (xs.take i ++ List.replicate n z0)) (List.Mem.tail _ (List.Mem.head _)) rfl
    (fun g _ h1 => rowAt.append (h1 : rowAt k g old 0 (xs.take i)) (rowAt_zeros (hz0 g) hzc hzl n)
     (fun j hj => by
      rw [htl] at hj
      rw [Nat.zero_add]
      simp only [arr]
      rw [Array.getElem?_append_left (by simp [holdsz, hzn]; omega), Array.getElem?_append_left tO])
     (fun j hj => by
      rw [List.length_replicate] at hj
      rw [htl]
      simp only [arr, Nat.zero_add]
      rw [Array.getElem?_append_left (by simp [holdsz, hzn]; omega), Array.getElem?_append_right tO]
      congr 1
      omega)) hL1
   have hL4 := ((hL3.pick (.there .here)).pick (.there (.there .here))).tail
   exact ⟨_, _, ⟨w.heap.size, nc, rfl, rfl⟩, rfl, rowO_shut (Nat.le_of_eq harr.symm) (by rw [List.length_append, htl, List.length_replicate]; omega) hL4⟩
end
theorem q_apartC {X : Fx} {E : Env} {L L1 : List HP} {d : Option Tmp} {ty : TypeId} {pos : String} {af : Array Edge} {gd : Option (Nat × Bool)} {x y : Operand} {ats : Array TypeId} {α : Type} {k : Kd α} {f : FuncId} {fn : Func} {tS tR e1 e ev bytes bv ov la ca lb cb cap j : Nat} {q : Option Addr} {cs : List Value} {xs : List α} (hf : X.P.funcs[f]? = some fn) (hname : (fn.name == "runtime.NumGoroutine") = false) (hb : fn.body.isNone = true) (hn : Extern.findNext fn = none)
  (he : Extern.find fn = some (Extern.SlicesOverlaps.overlaps #[tS, tS] #[tR])) (ht : slElem X.P tS = some (e1, k.sz, bytes)) (hx : Env.ev E x = some (.slice (some ⟨bv, ov, none⟩) la ca)) (hy : Env.ev E y = some (.slice (cutAddr q cap j k.sz) lb cb))
  (hp : Pick L (pv bv ev cs) L1) (m : RowO k e q cap xs ∈ L1) (hne : xs ≠ []) (hj : j < cap) (hk0 : 0 < k.sz) :
  OpQ X ⟨d, .call ⟨.value (.func f), [x, y].toArray, ats⟩, ty, pos, af, gd⟩ E L (.bool false) :=
 OpQ.when (fun w hs => rowO_addr m hne w (hs.pick hp).tail) (fun ⟨b, o, hq⟩ => by
  subst hq
  rw [cutAddr_in hj] at hy
  exact q_apart hf hname hb hn he ht hx hy hp m tO hk0)
section
variable {α : Type} {l : List α} {i : Nat} {x z : α}
theorem ins_grow1 (hi : i ≤ l.length) : (l.take i ++ List.replicate (l.length + 1 - i) z).take i ++ [x].take 1 ++ (l.take i ++ List.replicate (l.length + 1 - i) z).drop (i + 1) = l.take i ++ [x] ++ List.replicate (l.length - i) z := by
 have e : (l.take i).length = i := by rw [List.length_take]; omega
 rw [List.take_left' e, List.drop_append, e, List.drop_of_length_le tO, List.nil_append, List.drop_replicate, show l.length + 1 - i - (i + 1 - i) = l.length - i by omega]
 rfl
theorem ins_grow2 (hi : i ≤ l.length) : (l.take i ++ [x] ++ List.replicate (l.length - i) z).take (i + 1) ++ (l.drop i).take (l.length - i) ++ (l.take i ++ [x] ++ List.replicate (l.length - i) z).drop (i + 1 + (l.length - i)) = l.take i ++ [x] ++ l.drop i := by
 have e : (l.take i ++ [x]).length = i + 1 := by rw [List.length_append, List.length_take, List.length_singleton]; omega
 rw [List.take_left' e, List.drop_of_length_le (l := l.take i ++ [x] ++ List.replicate (l.length - i) z) (by rw [List.length_append, e, List.length_replicate]; omega), List.append_nil, List.take_of_length_le (l := l.drop i) (by rw [List.length_drop]; omega)]
theorem ins_room1 (hi : i < l.length) : l.take (i + 1) ++ (l.drop i).take (l.length - i) ++ l.drop (i + 1 + (l.length - i)) = l.take (i + 1) ++ l.drop i := by
 rw [List.drop_of_length_le (i := i + 1 + (l.length - i)) tO, List.append_nil, List.take_of_length_le (l := l.drop i) (by rw [List.length_drop]; omega)]
theorem ins_room2 (hi : i < l.length) : (l.take (i + 1) ++ l.drop i).take i ++ [x].take 1 ++ (l.take (i + 1) ++ l.drop i).drop (i + 1) = l.take i ++ [x] ++ l.drop i := by
 have e : (l.take (i + 1)).length = i + 1 := by rw [List.length_take]; omega
 rw [List.drop_left' e, List.take_append_of_le_length tO, List.take_take, show min i (i + 1) = i by omega]
 rfl
end
theorem tw_eq {α : Type} {f : α → Bool} {l : List α} {i : Nat} (ha : (l.take i).all f = true) (hi : i ≤ l.length) (hn : ∀ e, l[i]? = some e → f e = false) : (l.takeWhile f).length = i := by
 have hs : l = l.take i ++ l.drop i := (List.take_append_drop i l).symm
 conv => lhs; rw [hs]
 rw [List.takeWhile_append_of_pos (by simpa using ha), List.length_append, List.length_take]
 have : (l.drop i).takeWhile f = [] := by
  cases hd : l.drop i with
  | nil => rfl
  | cons x t =>
   have hx : l[i]? = some x := by
    have : (l.drop i)[0]? = some x := by rw [hd]; rfl
    rw [List.getElem?_drop] at this
    exact this
   rw [List.takeWhile_cons, if_neg (by rw [hn x hx]; exact Bool.false_ne_true)]
 rw [this]
 simp only [List.length_nil]
 omega
theorem filter_take_succ {α : Type} (p : α → Bool) {l : List α} {i : Nat} {x : α} (h : l[i]? = some x) : (l.take (i + 1)).filter p = (l.take i).filter p ++ if p x = true then [x] else [] := by
 rw [List.take_add_one, h, List.filter_append]
 cases hp : p x <;> simp [hp]
theorem flatMap_take_succ {α β : Type} (f : α → List β) {l : List α} {i : Nat} {x : α} (h : l[i]? = some x) : (l.take (i + 1)).flatMap f = (l.take i).flatMap f ++ f x := by
 rw [List.take_add_one, h]; simp
theorem flatMap_take_le {α β : Type} (f : α → List β) (l : List α) (i : Nat) : ((l.take i).flatMap f).length ≤ (l.flatMap f).length := by
 have h : (l.flatMap f).length = ((l.take i ++ l.drop i).flatMap f).length := by rw [List.take_append_drop]
 rw [h, List.flatMap_append, List.length_append]; omega
theorem cmpI_neg {a b : Int} : cmpI a b < 0 ↔ a < b := by unfold cmpI; (repeat' split) <;> omega
theorem cmpL_anti : ∀ a b : List UInt8, cmpL b a = - cmpL a b
 | [], [] => rfl
 | [], _ :: _ => rfl
 | _ :: _, [] => rfl
 | x :: xs, y :: ys => by
  have ih := cmpL_anti xs ys
  unfold cmpL
  simp only [UInt8.lt_iff_toNat_lt]
  (repeat' split) <;> omega
theorem cmpL_trans : ∀ {a b c : List UInt8}, cmpL a b < 0 → cmpL b c < 0 → cmpL a c < 0
 | [], [], _, h, _ => by simp [cmpL] at h
 | [], _ :: _, [], _, h => by simp [cmpL] at h
 | [], _ :: _, _ :: _, _, _ => by simp [cmpL]
 | _ :: _, [], _, h, _ => by simp [cmpL] at h
 | _ :: _, _ :: _, [], _, h => by simp [cmpL] at h
 | x :: xs, y :: ys, z :: zs, h1, h2 => by
  have ih := cmpL_trans (a := xs) (b := ys) (c := zs)
  unfold cmpL at h1 h2 ⊢
  simp only [UInt8.lt_iff_toNat_lt] at h1 h2 ⊢
  split at h1
  ·split at h2
   ·rw [if_pos tO]; decide
   ·split at h2
    ·omega
    ·rw [if_pos tO]; decide
  ·split at h1
   ·omega
   ·split at h2
    ·rw [if_pos tO]; decide
    ·split at h2
     ·omega
     ·rw [if_neg tO, if_neg tO]
      exact ih h1 h2
theorem cmpB_anti (a b : ByteArray) : cmpB b a = - cmpB a b := cmpL_anti _ _
theorem cmpB_trans {a b c : ByteArray} (h1 : cmpB a b < 0) (h2 : cmpB b c < 0) : cmpB a c < 0 := cmpL_trans h1 h2
end Go.Proofs.YtkbhldicnamcdaaGreat.L
namespace Go.Proofs.YtkbhldicnamcdaaGreat.L
open Go Go.Proofs
attribute [local irreducible] pv fv pt fz RowF RowO rowP old pure_ elA Rd.int Rd.text Rd.flag Rd.msg Rd.rint Rd.rtext Rd.rflag Rd.rmsg
theorem ze_rw : zeroOf Tryz.prog 136 = some (Rw.cells ⟨⟨#[]⟩, ⟨#[]⟩⟩) := by kernel_rfl
theorem ze_msg : zeroOf Tryz.prog 56 = some (Msg.cells ⟨0, 0, 0, false, ⟨#[]⟩, ⟨#[]⟩⟩) := by kernel_rfl
theorem ze_oz : zeroOf Tryz.prog 62 = some (Oz.cells ⟨Ob.zero, ⟨none, 0, none, 0, none, 0⟩⟩) := by kernel_rfl
theorem clone_rw (A : HP) (q : Option Addr) (cap : Nat) (xs : List Rw) (hA : IsRow A Kd.rw q xs) (hb : xs.length ≤ 1000000000) : Fn Tryz.prog 93 [.slice q xs.length cap].toArray [A]
  (fun r post => ∃ q' cap', r = .slice q' xs.length cap' ∧ post = [RowO Kd.rw 136 q' cap' xs, A] ∧ xs.length ≤ cap') := by
 refine Fn.enter (N := 8) func93 rfl ntmps93 tK rfl (fun ρ L => ?_)
 refine ky<|ka rfl<|zm<|ke<|ky<|km rfl<|kq (q_slnil underlying59 rfl rfl)<|zm ?_
 refine K.ite rfl (fun h => ?_) (fun h => ?_)
 ·rcases q with _ | a
  rotate_left
  ·cases h
  refine K.fact (row_none hA (List.Mem.head _)) (fun e => ?_)
  subst e
  refine ky<|ka rfl<|zm ?_
  refine kr1 func93 results93 rfl (fun w hs => ?_)
  exact ⟨_, [RowO Kd.rw 136 none 0 [], A], rfl, ⟨none, 0, rfl, rfl, Nat.le_refl _⟩, (rowO_nil (k := Kd.rw) 136 hs).fitD⟩
 ·refine za<|ky<|kl (l_slice0 Kd.rw se_59) ?_
  rintro _ _ ⟨q0, rfl, rfl⟩
  refine km rfl<|kl (lX Kd.rw (xs := []) (ys := xs) se_59 underlying59 ⟨_, ze_rw, rfl⟩ tD rfl rfl tP hA tM rfl rfl (by show (2 * (0 + xs.length) + 768) * _ ≤ _; omega)) ?_
  rintro _ _ ⟨q', cap', rfl, rfl⟩
  refine ka rfl<|zm ?_
  refine kr1 func93 results93 rfl (fun w hs => ?_)
  exact ⟨_, [RowO Kd.rw 136 q' cap' xs, A], rfl, ⟨q', cap', rfl, rfl, rC (List.Mem.head _) w hs⟩, hs.fitD⟩
set_option maxHeartbeats 1600000 in
theorem ins_rw (q : Option Addr) (cap : Nat) (l : List Rw) (i : Nat) (bv ev : Nat) (x : Rw) (hi : i ≤ l.length) (hc : l.length ≤ cap) (hb : l.length ≤ 1000000000) : Fn Tryz.prog 222 [.slice q l.length cap, .int .i64 i, .slice (some ⟨bv, 0, none⟩) 1 1].toArray [RowO Kd.rw 136 q cap l, pv bv ev x.cells]
  (fun r post => ∃ q' cap', r = .slice q' (insAt l i x).length cap' ∧ post = [RowO Kd.rw 136 q' cap' (insAt l i x)] ∧ (insAt l i x).length ≤ cap') := by
 have hil' : (insAt l i x).length = l.length + 1 := by
  unfold insAt
  rw [List.length_append, List.length_append, List.length_take, List.length_drop, List.length_singleton]; omega
 refine Fn.enter (N := 95) func222 rfl ntmps222 tK rfl (fun ρ L => ?_)
 refine ky<|ka rfl<|kz<|km rfl<|km rfl<|kq (q_cutL se_59 rfl rfl tN tN tN)<|kz<|km rfl<|kq (qG underlying59 rfl)<|ka rfl<|zm<|ke<|ky<|km rfl<|kq (q_eqF rfl rfl tD)<|zm<|K.no rfl<|za<|ky<|km rfl<|kq (qG underlying59 rfl)<|ka rfl<|zm<|ke<|ky<|km rfl<|km rfl<|kq (q_eq rfl rfl)<|zm ?_
 refine kD (s := 22) rfl (fun g22 => ?_) (fun g22 => ?_)
 ·have hil : i = l.length := by omega
  have hins : insAt l i x = l ++ [x] := by unfold insAt; subst hil; simp
  refine ky<|km rfl<|km rfl<|kl (lX Kd.rw se_59 underlying59 ⟨_, ze_rw, rfl⟩ tD rfl rfl tP isP tM rfl rfl (by show (2 * (l.length + 1) + 768) * _ ≤ _; omega)) ?_
  rintro _ _ ⟨px, capx, rfl, rfl⟩
  refine ka rfl<|zm ?_
  refine kr1 func222 results222 rfl (fun w hs => ?_)
  first
   | exact ⟨_, [RowO Kd.rw 136 px capx (l ++ [x])], rfl, ⟨px, capx, by rw [hil']; simp, by rw [hins], by rw [hins]; exact rC (e := 136) (k := Kd.rw) (p := px) (cap := capx) (xs := l ++ [x]) tM w hs⟩, hs.fitD⟩
   | exact ⟨_, [RowO Kd.rw 136 (some ⟨bn, 0, none⟩) capn (l.take i ++ [x] ++ l.drop i)], rfl, ⟨_, _, by rw [hil']; exact congrArg (fun n => Value.slice _ n _) tO, rfl, rC (e := 136) (k := Kd.rw) (xs := l.take i ++ [x] ++ l.drop i) tM w hs⟩, hs.fitD⟩
   | exact ⟨_, [RowO Kd.rw 136 q cap (l.take i ++ [x] ++ l.drop i)], rfl, ⟨q, cap, by rw [hil']; exact congrArg (fun n => Value.slice _ n _) tO, rfl, rC (e := 136) (k := Kd.rw) (xs := l.take i ++ [x] ++ l.drop i) tM w hs⟩, hs.fitD⟩
 ·refine za<|ke<|ky<|km rfl<|km rfl<|kq (q_add rfl rfl tN tN)<|km rfl<|kq (q_cap underlying59 rfl)<|kq (q_gt rfl rfl)<|zm ?_
  refine kD (s := 31) rfl (fun g31 => ?_) (fun g31 => ?_)
  ·have hil : i < l.length := by omega
   refine ky<|km rfl<|km rfl<|kq (q_cutH se_59 rfl rfl tN tN)<|km rfl<|km rfl<|kq (q_add rfl rfl tN tN)<|km rfl<|kq (q_sub rfl rfl tN tN)<|kl (l_growPre (i := i) (n := l.length + 1 - i) Kd.rw ⟨⟨#[]⟩,⟨#[]⟩⟩ se_59 underlying3 ze_rw rfl (fun _ => rfl) rfl (congrArg (fun z => some (Value.int .i64 z)) (show (l.length : Int) + ((1 : Nat) : Int) - i = ((l.length + 1 - i : Nat) : Int) by omega)) tP hi tO tO tD tD tO) ?_
   rintro _ _ ⟨bn, capn, rfl, rfl⟩
   refine KO.fact (fun w h => rC List.mem_cons_self w h) (fun hcn => ?_)
   rw [List.length_append, List.length_take, List.length_replicate] at hcn
   refine ka rfl<|kz<|km rfl<|km rfl<|kq (q_cutL se_59 rfl rfl tN tN tN)<|km rfl<|kl (l_copyA (i := i) (m := 1) Kd.rw se_59 rfl rfl tP isP tM rfl (Nat.min_eq_left tO) (by rw [List.length_append, List.length_take, List.length_replicate]; omega) tO tO) ?_
   rintro _ _ ⟨rfl, rfl⟩
   refine zm ?_
   rw [ins_grow1 hi]
   refine ke<|K.draw [] mixed<|D.q 0 rfl tK tK (q_move rfl) (fun _ h => h.nil)<|D.q 1 rfl tK tK (q_move rfl) (fun _ h => h.nil)<|D.q 2 rfl tK tK (q_move rfl) (fun _ h => h.nil)<|D.q 3 rfl tK tK (q_add rfl rfl tN tN) (fun _ h => h.nil)<|D.q 4 rfl tK tK (q_cutL se_59 rfl rfl tN tN tN) (fun _ h => h.nil)<|D.q 5 rfl tK tK (q_move rfl) (fun _ h => h.nil)<|D.q 6 rfl tK tK (q_move rfl) (fun _ h => h.nil)<|D.q 7 rfl tK tK (q_cutL se_59 rfl rfl tN tN tN) (fun _ h => h.nil)<|dq1 8 rfl (l_copyA (i := i + 1) (m := l.length - i) Kd.rw se_59 rfl rfl tP (isO_cut i) tM (by rw [List.length_drop]; omega) (by show min _ _ = _; omega) (by rw [List.length_append, List.length_append, List.length_take, List.length_replicate, List.length_singleton]; omega) tO tO) (.inr (fun _ _ _ _ h => h.nil)) ?_
   rintro _ _ ⟨rfl, rfl⟩
   refine D.done tK ?_
   rw [ins_grow2 hi]
   refine ky<|km rfl<|ka rfl<|zm ?_
   refine kr1 func222 results222 rfl (fun w hs => ?_)
   first
    | exact ⟨_, [RowO Kd.rw 136 px capx (l ++ [x])], rfl, ⟨px, capx, by rw [hil']; simp, by rw [hins], by rw [hins]; exact rC (e := 136) (k := Kd.rw) (p := px) (cap := capx) (xs := l ++ [x]) tM w hs⟩, hs.fitD⟩
    | exact ⟨_, [RowO Kd.rw 136 (some ⟨bn, 0, none⟩) capn (l.take i ++ [x] ++ l.drop i)], rfl, ⟨_, _, by rw [hil']; exact congrArg (fun n => Value.slice _ n _) tO, rfl, rC (e := 136) (k := Kd.rw) (xs := l.take i ++ [x] ++ l.drop i) tM w hs⟩, hs.fitD⟩
    | exact ⟨_, [RowO Kd.rw 136 q cap (l.take i ++ [x] ++ l.drop i)], rfl, ⟨q, cap, by rw [hil']; exact congrArg (fun n => Value.slice _ n _) tO, rfl, rC (e := 136) (k := Kd.rw) (xs := l.take i ++ [x] ++ l.drop i) tM w hs⟩, hs.fitD⟩
  ·have hil : i < l.length := by omega
   refine za<|ky<|km rfl<|km rfl<|km rfl<|kq (q_add rfl rfl tN tN)<|kq (q_cutH se_59 rfl rfl tN tN)<|ka rfl<|zm<|ke<|ky<|km rfl<|km rfl<|km rfl<|km rfl<|kq (q_add rfl rfl tN tN)<|kq (q_cutL se_59 rfl rfl tN tN tN)<|kq (q_apartC (j := i + 1) (k := Kd.rw) (xs := l) func231 (by decide +kernel) rfl (by decide +kernel) (by rfl) se_59 rfl rfl tP tM (by intro hz; rw [hz] at hil; exact absurd hil (Nat.not_lt_zero _)) tO tD)<|kq (q_not rfl)<|zm ?_
   refine kT (s := 68) rfl (fun g68 => ?_) (fun g68 => ?_)
   ·refine ke<|K.draw [] mixed<|D.q 0 rfl tK tK (q_move rfl) (fun _ h => h.nil)<|D.q 1 rfl tK tK (q_move rfl) (fun _ h => h.nil)<|D.q 2 rfl tK tK (q_move rfl) (fun _ h => h.nil)<|D.q 3 rfl tK tK (q_add rfl rfl tN tN) (fun _ h => h.nil)<|D.q 4 rfl tK tK (q_cutL se_59 rfl rfl tN tN tN) (fun _ h => h.nil)<|D.q 5 rfl tK tK (q_move rfl) (fun _ h => h.nil)<|D.q 6 rfl tK tK (q_move rfl) (fun _ h => h.nil)<|D.q 7 rfl tK tK (q_cutL se_59 rfl rfl tN tN tN) (fun _ h => h.nil)<|dq1 8 rfl (l_copyS (i := i + 1) (s0 := i) (m := l.length - i) Kd.rw se_59 rfl rfl tP (by show min _ _ = _; omega) tO tO tO tO) (.inr (fun _ _ _ _ h => h.nil)) ?_
    rintro _ _ ⟨rfl, rfl⟩
    refine D.done tK ?_
    rw [ins_room1 hil]
    refine ky<|km rfl<|km rfl<|kq (q_cutL se_59 rfl rfl tN tN tN)<|km rfl<|kl (l_copyA (i := i) (m := 1) Kd.rw se_59 rfl rfl tP isP tM rfl (Nat.min_eq_left tO) (by rw [List.length_append, List.length_take, List.length_drop]; omega) tO tO) ?_
    rintro _ _ ⟨rfl, rfl⟩
    refine zm ?_
    rw [ins_room2 hil]
    refine ky<|km rfl<|ka rfl<|zm ?_
    refine kr1 func222 results222 rfl (fun w hs => ?_)
    first
     | exact ⟨_, [RowO Kd.rw 136 px capx (l ++ [x])], rfl, ⟨px, capx, by rw [hil']; simp, by rw [hins], by rw [hins]; exact rC (e := 136) (k := Kd.rw) (p := px) (cap := capx) (xs := l ++ [x]) tM w hs⟩, hs.fitD⟩
     | exact ⟨_, [RowO Kd.rw 136 (some ⟨bn, 0, none⟩) capn (l.take i ++ [x] ++ l.drop i)], rfl, ⟨_, _, by rw [hil']; exact congrArg (fun n => Value.slice _ n _) tO, rfl, rC (e := 136) (k := Kd.rw) (xs := l.take i ++ [x] ++ l.drop i) tM w hs⟩, hs.fitD⟩
     | exact ⟨_, [RowO Kd.rw 136 q cap (l.take i ++ [x] ++ l.drop i)], rfl, ⟨q, cap, by rw [hil']; exact congrArg (fun n => Value.slice _ n _) tO, rfl, rC (e := 136) (k := Kd.rw) (xs := l.take i ++ [x] ++ l.drop i) tM w hs⟩, hs.fitD⟩
   ·exact absurd g68 tD
theorem cM (A : HP) (q : Option Addr) (cap : Nat) (xs : List Msg) (hA : IsRow A Kd.msg q xs) (hb : xs.length ≤ 1000000000) : Fn Tryz.prog 94 [.slice q xs.length cap].toArray [A]
  (fun r post => ∃ q' cap', r = .slice q' xs.length cap' ∧ post = [RowO Kd.msg 56 q' cap' xs, A] ∧ xs.length ≤ cap') := by
 refine Fn.enter (N := 8) func94 rfl ntmps94 tK rfl (fun ρ L => ?_)
 refine ky<|ka rfl<|zm<|ke<|ky<|km rfl<|kq (q_slnil underlying60 rfl rfl)<|zm ?_
 refine K.ite rfl (fun h => ?_) (fun h => ?_)
 ·rcases q with _ | a
  rotate_left
  ·cases h
  refine K.fact (row_none hA (List.Mem.head _)) (fun e => ?_)
  subst e
  refine ky<|ka rfl<|zm ?_
  refine kr1 func94 results94 rfl (fun w hs => ?_)
  exact ⟨_, [RowO Kd.msg 56 none 0 [], A], rfl, ⟨none, 0, rfl, rfl, Nat.le_refl _⟩, (rowO_nil (k := Kd.msg) 56 hs).fitD⟩
 ·refine za<|ky<|kl (l_slice0 Kd.msg se_60) ?_
  rintro _ _ ⟨q0, rfl, rfl⟩
  refine km rfl<|kl (lX Kd.msg (xs := []) (ys := xs) se_60 underlying60 ⟨_, ze_msg, rfl⟩ tD rfl rfl tP hA tM rfl rfl (by show (2 * (0 + xs.length) + 768) * _ ≤ _; omega)) ?_
  rintro _ _ ⟨q', cap', rfl, rfl⟩
  refine ka rfl<|zm ?_
  refine kr1 func94 results94 rfl (fun w hs => ?_)
  exact ⟨_, [RowO Kd.msg 56 q' cap' xs, A], rfl, ⟨q', cap', rfl, rfl, rC (List.Mem.head _) w hs⟩, hs.fitD⟩
set_option maxHeartbeats 1600000 in
theorem ins_msg (q : Option Addr) (cap : Nat) (l : List Msg) (i : Nat) (bv ev : Nat) (x : Msg) (hi : i ≤ l.length) (hc : l.length ≤ cap) (hb : l.length ≤ 1000000000) : Fn Tryz.prog 228 [.slice q l.length cap, .int .i64 i, .slice (some ⟨bv, 0, none⟩) 1 1].toArray [RowO Kd.msg 56 q cap l, pv bv ev x.cells]
  (fun r post => ∃ q' cap', r = .slice q' (insAt l i x).length cap' ∧ post = [RowO Kd.msg 56 q' cap' (insAt l i x)] ∧ (insAt l i x).length ≤ cap') := by
 have hil' : (insAt l i x).length = l.length + 1 := by
  unfold insAt
  rw [List.length_append, List.length_append, List.length_take, List.length_drop, List.length_singleton]; omega
 refine Fn.enter (N := 95) func228 rfl ntmps228 tK rfl (fun ρ L => ?_)
 refine ky<|ka rfl<|kz<|km rfl<|km rfl<|kq (q_cutL se_60 rfl rfl tN tN tN)<|kz<|km rfl<|kq (qG underlying60 rfl)<|ka rfl<|zm<|ke<|ky<|km rfl<|kq (q_eqF rfl rfl tD)<|zm<|K.no rfl<|za<|ky<|km rfl<|kq (qG underlying60 rfl)<|ka rfl<|zm<|ke<|ky<|km rfl<|km rfl<|kq (q_eq rfl rfl)<|zm ?_
 refine kD (s := 22) rfl (fun g22 => ?_) (fun g22 => ?_)
 ·have hil : i = l.length := by omega
  have hins : insAt l i x = l ++ [x] := by unfold insAt; subst hil; simp
  refine ky<|km rfl<|km rfl<|kl (lX Kd.msg se_60 underlying60 ⟨_, ze_msg, rfl⟩ tD rfl rfl tP isP tM rfl rfl (by show (2 * (l.length + 1) + 768) * _ ≤ _; omega)) ?_
  rintro _ _ ⟨px, capx, rfl, rfl⟩
  refine ka rfl<|zm ?_
  refine kr1 func228 results228 rfl (fun w hs => ?_)
  first
   | exact ⟨_, [RowO Kd.msg 56 px capx (l ++ [x])], rfl, ⟨px, capx, by rw [hil']; simp, by rw [hins], by rw [hins]; exact rC (e := 56) (k := Kd.msg) (p := px) (cap := capx) (xs := l ++ [x]) tM w hs⟩, hs.fitD⟩
   | exact ⟨_, [RowO Kd.msg 56 (some ⟨bn, 0, none⟩) capn (l.take i ++ [x] ++ l.drop i)], rfl, ⟨_, _, by rw [hil']; exact congrArg (fun n => Value.slice _ n _) tO, rfl, rC (e := 56) (k := Kd.msg) (xs := l.take i ++ [x] ++ l.drop i) tM w hs⟩, hs.fitD⟩
   | exact ⟨_, [RowO Kd.msg 56 q cap (l.take i ++ [x] ++ l.drop i)], rfl, ⟨q, cap, by rw [hil']; exact congrArg (fun n => Value.slice _ n _) tO, rfl, rC (e := 56) (k := Kd.msg) (xs := l.take i ++ [x] ++ l.drop i) tM w hs⟩, hs.fitD⟩
 ·refine za<|ke<|ky<|km rfl<|km rfl<|kq (q_add rfl rfl tN tN)<|km rfl<|kq (q_cap underlying60 rfl)<|kq (q_gt rfl rfl)<|zm ?_
  refine kD (s := 31) rfl (fun g31 => ?_) (fun g31 => ?_)
  ·have hil : i < l.length := by omega
   refine ky<|km rfl<|km rfl<|kq (q_cutH se_60 rfl rfl tN tN)<|km rfl<|km rfl<|kq (q_add rfl rfl tN tN)<|km rfl<|kq (q_sub rfl rfl tN tN)<|kl (l_growPre (i := i) (n := l.length + 1 - i) Kd.msg ⟨0,0,0,false,⟨#[]⟩,⟨#[]⟩⟩ se_60 underlying3 ze_msg rfl (fun _ => rfl) rfl (congrArg (fun z => some (Value.int .i64 z)) (show (l.length : Int) + ((1 : Nat) : Int) - i = ((l.length + 1 - i : Nat) : Int) by omega)) tP hi tO tO tD tD tO) ?_
   rintro _ _ ⟨bn, capn, rfl, rfl⟩
   refine KO.fact (fun w h => rC List.mem_cons_self w h) (fun hcn => ?_)
   rw [List.length_append, List.length_take, List.length_replicate] at hcn
   refine ka rfl<|kz<|km rfl<|km rfl<|kq (q_cutL se_60 rfl rfl tN tN tN)<|km rfl<|kl (l_copyA (i := i) (m := 1) Kd.msg se_60 rfl rfl tP isP tM rfl (Nat.min_eq_left tO) (by rw [List.length_append, List.length_take, List.length_replicate]; omega) tO tO) ?_
   rintro _ _ ⟨rfl, rfl⟩
   refine zm ?_
   rw [ins_grow1 hi]
   refine ke<|K.draw [] mixed<|D.q 0 rfl tK tK (q_move rfl) (fun _ h => h.nil)<|D.q 1 rfl tK tK (q_move rfl) (fun _ h => h.nil)<|D.q 2 rfl tK tK (q_move rfl) (fun _ h => h.nil)<|D.q 3 rfl tK tK (q_add rfl rfl tN tN) (fun _ h => h.nil)<|D.q 4 rfl tK tK (q_cutL se_60 rfl rfl tN tN tN) (fun _ h => h.nil)<|D.q 5 rfl tK tK (q_move rfl) (fun _ h => h.nil)<|D.q 6 rfl tK tK (q_move rfl) (fun _ h => h.nil)<|D.q 7 rfl tK tK (q_cutL se_60 rfl rfl tN tN tN) (fun _ h => h.nil)<|dq1 8 rfl (l_copyA (i := i + 1) (m := l.length - i) Kd.msg se_60 rfl rfl tP (isO_cut i) tM (by rw [List.length_drop]; omega) (by show min _ _ = _; omega) (by rw [List.length_append, List.length_append, List.length_take, List.length_replicate, List.length_singleton]; omega) tO tO) (.inr (fun _ _ _ _ h => h.nil)) ?_
   rintro _ _ ⟨rfl, rfl⟩
   refine D.done tK ?_
   rw [ins_grow2 hi]
   refine ky<|km rfl<|ka rfl<|zm ?_
   refine kr1 func228 results228 rfl (fun w hs => ?_)
   first
    | exact ⟨_, [RowO Kd.msg 56 px capx (l ++ [x])], rfl, ⟨px, capx, by rw [hil']; simp, by rw [hins], by rw [hins]; exact rC (e := 56) (k := Kd.msg) (p := px) (cap := capx) (xs := l ++ [x]) tM w hs⟩, hs.fitD⟩
    | exact ⟨_, [RowO Kd.msg 56 (some ⟨bn, 0, none⟩) capn (l.take i ++ [x] ++ l.drop i)], rfl, ⟨_, _, by rw [hil']; exact congrArg (fun n => Value.slice _ n _) tO, rfl, rC (e := 56) (k := Kd.msg) (xs := l.take i ++ [x] ++ l.drop i) tM w hs⟩, hs.fitD⟩
    | exact ⟨_, [RowO Kd.msg 56 q cap (l.take i ++ [x] ++ l.drop i)], rfl, ⟨q, cap, by rw [hil']; exact congrArg (fun n => Value.slice _ n _) tO, rfl, rC (e := 56) (k := Kd.msg) (xs := l.take i ++ [x] ++ l.drop i) tM w hs⟩, hs.fitD⟩
  ·have hil : i < l.length := by omega
   refine za<|ky<|km rfl<|km rfl<|km rfl<|kq (q_add rfl rfl tN tN)<|kq (q_cutH se_60 rfl rfl tN tN)<|ka rfl<|zm<|ke<|ky<|km rfl<|km rfl<|km rfl<|km rfl<|kq (q_add rfl rfl tN tN)<|kq (q_cutL se_60 rfl rfl tN tN tN)<|kq (q_apartC (j := i + 1) (k := Kd.msg) (xs := l) func233 (by decide +kernel) rfl (by decide +kernel) (by rfl) se_60 rfl rfl tP tM (by intro hz; rw [hz] at hil; exact absurd hil (Nat.not_lt_zero _)) tO tD)<|kq (q_not rfl)<|zm ?_
   refine kT (s := 68) rfl (fun g68 => ?_) (fun g68 => ?_)
   ·refine ke<|K.draw [] mixed<|D.q 0 rfl tK tK (q_move rfl) (fun _ h => h.nil)<|D.q 1 rfl tK tK (q_move rfl) (fun _ h => h.nil)<|D.q 2 rfl tK tK (q_move rfl) (fun _ h => h.nil)<|D.q 3 rfl tK tK (q_add rfl rfl tN tN) (fun _ h => h.nil)<|D.q 4 rfl tK tK (q_cutL se_60 rfl rfl tN tN tN) (fun _ h => h.nil)<|D.q 5 rfl tK tK (q_move rfl) (fun _ h => h.nil)<|D.q 6 rfl tK tK (q_move rfl) (fun _ h => h.nil)<|D.q 7 rfl tK tK (q_cutL se_60 rfl rfl tN tN tN) (fun _ h => h.nil)<|dq1 8 rfl (l_copyS (i := i + 1) (s0 := i) (m := l.length - i) Kd.msg se_60 rfl rfl tP (by show min _ _ = _; omega) tO tO tO tO) (.inr (fun _ _ _ _ h => h.nil)) ?_
    rintro _ _ ⟨rfl, rfl⟩
    refine D.done tK ?_
    rw [ins_room1 hil]
    refine ky<|km rfl<|km rfl<|kq (q_cutL se_60 rfl rfl tN tN tN)<|km rfl<|kl (l_copyA (i := i) (m := 1) Kd.msg se_60 rfl rfl tP isP tM rfl (Nat.min_eq_left tO) (by rw [List.length_append, List.length_take, List.length_drop]; omega) tO tO) ?_
    rintro _ _ ⟨rfl, rfl⟩
    refine zm ?_
    rw [ins_room2 hil]
    refine ky<|km rfl<|ka rfl<|zm ?_
    refine kr1 func228 results228 rfl (fun w hs => ?_)
    first
     | exact ⟨_, [RowO Kd.msg 56 px capx (l ++ [x])], rfl, ⟨px, capx, by rw [hil']; simp, by rw [hins], by rw [hins]; exact rC (e := 56) (k := Kd.msg) (p := px) (cap := capx) (xs := l ++ [x]) tM w hs⟩, hs.fitD⟩
     | exact ⟨_, [RowO Kd.msg 56 (some ⟨bn, 0, none⟩) capn (l.take i ++ [x] ++ l.drop i)], rfl, ⟨_, _, by rw [hil']; exact congrArg (fun n => Value.slice _ n _) tO, rfl, rC (e := 56) (k := Kd.msg) (xs := l.take i ++ [x] ++ l.drop i) tM w hs⟩, hs.fitD⟩
     | exact ⟨_, [RowO Kd.msg 56 q cap (l.take i ++ [x] ++ l.drop i)], rfl, ⟨q, cap, by rw [hil']; exact congrArg (fun n => Value.slice _ n _) tO, rfl, rC (e := 56) (k := Kd.msg) (xs := l.take i ++ [x] ++ l.drop i) tM w hs⟩, hs.fitD⟩
   ·exact absurd g68 tD
theorem clone_oz (A : HP) (q : Option Addr) (cap : Nat) (xs : List Oz) (hA : IsRow A Kd.oz q xs) (hb : xs.length ≤ 1000000000) : Fn Tryz.prog 92 [.slice q xs.length cap].toArray [A]
  (fun r post => ∃ q' cap', r = .slice q' xs.length cap' ∧ post = [RowO Kd.oz 62 q' cap' xs, A] ∧ xs.length ≤ cap') := by
 refine Fn.enter (N := 8) func92 rfl ntmps92 tK rfl (fun ρ L => ?_)
 refine ky<|ka rfl<|zm<|ke<|ky<|km rfl<|kq (q_slnil underlying45 rfl rfl)<|zm ?_
 refine K.ite rfl (fun h => ?_) (fun h => ?_)
 ·rcases q with _ | a
  rotate_left
  ·cases h
  refine K.fact (row_none hA (List.Mem.head _)) (fun e => ?_)
  subst e
  refine ky<|ka rfl<|zm ?_
  refine kr1 func92 results92 rfl (fun w hs => ?_)
  exact ⟨_, [RowO Kd.oz 62 none 0 [], A], rfl, ⟨none, 0, rfl, rfl, Nat.le_refl _⟩, (rowO_nil (k := Kd.oz) 62 hs).fitD⟩
 ·refine za<|ky<|kl (l_slice0 Kd.oz se_45) ?_
  rintro _ _ ⟨q0, rfl, rfl⟩
  refine km rfl<|kl (lX Kd.oz (xs := []) (ys := xs) se_45 underlying45 ⟨_, ze_oz, rfl⟩ tD rfl rfl tP hA tM rfl rfl (by show (2 * (0 + xs.length) + 768) * _ ≤ _; omega)) ?_
  rintro _ _ ⟨q', cap', rfl, rfl⟩
  refine ka rfl<|zm ?_
  refine kr1 func92 results92 rfl (fun w hs => ?_)
  exact ⟨_, [RowO Kd.oz 62 q' cap' xs, A], rfl, ⟨q', cap', rfl, rfl, rC (List.Mem.head _) w hs⟩, hs.fitD⟩
set_option maxHeartbeats 1600000 in
theorem ins_oz (q : Option Addr) (cap : Nat) (l : List Oz) (i : Nat) (bv ev : Nat) (x : Oz) (hi : i ≤ l.length) (hc : l.length ≤ cap) (hb : l.length ≤ 1000000000) : Fn Tryz.prog 187 [.slice q l.length cap, .int .i64 i, .slice (some ⟨bv, 0, none⟩) 1 1].toArray [RowO Kd.oz 62 q cap l, pv bv ev x.cells]
  (fun r post => ∃ q' cap', r = .slice q' (insAt l i x).length cap' ∧ post = [RowO Kd.oz 62 q' cap' (insAt l i x)] ∧ (insAt l i x).length ≤ cap') := by
 have hil' : (insAt l i x).length = l.length + 1 := by
  unfold insAt
  rw [List.length_append, List.length_append, List.length_take, List.length_drop, List.length_singleton]; omega
 refine Fn.enter (N := 95) func187 rfl ntmps187 tK rfl (fun ρ L => ?_)
 refine ky<|ka rfl<|kz<|km rfl<|km rfl<|kq (q_cutL se_45 rfl rfl tN tN tN)<|kz<|km rfl<|kq (qG underlying45 rfl)<|ka rfl<|zm<|ke<|ky<|km rfl<|kq (q_eqF rfl rfl tD)<|zm<|K.no rfl<|za<|ky<|km rfl<|kq (qG underlying45 rfl)<|ka rfl<|zm<|ke<|ky<|km rfl<|km rfl<|kq (q_eq rfl rfl)<|zm ?_
 refine kD (s := 22) rfl (fun g22 => ?_) (fun g22 => ?_)
 ·have hil : i = l.length := by omega
  have hins : insAt l i x = l ++ [x] := by unfold insAt; subst hil; simp
  refine ky<|km rfl<|km rfl<|kl (lX Kd.oz se_45 underlying45 ⟨_, ze_oz, rfl⟩ tD rfl rfl tP isP tM rfl rfl (by show (2 * (l.length + 1) + 768) * _ ≤ _; omega)) ?_
  rintro _ _ ⟨px, capx, rfl, rfl⟩
  refine ka rfl<|zm ?_
  refine kr1 func187 results187 rfl (fun w hs => ?_)
  first
   | exact ⟨_, [RowO Kd.oz 62 px capx (l ++ [x])], rfl, ⟨px, capx, by rw [hil']; simp, by rw [hins], by rw [hins]; exact rC (e := 62) (k := Kd.oz) (p := px) (cap := capx) (xs := l ++ [x]) tM w hs⟩, hs.fitD⟩
   | exact ⟨_, [RowO Kd.oz 62 (some ⟨bn, 0, none⟩) capn (l.take i ++ [x] ++ l.drop i)], rfl, ⟨_, _, by rw [hil']; exact congrArg (fun n => Value.slice _ n _) tO, rfl, rC (e := 62) (k := Kd.oz) (xs := l.take i ++ [x] ++ l.drop i) tM w hs⟩, hs.fitD⟩
   | exact ⟨_, [RowO Kd.oz 62 q cap (l.take i ++ [x] ++ l.drop i)], rfl, ⟨q, cap, by rw [hil']; exact congrArg (fun n => Value.slice _ n _) tO, rfl, rC (e := 62) (k := Kd.oz) (xs := l.take i ++ [x] ++ l.drop i) tM w hs⟩, hs.fitD⟩
 ·refine za<|ke<|ky<|km rfl<|km rfl<|kq (q_add rfl rfl tN tN)<|km rfl<|kq (q_cap underlying45 rfl)<|kq (q_gt rfl rfl)<|zm ?_
  refine kD (s := 31) rfl (fun g31 => ?_) (fun g31 => ?_)
  ·have hil : i < l.length := by omega
   refine ky<|km rfl<|km rfl<|kq (q_cutH se_45 rfl rfl tN tN)<|km rfl<|km rfl<|kq (q_add rfl rfl tN tN)<|km rfl<|kq (q_sub rfl rfl tN tN)<|kl (l_growPre (i := i) (n := l.length + 1 - i) Kd.oz ⟨Ob.zero,⟨none,0,none,0,none,0⟩⟩ se_45 underlying3 ze_oz rfl (fun _ => rfl) rfl (congrArg (fun z => some (Value.int .i64 z)) (show (l.length : Int) + ((1 : Nat) : Int) - i = ((l.length + 1 - i : Nat) : Int) by omega)) tP hi tO tO tD tD tO) ?_
   rintro _ _ ⟨bn, capn, rfl, rfl⟩
   refine KO.fact (fun w h => rC List.mem_cons_self w h) (fun hcn => ?_)
   rw [List.length_append, List.length_take, List.length_replicate] at hcn
   refine ka rfl<|kz<|km rfl<|km rfl<|kq (q_cutL se_45 rfl rfl tN tN tN)<|km rfl<|kl (l_copyA (i := i) (m := 1) Kd.oz se_45 rfl rfl tP isP tM rfl (Nat.min_eq_left tO) (by rw [List.length_append, List.length_take, List.length_replicate]; omega) tO tO) ?_
   rintro _ _ ⟨rfl, rfl⟩
   refine zm ?_
   rw [ins_grow1 hi]
   refine ke<|K.draw [] mixed<|D.q 0 rfl tK tK (q_move rfl) (fun _ h => h.nil)<|D.q 1 rfl tK tK (q_move rfl) (fun _ h => h.nil)<|D.q 2 rfl tK tK (q_move rfl) (fun _ h => h.nil)<|D.q 3 rfl tK tK (q_add rfl rfl tN tN) (fun _ h => h.nil)<|D.q 4 rfl tK tK (q_cutL se_45 rfl rfl tN tN tN) (fun _ h => h.nil)<|D.q 5 rfl tK tK (q_move rfl) (fun _ h => h.nil)<|D.q 6 rfl tK tK (q_move rfl) (fun _ h => h.nil)<|D.q 7 rfl tK tK (q_cutL se_45 rfl rfl tN tN tN) (fun _ h => h.nil)<|dq1 8 rfl (l_copyA (i := i + 1) (m := l.length - i) Kd.oz se_45 rfl rfl tP (isO_cut i) tM (by rw [List.length_drop]; omega) (by show min _ _ = _; omega) (by rw [List.length_append, List.length_append, List.length_take, List.length_replicate, List.length_singleton]; omega) tO tO) (.inr (fun _ _ _ _ h => h.nil)) ?_
   rintro _ _ ⟨rfl, rfl⟩
   refine D.done tK ?_
   rw [ins_grow2 hi]
   refine ky<|km rfl<|ka rfl<|zm ?_
   refine kr1 func187 results187 rfl (fun w hs => ?_)
   first
    | exact ⟨_, [RowO Kd.oz 62 px capx (l ++ [x])], rfl, ⟨px, capx, by rw [hil']; simp, by rw [hins], by rw [hins]; exact rC (e := 62) (k := Kd.oz) (p := px) (cap := capx) (xs := l ++ [x]) tM w hs⟩, hs.fitD⟩
    | exact ⟨_, [RowO Kd.oz 62 (some ⟨bn, 0, none⟩) capn (l.take i ++ [x] ++ l.drop i)], rfl, ⟨_, _, by rw [hil']; exact congrArg (fun n => Value.slice _ n _) tO, rfl, rC (e := 62) (k := Kd.oz) (xs := l.take i ++ [x] ++ l.drop i) tM w hs⟩, hs.fitD⟩
    | exact ⟨_, [RowO Kd.oz 62 q cap (l.take i ++ [x] ++ l.drop i)], rfl, ⟨q, cap, by rw [hil']; exact congrArg (fun n => Value.slice _ n _) tO, rfl, rC (e := 62) (k := Kd.oz) (xs := l.take i ++ [x] ++ l.drop i) tM w hs⟩, hs.fitD⟩
  ·have hil : i < l.length := by omega
   refine za<|ky<|km rfl<|km rfl<|km rfl<|kq (q_add rfl rfl tN tN)<|kq (q_cutH se_45 rfl rfl tN tN)<|ka rfl<|zm<|ke<|ky<|km rfl<|km rfl<|km rfl<|km rfl<|kq (q_add rfl rfl tN tN)<|kq (q_cutL se_45 rfl rfl tN tN tN)<|kq (q_apartC (j := i + 1) (k := Kd.oz) (xs := l) func208 (by decide +kernel) rfl (by decide +kernel) (by rfl) se_45 rfl rfl tP tM (by intro hz; rw [hz] at hil; exact absurd hil (Nat.not_lt_zero _)) tO tD)<|kq (q_not rfl)<|zm ?_
   refine kT (s := 68) rfl (fun g68 => ?_) (fun g68 => ?_)
   ·refine ke<|K.draw [] mixed<|D.q 0 rfl tK tK (q_move rfl) (fun _ h => h.nil)<|D.q 1 rfl tK tK (q_move rfl) (fun _ h => h.nil)<|D.q 2 rfl tK tK (q_move rfl) (fun _ h => h.nil)<|D.q 3 rfl tK tK (q_add rfl rfl tN tN) (fun _ h => h.nil)<|D.q 4 rfl tK tK (q_cutL se_45 rfl rfl tN tN tN) (fun _ h => h.nil)<|D.q 5 rfl tK tK (q_move rfl) (fun _ h => h.nil)<|D.q 6 rfl tK tK (q_move rfl) (fun _ h => h.nil)<|D.q 7 rfl tK tK (q_cutL se_45 rfl rfl tN tN tN) (fun _ h => h.nil)<|dq1 8 rfl (l_copyS (i := i + 1) (s0 := i) (m := l.length - i) Kd.oz se_45 rfl rfl tP (by show min _ _ = _; omega) tO tO tO tO) (.inr (fun _ _ _ _ h => h.nil)) ?_
    rintro _ _ ⟨rfl, rfl⟩
    refine D.done tK ?_
    rw [ins_room1 hil]
    refine ky<|km rfl<|km rfl<|kq (q_cutL se_45 rfl rfl tN tN tN)<|km rfl<|kl (l_copyA (i := i) (m := 1) Kd.oz se_45 rfl rfl tP isP tM rfl (Nat.min_eq_left tO) (by rw [List.length_append, List.length_take, List.length_drop]; omega) tO tO) ?_
    rintro _ _ ⟨rfl, rfl⟩
    refine zm ?_
    rw [ins_room2 hil]
    refine ky<|km rfl<|ka rfl<|zm ?_
    refine kr1 func187 results187 rfl (fun w hs => ?_)
    first
     | exact ⟨_, [RowO Kd.oz 62 px capx (l ++ [x])], rfl, ⟨px, capx, by rw [hil']; simp, by rw [hins], by rw [hins]; exact rC (e := 62) (k := Kd.oz) (p := px) (cap := capx) (xs := l ++ [x]) tM w hs⟩, hs.fitD⟩
     | exact ⟨_, [RowO Kd.oz 62 (some ⟨bn, 0, none⟩) capn (l.take i ++ [x] ++ l.drop i)], rfl, ⟨_, _, by rw [hil']; exact congrArg (fun n => Value.slice _ n _) tO, rfl, rC (e := 62) (k := Kd.oz) (xs := l.take i ++ [x] ++ l.drop i) tM w hs⟩, hs.fitD⟩
     | exact ⟨_, [RowO Kd.oz 62 q cap (l.take i ++ [x] ++ l.drop i)], rfl, ⟨q, cap, by rw [hil']; exact congrArg (fun n => Value.slice _ n _) tO, rfl, rC (e := 62) (k := Kd.oz) (xs := l.take i ++ [x] ++ l.drop i) tM w hs⟩, hs.fitD⟩
   ·exact absurd g68 tD
set_option maxHeartbeats 800000 in
theorem del_rw (q : Option Addr) (cap : Nat) (l : List Rw) (i : Nat) (hi : i < l.length) (hc : l.length ≤ cap) (hb : l.length ≤ 1000000000000) : Fn Tryz.prog 223 [.slice q l.length cap, .int .i64 i, .int .i64 ((i : Int) + 1)].toArray [RowO Kd.rw 136 q cap l]
  (fun r post => r = .slice q (l.eraseIdx i).length cap ∧ post = [RowO Kd.rw 136 q cap (l.eraseIdx i)]) := by
 have her : l.eraseIdx i = l.take i ++ l.drop (i + 1) := List.eraseIdx_eq_take_drop_succ l i
 have hel : (l.take i ++ l.drop (i + 1)).length = l.length - 1 := by rw [List.length_append, List.length_take, List.length_drop]; omega
 refine Fn.enter (N := 33) func223 rfl ntmps223 tK rfl (fun ρ L => ?_)
 refine ky<|ka rfl<|kz<|km rfl<|km rfl<|km rfl<|km rfl<|kq (qG underlying59 rfl)<|kq (q_cut3 se_59 rfl rfl rfl rfl tO tO tO tO)<|zm<|ke<|ky<|km rfl<|km rfl<|kq (q_eq rfl rfl)<|zm ?_
 refine kD (s := 16) rfl (fun g16 => ?_) (fun g16 => ?_)
 ·exact absurd g16 tO
 ·refine za<|ky<|km rfl<|kq (qG underlying59 rfl)<|ka rfl<|zm<|ke<|K.draw [] mixed<|D.q 0 rfl tK tK (q_move rfl) (fun _ h => h.nil)<|D.q 1 rfl tK tK (q_move rfl) (fun _ h => h.nil)<|D.q 2 rfl tK tK (q_cutH se_59 rfl rfl tN tN) (fun _ h => h.nil)<|D.q 3 rfl tK tK (q_move rfl) (fun _ h => h.nil)<|D.q 4 rfl tK tK (q_move rfl) (fun _ h => h.nil)<|D.q 5 rfl tK tK (q_cutL se_59 rfl rfl tN tN tN) (fun _ h => h.nil)<|dq1 6 rfl (l_appendIn (i := i) (s0 := i + 1) (m := l.length - (i + 1)) Kd.rw se_59 underlying59 rfl rfl tP tO tO tO tO) (.inr (fun _ _ _ _ h => h.nil)) ?_
  rintro _ _ ⟨rfl, rfl⟩
  refine D.q 7 rfl tK tK (q_assign rfl) (fun _ h => h.nil)<|D.done tK ?_
  rw [show i + (l.length - (i + 1)) = l.length - 1 by omega, List.take_of_length_le (l := l.drop (i + 1)) (by rw [List.length_drop]; omega)]
  refine ky<|km rfl<|km rfl<|kq (qG underlying59 rfl)<|km rfl<|kq (q_cutB se_59 rfl rfl rfl tN tN tN)<|kN rfl (l_clearS (i := l.length - 1) Kd.rw se_59 ze_rw rfl (by simp [Value.oneCell', Rw.cells]) tD rfl tP (by rw [List.length_append, List.length_take, List.length_drop]; omega) tO (by simp only [Int.toNat_natCast]; omega)) ?_
  rintro _ _ ⟨rfl, rfl⟩
  refine kz<|km rfl<|ka rfl<|zm ?_
  refine kr1 func223 results223 rfl (fun w hs => ?_)
  rw [her, hel]
  exact ⟨_, [RowO Kd.rw 136 q cap (l.take i ++ l.drop (i + 1))], rfl, ⟨rfl, rfl⟩, hs.fitD⟩
set_option maxHeartbeats 800000 in
theorem del_msg (q : Option Addr) (cap : Nat) (l : List Msg) (i : Nat) (hi : i < l.length) (hc : l.length ≤ cap) (hb : l.length ≤ 1000000000000) : Fn Tryz.prog 214 [.slice q l.length cap, .int .i64 i, .int .i64 ((i : Int) + 1)].toArray [RowO Kd.msg 56 q cap l]
  (fun r post => r = .slice q (l.eraseIdx i).length cap ∧ post = [RowO Kd.msg 56 q cap (l.eraseIdx i)]) := by
 have her : l.eraseIdx i = l.take i ++ l.drop (i + 1) := List.eraseIdx_eq_take_drop_succ l i
 have hel : (l.take i ++ l.drop (i + 1)).length = l.length - 1 := by rw [List.length_append, List.length_take, List.length_drop]; omega
 refine Fn.enter (N := 33) func214 rfl ntmps214 tK rfl (fun ρ L => ?_)
 refine ky<|ka rfl<|kz<|km rfl<|km rfl<|km rfl<|km rfl<|kq (qG underlying60 rfl)<|kq (q_cut3 se_60 rfl rfl rfl rfl tO tO tO tO)<|zm<|ke<|ky<|km rfl<|km rfl<|kq (q_eq rfl rfl)<|zm ?_
 refine kD (s := 16) rfl (fun g16 => ?_) (fun g16 => ?_)
 ·exact absurd g16 tO
 ·refine za<|ky<|km rfl<|kq (qG underlying60 rfl)<|ka rfl<|zm<|ke<|K.draw [] mixed<|D.q 0 rfl tK tK (q_move rfl) (fun _ h => h.nil)<|D.q 1 rfl tK tK (q_move rfl) (fun _ h => h.nil)<|D.q 2 rfl tK tK (q_cutH se_60 rfl rfl tN tN) (fun _ h => h.nil)<|D.q 3 rfl tK tK (q_move rfl) (fun _ h => h.nil)<|D.q 4 rfl tK tK (q_move rfl) (fun _ h => h.nil)<|D.q 5 rfl tK tK (q_cutL se_60 rfl rfl tN tN tN) (fun _ h => h.nil)<|dq1 6 rfl (l_appendIn (i := i) (s0 := i + 1) (m := l.length - (i + 1)) Kd.msg se_60 underlying60 rfl rfl tP tO tO tO tO) (.inr (fun _ _ _ _ h => h.nil)) ?_
  rintro _ _ ⟨rfl, rfl⟩
  refine D.q 7 rfl tK tK (q_assign rfl) (fun _ h => h.nil)<|D.done tK ?_
  rw [show i + (l.length - (i + 1)) = l.length - 1 by omega, List.take_of_length_le (l := l.drop (i + 1)) (by rw [List.length_drop]; omega)]
  refine ky<|km rfl<|km rfl<|kq (qG underlying60 rfl)<|km rfl<|kq (q_cutB se_60 rfl rfl rfl tN tN tN)<|kN rfl (l_clearS (i := l.length - 1) Kd.msg se_60 ze_msg rfl (by simp [Value.oneCell', Msg.cells]) tD rfl tP (by rw [List.length_append, List.length_take, List.length_drop]; omega) tO (by simp only [Int.toNat_natCast]; omega)) ?_
  rintro _ _ ⟨rfl, rfl⟩
  refine kz<|km rfl<|ka rfl<|zm ?_
  refine kr1 func214 results214 rfl (fun w hs => ?_)
  rw [her, hel]
  exact ⟨_, [RowO Kd.msg 56 q cap (l.take i ++ l.drop (i + 1))], rfl, ⟨rfl, rfl⟩, hs.fitD⟩
theorem ixg_msg (A R N : HP) [Pers N] (q : Option Addr) (cap : Nat) (l : List Msg) (hA : IsRow A Kd.msg q l) (f : FuncId) (cs : List Value) (p : Msg → Bool) (hl : (l.length : Int) ≤ 9223372036854775807) (hf : ∀ x ∈ l, Fn Tryz.prog f (Value.agg x.cells.toArray :: cs).toArray [R, N] (fun v post => v = .bool (p x) ∧ post = [R])) :
  Fn Tryz.prog 206 [.slice q l.length cap, .func (.func f) #[] cs.toArray].toArray [A, R, N] (fun r post => r = .int .i64 (idxP p l) ∧ post = [A, R]) := by
 refine Fn.enter (N := 19) func206 rfl ntmps206 tK rfl (fun ρ L => ?_)
 refine ky<|ka rfl<|zm<|ke<|ky<|km rfl<|kq (qG underlying60 rfl)<|km rfl<|zm<|kB ?_
 refine K.rloop (ι := { i : Nat // i ≤ l.length ∧ (l.take i).any p = false }) (fun x => [(8, .int .i64 x.1), (7, .int .i64 l.length), (0, .slice q l.length cap), (1, .func (.func f) #[] cs.toArray)]) (fun x => l.length - x.1) ⟨0, Nat.zero_le _, rfl⟩ tS (fun x ih => ?_)
 obtain ⟨i, hi, hz⟩ := x
 dsimp only at hi hz ⊢
 refine ky<|kq (q_lt rfl rfl)<|zm<|ke ?_
 refine kD (s := 9) rfl (fun g9 => ?_) (fun g9 => ?_)
 ·obtain ⟨e, he⟩ : ∃ e, l[i]? = some e := ⟨_, List.getElem?_eq_getElem tO⟩
  refine za<|ke<|kB<|ky<|km rfl<|ka rfl<|kz<|km rfl<|km rfl<|km rfl<|kq (q_ix i se_60 rfl rfl rfl hA tM rfl tO)<|kq (q_ldEN ck_56 rfl hA tM he) ?_
  refine kl (OpL.callCG (first := []) (captured := cs) rfl rfl tG (hf e (List.mem_of_getElem? he))) ?_
  rintro _ _ ⟨_, ⟨rfl, rfl⟩, rfl⟩
  refine zm ?_
  refine kT (s := 16) rfl (fun g16 => ?_) (fun g16 => ?_)
  ·refine ke ?_
   have hr : idxP p l = i := idxP_some he g16 hz
   refine kr<|km rfl<|ka rfl<|zm ?_
   refine kr1 func206 results206 rfl (fun w hs => ?_)
   rw [hr]
   exact ⟨_, [A, R], rfl, ⟨rfl, rfl⟩, hs.fitD⟩
  ·refine za<|zd<|kr<|kq (q_add rfl rfl tN tN)<|km rfl<|zm ?_
   exact K.weak tS (fun w h => h.fitD) (ih ⟨i + 1, by omega, by rw [any_take_succ he, hz, g16]; rfl⟩ (by show l.length - (i + 1) < l.length - i; omega))
 ·refine K.exit rfl<|ke ?_
  have hr : idxP p l = -1 := idxP_none (by rw [List.take_of_length_le tO] at hz; exact hz)
  refine kr<|ka rfl<|zm ?_
  refine kr1 func206 results206 rfl (fun w hs => ?_)
  rw [hr]
  exact ⟨_, [A, R], rfl, ⟨rfl, rfl⟩, hs.fitD⟩
theorem ixg_oz (A R N : HP) [Pers N] (q : Option Addr) (cap : Nat) (l : List Oz) (hA : IsRow A Kd.oz q l) (f : FuncId) (cs : List Value) (p : Oz → Bool) (hl : (l.length : Int) ≤ 9223372036854775807) (hf : ∀ x ∈ l, Fn Tryz.prog f (Value.agg x.cells.toArray :: cs).toArray [R, N] (fun v post => v = .bool (p x) ∧ post = [R])) :
  Fn Tryz.prog 185 [.slice q l.length cap, .func (.func f) #[] cs.toArray].toArray [A, R, N] (fun r post => r = .int .i64 (idxP p l) ∧ post = [A, R]) := by
 refine Fn.enter (N := 19) func185 rfl ntmps185 tK rfl (fun ρ L => ?_)
 refine ky<|ka rfl<|zm<|ke<|ky<|km rfl<|kq (qG underlying45 rfl)<|km rfl<|zm<|kB ?_
 refine K.rloop (ι := { i : Nat // i ≤ l.length ∧ (l.take i).any p = false }) (fun x => [(8, .int .i64 x.1), (7, .int .i64 l.length), (0, .slice q l.length cap), (1, .func (.func f) #[] cs.toArray)]) (fun x => l.length - x.1) ⟨0, Nat.zero_le _, rfl⟩ tS (fun x ih => ?_)
 obtain ⟨i, hi, hz⟩ := x
 dsimp only at hi hz ⊢
 refine ky<|kq (q_lt rfl rfl)<|zm<|ke ?_
 refine kD (s := 9) rfl (fun g9 => ?_) (fun g9 => ?_)
 ·obtain ⟨e, he⟩ : ∃ e, l[i]? = some e := ⟨_, List.getElem?_eq_getElem tO⟩
  refine za<|ke<|kB<|ky<|km rfl<|ka rfl<|kz<|km rfl<|km rfl<|km rfl<|kq (q_ix i se_45 rfl rfl rfl hA tM rfl tO)<|kq (q_ldEN ck_62 rfl hA tM he) ?_
  refine kl (OpL.callCG (first := []) (captured := cs) rfl rfl tG (hf e (List.mem_of_getElem? he))) ?_
  rintro _ _ ⟨_, ⟨rfl, rfl⟩, rfl⟩
  refine zm ?_
  refine kT (s := 16) rfl (fun g16 => ?_) (fun g16 => ?_)
  ·refine ke ?_
   have hr : idxP p l = i := idxP_some he g16 hz
   refine kr<|km rfl<|ka rfl<|zm ?_
   refine kr1 func185 results185 rfl (fun w hs => ?_)
   rw [hr]
   exact ⟨_, [A, R], rfl, ⟨rfl, rfl⟩, hs.fitD⟩
  ·refine za<|zd<|kr<|kq (q_add rfl rfl tN tN)<|km rfl<|zm ?_
   exact K.weak tS (fun w h => h.fitD) (ih ⟨i + 1, by omega, by rw [any_take_succ he, hz, g16]; rfl⟩ (by show l.length - (i + 1) < l.length - i; omega))
 ·refine K.exit rfl<|ke ?_
  have hr : idxP p l = -1 := idxP_none (by rw [List.take_of_length_le tO] at hz; exact hz)
  refine kr<|ka rfl<|zm ?_
  refine kr1 func185 results185 rfl (fun w hs => ?_)
  rw [hr]
  exact ⟨_, [A, R], rfl, ⟨rfl, rfl⟩, hs.fitD⟩
theorem cog_oz (A R N : HP) [Pers N] (q : Option Addr) (cap : Nat) (l : List Oz) (hA : IsRow A Kd.oz q l) (f : FuncId) (cs : List Value) (p : Oz → Bool) (hl : (l.length : Int) ≤ 9223372036854775807) (hf : ∀ x ∈ l, Fn Tryz.prog f (Value.agg x.cells.toArray :: cs).toArray [R, N] (fun v post => v = .bool (p x) ∧ post = [R])) :
  Fn Tryz.prog 224 [.slice q l.length cap, .func (.func f) #[] cs.toArray].toArray [A, R, N] (fun r post => r = .bool (l.any p) ∧ post = [A, R]) := by
 refine Fn.enter (N := 9) func224 rfl ntmps224 tK rfl (fun ρ L => ?_)
 refine ky<|ka rfl<|kz<|km rfl<|km rfl<|kl (kc rfl (h := ixg_oz A R N q cap l hA f cs p hl hf)) ?_
 rintro _ _ ⟨_, ⟨rfl, rfl⟩, rfl⟩
 refine kq (q_ge rfl rfl)<|ka rfl<|zm ?_
 refine kr1 func224 results224 rfl (fun w hs => ?_)
 exact ⟨_, [A, R], rfl, ⟨by rw [← idxP_any], rfl⟩, hs.fitD⟩
theorem idxP_nat {α : Type} {p : α → Bool} {l : List α} (h : ¬ idxP p l < 0) : ∃ (i : Nat) (x : α), l[i]? = some x ∧ idxP p l = (i : Int) ∧ p x = true := by
 unfold idxP at h ⊢
 cases hf : l.findIdx? p with
 | none => rw [hf] at h; exact absurd tD h
 | some i =>
  rw [List.findIdx?_eq_some_iff_getElem] at hf
  obtain ⟨hi, h1, _⟩ := hf
  exact ⟨i, l[i], List.getElem?_eq_getElem hi, rfl, h1⟩
theorem gd_at {α : Type} {l : List α} {i : Nat} {x d : α} (h : l[i]? = some x) : l.getD i d = x := by rw [List.getD_eq_getElem?_getD, h]; rfl
theorem qf1 (b : Nat) (id : Int) (x : Msg) : Fn Tryz.prog 215 [.agg x.cells.toArray, .pointer (some ⟨b, 0, none⟩)].toArray [pv b 3 [.int .i64 id], NestF []] (fun v post => v = .bool (decide (x.id = id)) ∧ post = [pv b 3 [.int .i64 id]]) := by
 refine Fn.enter (N := 8) func215 rfl ntmps215 tK rfl (fun ρ L => ?_)
 refine ky<|kl (l_box rfl rfl) ?_
 rintro _ _ ⟨b2, rfl, rfl⟩
 refine ka rfl<|kz<|kq (qO fo_56_0 rfl)<|kq (qD ck_3 rfl)<|kq (qD ck_3 rfl)<|kq (q_eq rfl rfl)<|ka rfl<|zm ?_
 refine kr1 func215 results215 rfl (fun w hs => ?_)
 exact ⟨_, [pv b 3 [.int .i64 id]], rfl, ⟨rfl, rfl⟩, hs.fitD⟩
theorem qu_Find (A : HP) (q : Option Addr) (cap : Nat) (l : List Msg) (id : Int) (hA : IsRow A Kd.msg q l) (hl : l.length ≤ 1000000000) : Fn Tryz.prog 194 [.slice q l.length cap, .int .i64 id].toArray [A] (fun r post => r = .int .i64 (findM l id) ∧ post = [A]) := by
 refine Fn.enter (N := 8) func194 rfl ntmps194 tK rfl (fun ρ L => ?_)
 refine ky<|kl (l_box rfl rfl) ?_
 rintro _ _ ⟨b3, rfl, rfl⟩
 refine ka rfl<|kz<|km rfl<|kq (q_func rfl rfl)<|KO.st (fun w h => nestF_nil h)<|kl (kc rfl (h := ixg_msg A (pv b3 3 [.int .i64 id]) (NestF []) q cap l hA 215 [.pointer (some ⟨b3, 0, none⟩)] (fun x => decide (x.id = id)) tO (fun x _ => qf1 b3 id x))) ?_
 rintro _ _ ⟨_, ⟨rfl, rfl⟩, rfl⟩
 refine ka rfl<|zm ?_
 refine kr1 func194 results194 rfl (fun w hs => ?_)
 exact ⟨_, [A], rfl, ⟨rfl, rfl⟩, hs.fitD⟩
theorem qa1 (b : Nat) (m x : Msg) : Fn Tryz.prog 227 [.agg x.cells.toArray, .pointer (some ⟨b, 0, none⟩)].toArray [pv b 56 m.cells, NestF []] (fun v post => v = .bool (decide (0 < cmpM x m)) ∧ post = [pv b 56 m.cells]) := by
 refine Fn.enter (N := 8) func227 rfl ntmps227 tK rfl (fun ρ L => ?_)
 refine ky<|kl (l_box rfl rfl) ?_
 rintro _ _ ⟨b2, rfl, rfl⟩
 refine ka rfl<|kz<|kq (qL ck_56 rfl rfl tC)<|kq (qL ck_56 rfl rfl tC)<|kl (kc rfl (h := ord_Msgs _ _)) ?_
 rintro _ _ ⟨_, ⟨rfl, rfl⟩, rfl⟩
 refine kq (q_gt rfl rfl)<|ka rfl<|zm ?_
 refine kr1 func227 results227 rfl (fun w hs => ?_)
 exact ⟨_, [pv b 56 m.cells], rfl, ⟨rfl, rfl⟩, hs.fitD⟩
set_option maxHeartbeats 800000 in
theorem qu_Add (q : Option Addr) (cap : Nat) (l : List Msg) (m : Msg) (hl : l.length ≤ 1000000000) : Fn Tryz.prog 213 [.slice q l.length cap, .agg m.cells.toArray].toArray [RowF Kd.msg q l] (fun r post => ∃ q' c', r = .slice q' (addM l m).length c' ∧ post = [RowO Kd.msg 56 q' c' (addM l m)] ∧ (addM l m).length ≤ c') := by
 refine Fn.enter (N := 19) func213 rfl ntmps213 tK rfl (fun ρ L => ?_)
 refine ky<|kl (l_box rfl rfl) ?_
 rintro _ _ ⟨b3, rfl, rfl⟩
 refine ka rfl<|kz<|km rfl<|kq (q_func rfl rfl)<|KO.st (fun w h => nestF_nil h)<|kl (kc rfl (h := ixg_msg (RowF Kd.msg q l) (pv b3 56 m.cells) (NestF []) q cap l isF 227 [.pointer (some ⟨b3, 0, none⟩)] (fun x => decide (0 < cmpM x m)) tO (fun x _ => qa1 b3 m x))) ?_
 rintro _ _ ⟨_, ⟨rfl, rfl⟩, rfl⟩
 refine ka rfl<|zm<|ke<|ky<|km rfl<|kq (q_lt rfl rfl)<|zm ?_
 refine kD (s := 10) rfl (fun g10 => ?_) (fun g10 => ?_)
 ·have hpl : plc (fun x => decide (0 < cmpM x m)) l = l.length := by unfold plc; rw [if_pos g10]
  have had : addM l m = insAt l l.length m := by unfold addM; rw [hpl]
  refine kr<|km rfl<|kq (qG underlying60 rfl)<|ka rfl<|zm<|ke ?_
  refine K.drawU (by repeat (first | apply SubL.pers | apply SubL.own (b := b3) | apply SubL.drop | exact SubL.none)) mixed ?_
  refine dq 0 rfl (q_move rfl)<|dq 2 rfl (q_move rfl)<|dq 3 rfl (qL ck_56 rfl rfl tC) ?_
  refine D.all (rs := [1, 4]) tK rfl (DAll.cons rfl tK (kc rfl (h := cM (RowF Kd.msg q l) q cap l isF hl)) (.inr (by rintro _ _ ⟨_, ⟨q1, c1, rfl, rfl, hc1⟩, rfl⟩ w h; exact h.subD)) rfl ?_ (DAll.cons rfl tK (lO sz_60_1 rfl rfl ⟨rfl, rfl, rfl⟩) (.inr (by rintro _ _ ⟨b17, rfl, rfl⟩ w h; exact h.subD)) rfl ?_ DAll.nil))
  ·rintro _ _ ⟨_, ⟨q1, c1, rfl, rfl, hc1⟩, rfl⟩
   refine dq1 4 rfl (lO sz_60_1 rfl rfl ⟨rfl, rfl, rfl⟩) (.inr (by rintro _ _ ⟨b17, rfl, rfl⟩ w h; exact h.subD)) ?_
   rintro _ _ ⟨b17, rfl, rfl⟩
   refine dq1 5 rfl (kc rfl (h := ins_msg q1 c1 l l.length b17 _ m (Nat.le_refl _) hc1 hl)) (.inl tK) ?_
   rintro _ _ ⟨_, ⟨qn, cn, rfl, rfl, hcn⟩, rfl⟩
   refine dq 6 rfl (q_assign rfl)<|D.done tK ?_
   refine kr1 func213 results213 rfl (fun w hs => ?_)
   rw [had]
   exact ⟨_, [RowO Kd.msg 56 qn cn _], rfl, ⟨qn, cn, rfl, rfl, hcn⟩, hs.fitD⟩
  ·rintro _ _ ⟨b17, rfl, rfl⟩
   refine dq1 1 rfl (kc rfl (h := cM (RowF Kd.msg q l) q cap l isF hl)) (.inr (by rintro _ _ ⟨_, ⟨q1, c1, rfl, rfl, hc1⟩, rfl⟩ w h; exact h.subD)) ?_
   rintro _ _ ⟨_, ⟨q1, c1, rfl, rfl, hc1⟩, rfl⟩
   refine dq1 5 rfl (kc rfl (h := ins_msg q1 c1 l l.length b17 _ m (Nat.le_refl _) hc1 hl)) (.inl tK) ?_
   rintro _ _ ⟨_, ⟨qn, cn, rfl, rfl, hcn⟩, rfl⟩
   refine dq 6 rfl (q_assign rfl)<|D.done tK ?_
   refine kr1 func213 results213 rfl (fun w hs => ?_)
   rw [had]
   exact ⟨_, [RowO Kd.msg 56 qn cn _], rfl, ⟨qn, cn, rfl, rfl, hcn⟩, hs.fitD⟩
 ·obtain ⟨i, x, hx, hi, _⟩ := idxP_nat g10
  have hpl : plc (fun x => decide (0 < cmpM x m)) l = i := by unfold plc; rw [if_neg g10, hi]; rfl
  have hile : i ≤ l.length := by have := (List.getElem?_eq_some_iff.1 hx).1; omega
  have had : addM l m = insAt l i m := by unfold addM; rw [hpl]
  rw [hi]
  refine za<|ke ?_
  refine K.drawU (by repeat (first | apply SubL.pers | apply SubL.own (b := b3) | apply SubL.drop | exact SubL.none)) mixed ?_
  refine dq 0 rfl (q_move rfl)<|dq 2 rfl (q_move rfl)<|dq 3 rfl (qL ck_56 rfl rfl tC) ?_
  refine D.all (rs := [1, 4]) tK rfl (DAll.cons rfl tK (kc rfl (h := cM (RowF Kd.msg q l) q cap l isF hl)) (.inr (by rintro _ _ ⟨_, ⟨q1, c1, rfl, rfl, hc1⟩, rfl⟩ w h; exact h.subD)) rfl ?_ (DAll.cons rfl tK (lO sz_60_1 rfl rfl ⟨rfl, rfl, rfl⟩) (.inr (by rintro _ _ ⟨b17, rfl, rfl⟩ w h; exact h.subD)) rfl ?_ DAll.nil))
  ·rintro _ _ ⟨_, ⟨q1, c1, rfl, rfl, hc1⟩, rfl⟩
   refine dq1 4 rfl (lO sz_60_1 rfl rfl ⟨rfl, rfl, rfl⟩) (.inr (by rintro _ _ ⟨b17, rfl, rfl⟩ w h; exact h.subD)) ?_
   rintro _ _ ⟨b17, rfl, rfl⟩
   refine dq1 5 rfl (kc rfl (h := ins_msg q1 c1 l i b17 _ m hile hc1 hl)) (.inl tK) ?_
   rintro _ _ ⟨_, ⟨qn, cn, rfl, rfl, hcn⟩, rfl⟩
   refine dq 6 rfl (q_assign rfl)<|D.done tK ?_
   refine kr1 func213 results213 rfl (fun w hs => ?_)
   rw [had]
   exact ⟨_, [RowO Kd.msg 56 qn cn _], rfl, ⟨qn, cn, rfl, rfl, hcn⟩, hs.fitD⟩
  ·rintro _ _ ⟨b17, rfl, rfl⟩
   refine dq1 1 rfl (kc rfl (h := cM (RowF Kd.msg q l) q cap l isF hl)) (.inr (by rintro _ _ ⟨_, ⟨q1, c1, rfl, rfl, hc1⟩, rfl⟩ w h; exact h.subD)) ?_
   rintro _ _ ⟨_, ⟨q1, c1, rfl, rfl, hc1⟩, rfl⟩
   refine dq1 5 rfl (kc rfl (h := ins_msg q1 c1 l i b17 _ m hile hc1 hl)) (.inl tK) ?_
   rintro _ _ ⟨_, ⟨qn, cn, rfl, rfl, hcn⟩, rfl⟩
   refine dq 6 rfl (q_assign rfl)<|D.done tK ?_
   refine kr1 func213 results213 rfl (fun w hs => ?_)
   rw [had]
   exact ⟨_, [RowO Kd.msg 56 qn cn _], rfl, ⟨qn, cn, rfl, rfl, hcn⟩, hs.fitD⟩
set_option maxHeartbeats 800000 in
theorem qu_Cut (q : Option Addr) (cap : Nat) (l : List Msg) (id : Int) (hl : l.length ≤ 1000000000) : Fn Tryz.prog 193 [.slice q l.length cap, .int .i64 id].toArray [RowF Kd.msg q l] (fun r post => ∃ q' c', r = .tuple #[.slice q' (cutM l id).1.length c', .bool (cutM l id).2] ∧ post = [RowO Kd.msg 56 q' c' (cutM l id).1] ∧ (cutM l id).1.length ≤ c') := by
 refine Fn.enter (N := 20) func193 rfl ntmps193 tK rfl (fun ρ L => ?_)
 refine ky<|ka rfl<|ka rfl<|kz<|km rfl<|km rfl<|kl (kc rfl (h := qu_Find (RowF Kd.msg q l) q cap l id isF hl)) ?_
 rintro _ _ ⟨_, ⟨rfl, rfl⟩, rfl⟩
 refine ka rfl<|kz<|km rfl<|kl (kc rfl (h := cM (RowF Kd.msg q l) q cap l isF hl)) ?_
 rintro _ _ ⟨_, ⟨q1, c1, rfl, rfl, hc1⟩, rfl⟩
 refine ka rfl<|zm<|ke<|ky<|km rfl<|kq (q_lt rfl rfl)<|zm ?_
 refine kD (s := 13) rfl (fun g13 => ?_) (fun g13 => ?_)
 ·have hr : cutM l id = (l, false) := by unfold cutM; rw [if_pos g13]
  refine ky<|km rfl<|ka rfl<|ka rfl<|zm ?_
  refine kr2 func193 results193 rfl rfl (fun w hs => ?_)
  rw [hr]
  first
   | exact ⟨_, [RowO Kd.msg 56 q1 c1 (l.eraseIdx i)], rfl, ⟨q1, c1, rfl, rfl, rC (e := 56) (k := Kd.msg) (p := q1) (cap := c1) (xs := l.eraseIdx i) tM w hs⟩, hs.fitD⟩
   | exact ⟨_, [RowO Kd.msg 56 q1 c1 l], rfl, ⟨q1, c1, rfl, rfl, hc1⟩, hs.fitD⟩
 ·obtain ⟨i, x, hx, hi, _⟩ := idxP_nat g13
  have hi : findM l id = (i : Int) := hi
  have hil := (List.getElem?_eq_some_iff.1 hx).1
  have hr : cutM l id = (l.eraseIdx i, true) := by unfold cutM; rw [if_neg g13, hi]; rfl
  rw [hi]
  refine za<|ky<|km rfl<|km rfl<|km rfl<|kq (q_add rfl rfl tN tN)<|kl (kc rfl (h := del_msg q1 c1 l i hil hc1 tO)) ?_
  rintro _ _ ⟨_, ⟨rfl, rfl⟩, rfl⟩
  refine ka rfl<|ka rfl<|zm ?_
  refine kr2 func193 results193 rfl rfl (fun w hs => ?_)
  rw [hr]
  first
   | exact ⟨_, [RowO Kd.msg 56 q1 c1 (l.eraseIdx i)], rfl, ⟨q1, c1, rfl, rfl, rC (e := 56) (k := Kd.msg) (p := q1) (cap := c1) (xs := l.eraseIdx i) tM w hs⟩, hs.fitD⟩
   | exact ⟨_, [RowO Kd.msg 56 q1 c1 l], rfl, ⟨q1, c1, rfl, rfl, hc1⟩, hs.fitD⟩
set_option maxHeartbeats 800000 in
theorem qu_Claim (q : Option Addr) (cap : Nat) (l : List Msg) (id : Int) (on : Bool) (hl : l.length ≤ 1000000000) : Fn Tryz.prog 195 [.slice q l.length cap, .int .i64 id, .bool on].toArray [RowF Kd.msg q l] (fun r post => ∃ q' c', r = .tuple #[.slice q' (claimM l id on).1.length c', .bool (claimM l id on).2] ∧ post = [RowO Kd.msg 56 q' c' (claimM l id on).1] ∧ (claimM l id on).1.length ≤ c') := by
 refine Fn.enter (N := 32) func195 rfl ntmps195 tK rfl (fun ρ L => ?_)
 refine ky<|ka rfl<|ka rfl<|kz<|km rfl<|km rfl<|kl (kc rfl (h := qu_Find (RowF Kd.msg q l) q cap l id isF hl)) ?_
 rintro _ _ ⟨_, ⟨rfl, rfl⟩, rfl⟩
 refine ka rfl<|kz<|km rfl<|kl (kc rfl (h := cM (RowF Kd.msg q l) q cap l isF hl)) ?_
 rintro _ _ ⟨_, ⟨q1, c1, rfl, rfl, hc1⟩, rfl⟩
 refine ka rfl<|zm<|ke<|ky<|km rfl<|kq (q_lt rfl rfl)<|km rfl ?_
 refine KO.dsplit 16 rfl (fun g16 => ?_) (fun g16 => ?_)
 ·have hr : claimM l id on = (l, false) := by unfold claimM; rw [if_pos g16]
  refine zq<|zq<|zq<|zq<|zq<|zq<|zq<|kq (qT rfl rfl)<|zm<|K.yes rfl<|ky<|km rfl<|ka rfl<|ka rfl<|zm ?_
  refine kr2 func195 results195 rfl rfl (fun w hs => ?_)
  rw [hr]
  exact ⟨_, [RowO Kd.msg 56 q1 c1 l], rfl, ⟨q1, c1, rfl, rfl, hc1⟩, hs.fitD⟩
 ·obtain ⟨i, x, hx, hi, _⟩ := idxP_nat g16
  have hi : findM l id = (i : Int) := hi
  have hil := (List.getElem?_eq_some_iff.1 hx).1
  have hgd : l.getD (findM l id).toNat ⟨0, 0, 0, false, ⟨#[]⟩, ⟨#[]⟩⟩ = x := by rw [hi, Int.toNat_natCast]; exact gd_at hx
  refine km rfl<|km rfl<|kq (q_ix (xs := l) i se_60 rfl rfl hi isO tM rfl hil)<|kq (qE fo_56_3 rfl)<|kq (q_ldE (xs := l) ck_4 rfl isO tM hx rfl)<|km rfl<|kq (q_beq underlying4 rfl rfl)<|kq (qF rfl rfl)<|zm ?_
  refine kT (s := 24) rfl (fun g24 => ?_) (fun g24 => ?_)
  ·have hr : claimM l id on = (l, false) := by unfold claimM; rw [if_neg g16, hgd, if_pos (by simpa using g24)]
   refine ky<|km rfl<|ka rfl<|ka rfl<|zm ?_
   refine kr2 func195 results195 rfl rfl (fun w hs => ?_)
   rw [hr]
   exact ⟨_, [RowO Kd.msg 56 q1 c1 l], rfl, ⟨q1, c1, rfl, rfl, hc1⟩, hs.fitD⟩
  ·have hr : claimM l id on = (l.set i { x with claimed := on }, true) := by unfold claimM; rw [if_neg g16, hgd, if_neg (by simpa using g24), hi]; rfl
   have hsl : (l.set i { x with claimed := on }).length = l.length := List.length_set
   refine za<|ky<|km rfl<|km rfl<|km rfl<|kq (q_ix (xs := l) i se_60 rfl rfl hi isO tM rfl hil)<|kq (qE fo_56_3 rfl)<|kN rfl (lP (el := x) { x with claimed := on } ck_4 rfl rfl rfl tP hx tD rfl) ?_
   rintro _ _ ⟨rfl, rfl⟩
   refine kz<|km rfl<|ka rfl<|ka rfl<|zm ?_
   refine kr2 func195 results195 rfl rfl (fun w hs => ?_)
   rw [hr, hsl]
   exact ⟨_, [RowO Kd.msg 56 q1 c1 (l.set i { x with claimed := on })], rfl, ⟨q1, c1, rfl, rfl, hc1⟩, hs.fitD⟩
theorem nd_Find (q : Option Addr) (cap : Nat) (l : List Rw) (key : ByteArray) (hl : l.length ≤ 1000000000) : Fn Tryz.prog 221 [.slice q l.length cap, .string key].toArray [RowF Kd.rw q l] (fun r post => r = .tuple #[.int .i64 (lbR l key), .bool (fndR l key)] ∧ post = []) := by
 refine Fn.enter (N := 28) func221 rfl ntmps221 tK rfl (fun ρ L => ?_)
 refine ky<|ka rfl<|ka rfl<|zm<|ke<|ky<|km rfl<|kq (qG underlying59 rfl)<|km rfl<|zm<|kB ?_
 refine K.rloop (ι := { i : Nat // i ≤ l.length ∧ (l.take i).all (fun r => decide (cmpB r.key key < 0)) = true }) (fun x => [(11, .int .i64 x.1), (10, .int .i64 l.length), (9, .slice q l.length cap), (0, .slice q l.length cap), (1, .string key)]) (fun x => l.length - x.1) ⟨0, Nat.zero_le _, rfl⟩ tS (fun x ih => ?_)
 obtain ⟨i, hi, hz⟩ := x
 dsimp only at hi hz ⊢
 refine ky<|kq (q_lt rfl rfl)<|zm<|ke ?_
 refine kD (s := 12) rfl (fun g12 => ?_) (fun g12 => ?_)
 ·obtain ⟨e, he⟩ : ∃ e, l[i]? = some e := ⟨_, List.getElem?_eq_getElem tO⟩
  refine za<|ke<|kB<|ky<|km rfl ?_
  first | refine kq (q_ix _ se_59 rfl rfl rfl isF tM rfl tL) ?_ | refine kq (q_ix _ se_59 rfl rfl rfl isO tM rfl tL) ?_
  first | refine kq (q_ldEN ck_136 rfl isF tM tE) ?_ | refine kq (q_ldEN ck_136 rfl isO tM tE) ?_
  refine kl (lL zo_136) ?_
  rintro _ _ ⟨b7, rfl, rfl⟩
  refine ka rfl<|kN rfl (lS ck_136 rfl rfl ⟨rfl, rfl⟩ (rw_one _) tP) ?_
  rintro _ _ ⟨rfl, rfl⟩
  refine kz<|kq (qO fo_136_0 rfl)<|kq (qD ck_9 rfl)<|km rfl<|kl (kc rfl (h := ord_Keys _ _)) ?_
  rintro _ _ ⟨_, ⟨rfl, rfl⟩, rfl⟩
  refine ka rfl<|kz<|km rfl<|kq (q_ge rfl rfl)<|zm ?_
  refine kD (s := 21) rfl (fun g21 => ?_) (fun g21 => ?_)
  ·have hlb : lbR l key = i := tw_eq hz hi (fun x hx => by rw [he] at hx; cases hx; exact decide_eq_false tO)
   have hfn : fndR l key = decide (cmpB e.key key = 0) := by unfold fndR; rw [hlb, he]; rfl
   refine ky<|km rfl<|km rfl<|kq (q_eq rfl rfl)<|ka rfl<|ka rfl<|zm ?_
   refine kr2 func221 results221 rfl rfl (fun w hs => ?_)
   rw [hlb, hfn]
   exact ⟨_, [], rfl, ⟨rfl, rfl⟩, hs.fitD⟩
  ·refine za<|zd<|kr<|kq (q_add rfl rfl tN tN)<|km rfl<|zm ?_
   exact K.weak tS (fun w h => h.fitD) (ih ⟨i + 1, by omega, by rw [all_take_succ he, hz, decide_eq_true tO]; rfl⟩ (by show l.length - (i + 1) < l.length - i; omega))
 ·have hlb : lbR l key = l.length := by rw [show l.length = i by omega]; exact tw_eq hz hi (fun x hx => by rw [List.getElem?_eq_none tO] at hx; cases hx)
  have hfn : fndR l key = false := by unfold fndR; rw [hlb, List.getElem?_eq_none (Nat.le_refl _)]; rfl
  refine K.exit rfl<|ky<|km rfl<|kq (qG underlying59 rfl)<|ka rfl<|ka rfl<|zm ?_
  refine kr2 func221 results221 rfl rfl (fun w hs => ?_)
  rw [hlb, hfn]
  exact ⟨_, [], rfl, ⟨rfl, rfl⟩, hs.fitD⟩
theorem lbR_le (l : List Rw) (key : ByteArray) : lbR l key ≤ l.length := (List.takeWhile_prefix _).length_le
theorem fndR_lt {l : List Rw} {key : ByteArray} (h : fndR l key = true) : lbR l key < l.length := by
 unfold fndR at h
 cases hg : l[lbR l key]? with
 | none => rw [hg] at h; cases h
 | some e => exact (List.getElem?_eq_some_iff.1 hg).1
set_option maxHeartbeats 800000 in
theorem nd_Put (q : Option Addr) (cap : Nat) (l : List Rw) (r : Rw) (hl : l.length ≤ 1000000000) : Fn Tryz.prog 210 [.slice q l.length cap, .agg r.cells.toArray].toArray [RowF Kd.rw q l] (fun v post => ∃ q' c', v = .slice q' (putR l r).length c' ∧ post = [RowO Kd.rw 136 q' c' (putR l r)] ∧ (putR l r).length ≤ c') := by
 refine Fn.enter (N := 27) func210 rfl ntmps210 tK rfl (fun ρ L => ?_)
 refine ky<|kl (l_box rfl rfl) ?_
 rintro _ _ ⟨b3, rfl, rfl⟩
 refine ka rfl<|kz<|km rfl<|kq (qO fo_136_0 rfl)<|kq (qD ck_9 rfl)<|kl (kc rfl (h := nd_Find _ _ _ _ (by assumption))) ?_
 rintro _ _ ⟨_, ⟨rfl, rfl⟩, rfl⟩
 refine km rfl<|kq (qX rfl rfl)<|kq (qX rfl rfl)<|ka rfl<|ka rfl<|kz<|km rfl<|kl (kc rfl (h := clone_rw (RowF Kd.rw q l) q cap l isF hl)) ?_
 rintro _ _ ⟨_, ⟨q1, c1, rfl, rfl, hc1⟩, rfl⟩
 refine ka rfl<|zm<|ke<|ky<|km rfl<|zm ?_
 first | refine kD (s := 16) rfl (fun g16 => ?_) (fun g16 => ?_) | refine kT (s := 16) rfl (fun g16 => ?_) (fun g16 => ?_)
 ·have hil := fndR_lt g16
  have hr : putR l r = l.set (lbR l r.key) r := by unfold putR; rw [if_pos g16]
  have hsl : (l.set (lbR l r.key) r).length = l.length := List.length_set
  refine ky<|km rfl<|km rfl<|kq (qL ck_136 rfl rfl tC)<|kq (q_ix (xs := l) (lbR l r.key) se_59 rfl rfl rfl isO tM rfl hil)<|kN rfl (l_storeEN r ck_136 rfl rfl tP hil) ?_
  rintro _ _ ⟨rfl, rfl⟩
  refine kz<|km rfl<|ka rfl<|zm ?_
  refine kr1 func210 results210 rfl (fun w hs => ?_)
  rw [hr, hsl]
  exact ⟨_, [RowO Kd.rw 136 q1 c1 (l.set (lbR l r.key) r)], rfl, ⟨q1, c1, rfl, rfl, hc1⟩, hs.fitD⟩
 ·have hile := lbR_le l r.key
  have hr : putR l r = insAt l (lbR l r.key) r := by unfold putR; rw [if_neg (by rw [g16]; decide)]
  refine za<|ky<|km rfl<|km rfl<|kq (qL ck_136 rfl rfl tC)<|kl (lO sz_59_1 rfl rfl ⟨rfl, rfl, rfl⟩) ?_
  rintro _ _ ⟨b25, rfl, rfl⟩
  refine kl (kc rfl (h := ins_rw q1 c1 l (lbR l r.key) b25 _ r hile hc1 hl)) ?_
  rintro _ _ ⟨_, ⟨qn, cn, rfl, rfl, hcn⟩, rfl⟩
  refine ka rfl<|zm ?_
  refine kr1 func210 results210 rfl (fun w hs => ?_)
  rw [hr]
  exact ⟨_, [RowO Kd.rw 136 qn cn (insAt l (lbR l r.key) r)], rfl, ⟨qn, cn, rfl, rfl, hcn⟩, hs.fitD⟩
set_option maxHeartbeats 800000 in
theorem nd_Cut (q : Option Addr) (cap : Nat) (l : List Rw) (key : ByteArray) (hl : l.length ≤ 1000000000) : Fn Tryz.prog 211 [.slice q l.length cap, .string key].toArray [RowF Kd.rw q l] (fun v post => ∃ q' c', v = .tuple #[.slice q' (cutR l key).1.length c', .bool (cutR l key).2] ∧ post = [RowO Kd.rw 136 q' c' (cutR l key).1] ∧ (cutR l key).1.length ≤ c') := by
 refine Fn.enter (N := 24) func211 rfl ntmps211 tK rfl (fun ρ L => ?_)
 refine ky<|ka rfl<|ka rfl<|kz<|km rfl<|km rfl<|kl (kc rfl (h := nd_Find _ _ _ _ (by assumption))) ?_
 rintro _ _ ⟨_, ⟨rfl, rfl⟩, rfl⟩
 refine km rfl<|kq (qX rfl rfl)<|kq (qX rfl rfl)<|ka rfl<|ka rfl<|kz<|km rfl<|kl (kc rfl (h := clone_rw (RowF Kd.rw q l) q cap l isF hl)) ?_
 rintro _ _ ⟨_, ⟨q1, c1, rfl, rfl, hc1⟩, rfl⟩
 refine ka rfl<|zm<|ke<|ky<|km rfl<|kq (q_not rfl)<|zm ?_
 refine kT (s := 17) rfl (fun g17 => ?_) (fun g17 => ?_)
 ·have hr : cutR l key = (l, false) := by unfold cutR; rw [if_neg (by simpa using g17)]
  refine ky<|km rfl<|ka rfl<|ka rfl<|zm ?_
  refine kr2 func211 results211 rfl rfl (fun w hs => ?_)
  rw [hr]
  first
   | exact ⟨_, [RowO Kd.rw 136 q1 c1 (l.eraseIdx (lbR l key))], rfl, ⟨q1, c1, rfl, rfl, rC (e := 136) (k := Kd.rw) (p := q1) (cap := c1) (xs := l.eraseIdx (lbR l key)) tM w hs⟩, hs.fitD⟩
   | exact ⟨_, [RowO Kd.rw 136 q1 c1 l], rfl, ⟨q1, c1, rfl, rfl, hc1⟩, hs.fitD⟩
 ·have hfn : fndR l key = true := by simpa using g17
  have hil := fndR_lt hfn
  have hr : cutR l key = (l.eraseIdx (lbR l key), true) := by unfold cutR; rw [if_pos hfn]
  refine za<|ky<|km rfl<|km rfl<|km rfl<|kq (q_add rfl rfl tN tN)<|kl (kc rfl (h := del_rw q1 c1 l (lbR l key) hil hc1 tO)) ?_
  rintro _ _ ⟨_, ⟨rfl, rfl⟩, rfl⟩
  refine ka rfl<|ka rfl<|zm ?_
  refine kr2 func211 results211 rfl rfl (fun w hs => ?_)
  rw [hr]
  first
   | exact ⟨_, [RowO Kd.rw 136 q1 c1 (l.eraseIdx (lbR l key))], rfl, ⟨q1, c1, rfl, rfl, rC (e := 136) (k := Kd.rw) (p := q1) (cap := c1) (xs := l.eraseIdx (lbR l key)) tM w hs⟩, hs.fitD⟩
   | exact ⟨_, [RowO Kd.rw 136 q1 c1 l], rfl, ⟨q1, c1, rfl, rfl, hc1⟩, hs.fitD⟩
theorem rw_Put (q : Option Addr) (cap : Nat) (l : List Rw) (r : Rw) (hl : l.length ≤ 1000000000) : Fn Tryz.prog 189 [.slice q l.length cap, .agg r.cells.toArray].toArray [RowF Kd.rw q l] (fun v post => ∃ q' c', v = .slice q' (putR l r).length c' ∧ post = [RowO Kd.rw 136 q' c' (putR l r)] ∧ (putR l r).length ≤ c') := by
 refine Fn.enter (N := 8) func189 rfl ntmps189 tK rfl (fun ρ L => ?_)
 refine ky<|kl (l_box rfl rfl) ?_
 rintro _ _ ⟨b3, rfl, rfl⟩
 refine ka rfl<|kz<|km rfl<|kq (qL ck_136 rfl rfl tC)<|kl (kc rfl (h := nd_Put q cap l r hl)) ?_
 rintro _ _ ⟨_, ⟨q1, c1, rfl, rfl, hc1⟩, rfl⟩
 refine ka rfl<|zm ?_
 refine kr1 func189 results189 rfl (fun w hs => ?_)
 exact ⟨_, [RowO Kd.rw 136 q1 c1 (putR l r)], rfl, ⟨q1, c1, rfl, rfl, hc1⟩, hs.fitD⟩
theorem rw_Cut (q : Option Addr) (cap : Nat) (l : List Rw) (key : ByteArray) (hl : l.length ≤ 1000000000) : Fn Tryz.prog 190 [.slice q l.length cap, .string key].toArray [RowF Kd.rw q l] (fun v post => ∃ q' c', v = .tuple #[.slice q' (cutR l key).1.length c', .bool (cutR l key).2] ∧ post = [RowO Kd.rw 136 q' c' (cutR l key).1] ∧ (cutR l key).1.length ≤ c') := by
 refine Fn.enter (N := 11) func190 rfl ntmps190 tK rfl (fun ρ L => ?_)
 refine ky<|ka rfl<|ka rfl<|kz<|km rfl<|km rfl<|kl (kc rfl (h := nd_Cut q cap l key hl)) ?_
 rintro _ _ ⟨_, ⟨q1, c1, rfl, rfl, hc1⟩, rfl⟩
 refine kq (qX rfl rfl)<|kq (qX rfl rfl)<|ka rfl<|ka rfl<|zm ?_
 refine kr2 func190 results190 rfl rfl (fun w hs => ?_)
 exact ⟨_, [RowO Kd.rw 136 q1 c1 (cutR l key).1], rfl, ⟨q1, c1, rfl, rfl, hc1⟩, hs.fitD⟩
end Go.Proofs.YtkbhldicnamcdaaGreat.L
