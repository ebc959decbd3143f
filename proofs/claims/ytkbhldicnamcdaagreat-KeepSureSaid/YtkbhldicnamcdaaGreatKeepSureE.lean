/- Whatever stays at a crash, the state behind all changes that were answered OK is there, or also the one more that was not; no condition. -/
import Derived.Test.YtkbhldicnamcdaaGreatKeepSureD
open Go.Proofs.Tryz
set_option linter.unusedVariables false
set_option linter.unusedSimpArgs false
set_option maxRecDepth 100000
namespace Go.Proofs.YtkbhldicnamcdaaGreat.L
open Go Go.Proofs
attribute [local irreducible] pv fv pt fz RowF RowO rowP old pure_ elA Rd.int Rd.text Rd.flag Rd.msg Rd.rint Rd.rtext Rd.rflag Rd.rmsg
def Rw.bytes (r : Rw) : List UInt8 := wText r.key ++ wText r.value
def msgsBytes (l : List Msg) : List UInt8 := wInt l.length ++ l.flatMap Msg.bytes
def Ob.bytes (o : Ob) : List UInt8 := wText o.name ++ (wInt o.kind ++ (wInt o.limit ++ (wInt o.rows.length ++ (o.rows.flatMap Rw.bytes ++ (msgsBytes o.msgs ++ msgsBytes o.dead)))))
def Stt.bytes (s : Stt) : List UInt8 := wInt s.next ++ (wInt s.objs.length ++ s.objs.flatMap Ob.bytes)
def imgBytes (s : Stt) : List UInt8 := if s.right = true then s.bytes else []
theorem flatB_succ {α : Type} {f : α → List UInt8} {l : List α} {i : Nat} {x : α} (A : List UInt8) (h : l[i]? = some x) : A ++ (l.take (i + 1)).flatMap f = A ++ (l.take i).flatMap f ++ f x := by
 rw [List.take_add_one, h, List.flatMap_append]; simp
theorem rowsB_succ {l : List Rw} {i : Nat} {r : Rw} (A : List UInt8) (h : l[i]? = some r) : A ++ (l.take (i + 1)).flatMap Rw.bytes = A ++ (l.take i).flatMap Rw.bytes ++ wText r.key ++ wText r.value := by
 rw [flatB_succ A h]; simp [Rw.bytes]
theorem flatB_le {α : Type} {f : α → List UInt8} {c : Nat} : ∀ (l : List α), (∀ x ∈ l, (f x).length ≤ c) → (l.flatMap f).length ≤ l.length * c
 | [], _ => by simp
 | x :: l, h => by
  have h1 := h x List.mem_cons_self
  have h2 := flatB_le l (fun y hy => h y (List.mem_cons_of_mem _ hy))
  simp only [List.flatMap_cons, List.length_append, List.length_cons, Nat.succ_mul]
  omega
theorem flatB_take {α : Type} {f : α → List UInt8} {c : Nat} (l : List α) (h : ∀ x, (f x).length ≤ c) (i : Nat) : ((l.take i).flatMap f).length ≤ l.length * c :=
 Nat.le_trans (flatB_le _ (fun x _ => h x)) (Nat.mul_le_mul_right _ (by rw [List.length_take]; omega))
theorem Rw.bytes_length (r : Rw) : r.bytes.length ≤ 131100 := by
 unfold Rw.bytes
 rw [List.length_append, wT, wT]
 omega
theorem msgsBytes_length (l : List Msg) : (msgsBytes l).length ≤ 8 + l.length * 131100 := by
 have := flatB_le (f := Msg.bytes) l (fun m _ => m.bytes_length)
 unfold msgsBytes
 rw [List.length_append, wI]
 omega
theorem Ob.bytes_length (o : Ob) : o.bytes.length ≤ o.cnt * 131100 := by
 have h1 := flatB_le (f := Rw.bytes) o.rows (fun m _ => m.bytes_length)
 have h2 := msgsBytes_length o.msgs
 have h3 := msgsBytes_length o.dead
 unfold Ob.bytes Ob.cnt
 simp only [List.length_append, wI, wT]
 omega
def preB (s : Sz) (i : Nat) : List UInt8 := wInt s.next ++ (wInt s.l.length ++ (s.l.take i).flatMap (fun o => o.x.bytes))
theorem preB_zero (s : Sz) : [] ++ wInt s.next ++ wInt s.l.length = preB s 0 := by simp [preB]
theorem preB_all (s : Sz) : preB s s.l.length = s.st.bytes := by
 unfold preB Stt.bytes Sz.st
 rw [List.take_length, List.length_map, List.flatMap_map]
theorem preB_succ {s : Sz} {i : Nat} {o : Oz} (h : s.l[i]? = some o) : preB s i ++ wText o.x.name ++ wInt o.x.kind ++ wInt o.x.limit ++ wInt o.x.rows.length ++ o.x.rows.flatMap Rw.bytes ++ msgsBytes o.x.msgs ++ msgsBytes o.x.dead = preB s (i + 1) := by
 unfold preB
 rw [List.take_add_one, h, List.flatMap_append]
 simp [Ob.bytes]
theorem preB_len (s : Sz) (i : Nat) : (preB s i).length ≤ 16 + s.cnt i * 131100 := by
 have key : ∀ l : List Oz, (l.flatMap (fun o => o.x.bytes)).length ≤ (l.map (fun o => o.x.cnt)).sum * 131100 := fun l => by
  induction l with
  | nil => simp
  | cons o l ih =>
   have h1 := o.x.bytes_length
   simp only [List.flatMap_cons, List.length_append, List.map_cons, List.sum_cons, Nat.add_mul]
   omega
 have := key (s.l.take i)
 unfold preB Sz.cnt
 rw [List.length_append, List.length_append, wI, wI]
 omega
theorem few_of {s : Sz} (h : s.cnt s.l.length ≤ 40000) : s.few := fun o ho => by
 obtain ⟨i, hi⟩ := List.mem_iff_getElem?.1 ho
 have h1 := cnt_succ hi
 have h2 := cnt_mono s (i + 1)
 unfold Ob.cnt at h1
 omega
set_option maxHeartbeats 800000 in
theorem im_messages (p : Nat) (q : Option Addr) (cap : Nat) (xs : List UInt8) (mq : Option Addr) (mc : Nat) (l : List Msg) (hl : l.length ≤ 40000) (hb : xs.length ≤ 100000000000) : Fn Tryz.prog 145 [.pointer (some ⟨p, 0, none⟩), .slice mq l.length mc].toArray (WrL p q cap xs ++ [RowF Kd.msg mq l])
  (fun r post => ∃ q' cap', r = .tuple #[] ∧ post = WrL p q' cap' (xs ++ msgsBytes l)) := by
 have hfl := flatB_take (f := Msg.bytes) l (fun m => m.bytes_length)
 refine Fn.enter (N := 20) func145 rfl ntmps145 tK rfl (fun ρ L => ?_)
 refine ky<|km rfl<|km rfl<|kq (qG underlying60 rfl) ?_
 refine kl (kc rfl (h := wr_Int _ _ _ _ _ (by first | omega | (simp [wI, wF, wT]; omega)))) ?_
 rintro _ _ ⟨_, ⟨q1, c1, rfl, rfl⟩, rfl⟩
 refine kz<|km rfl<|kq (qG underlying60 rfl)<|km rfl<|zm<|kB ?_
 obtain ⟨A, hA⟩ : ∃ A, A = xs ++ wInt l.length := ⟨_, rfl⟩
 have hAl : A.length ≤ 100000000008 := by rw [hA, List.length_append, wI]; omega
 rw [← hA]
 refine kX (ι := { x : Nat × Option Addr × Nat // x.1 ≤ l.length }) (fun x => [(12, .int .i64 x.1.1), (11, .int .i64 l.length), (10, .slice mq l.length mc), (0, .pointer (some ⟨p, 0, none⟩))]) (fun x => WrL p x.1.2.1 x.1.2.2 (A ++ (l.take x.1.1).flatMap Msg.bytes) ++ (RowF Kd.msg mq l :: L)) (fun x => l.length - x.1.1) ⟨(0, q1, c1), Nat.zero_le _⟩ tS (fun w h => by rw [show A ++ (l.take 0).flatMap Msg.bytes = A by simp]; exact h.fitD) (fun x ih => ?_)
 obtain ⟨⟨i, q', cap'⟩, hi⟩ := x
 dsimp only at hi ⊢
 obtain ⟨B, hB⟩ : ∃ B, B = A ++ (l.take i).flatMap Msg.bytes := ⟨_, rfl⟩
 have hBl : B.length ≤ 106000000000 := by have := hfl i; rw [hB, List.length_append]; omega
 rw [← hB]
 refine ky<|kq (q_lt rfl rfl)<|zm<|ke ?_
 refine kD (s := 13) rfl (fun g13 => ?_) (fun g13 => ?_)
 ·obtain ⟨m, hm⟩ : ∃ e, l[i]? = some e := ⟨_, List.getElem?_eq_getElem tO⟩
  refine za<|ke<|kB<|ke<|kr ?_
  first | refine kq (q_ix _ se_60 rfl rfl rfl isF tM rfl tL) ?_ | refine kq (q_ix _ se_60 rfl rfl rfl isO tM rfl tL) ?_
  first | refine kq (q_ldEN ck_56 rfl isF tM tE) ?_ | refine kq (q_ldEN ck_56 rfl isO tM tE) ?_
  refine kl (lL zo_56) ?_
  rintro _ _ ⟨b5, rfl, rfl⟩
  refine kN rfl (lS ck_56 rfl rfl ⟨rfl, rfl⟩ (msg_one _) tP) ?_
  rintro _ _ ⟨rfl, rfl⟩
  refine zm<|kr<|km rfl<|kq (qL ck_56 rfl rfl tC) ?_
  refine kl (kc rfl (h := msg_WriteA _ _ _ _ _ (by first | omega | (simp [wI, wF, wT]; omega)))) ?_
  rintro _ _ ⟨_, ⟨q2, c2, rfl, rfl⟩, rfl⟩
  refine zm<|zd<|kr<|kq (q_add rfl rfl tN tN)<|km rfl<|zm ?_
  rw [hB, ← flatB_succ A hm]
  exact K.weak tS (fun w h => h.fitD) (ih ⟨(i + 1, q2, c2), by show i + 1 ≤ l.length; omega⟩ (by show l.length - (i + 1) < l.length - i; omega))
 ·obtain rfl : i = l.length := by omega
  rw [hB, List.take_length, hA, show xs ++ wInt l.length ++ l.flatMap Msg.bytes = xs ++ msgsBytes l by simp [msgsBytes]]
  refine K.exit rfl ?_
  refine K.fin (fn := Tryz.f145) func145 (fun a w hk hs => res0 results145) (fun w hs => ?_)
  exact ⟨_, WrL p q' cap' (xs ++ msgsBytes l), rfl, ⟨q', cap', rfl, rfl⟩, hs.fitD⟩
set_option maxHeartbeats 1600000 in
theorem im_Bytes (s : Sz) (hok : s.ok) (hcnt : s.cnt s.l.length ≤ 40000) : Fn Tryz.prog 74 [.agg s.cells.toArray].toArray (StL s)
  (fun r post => ∃ q cap, r = .slice q (imgBytes s.st).length cap ∧ post = [RowF Kd.u8 q (imgBytes s.st)] ∧ (imgBytes s.st).length ≤ cap) := by
 have hfew := few_of hcnt
 have hpre := preB_len s
 have hcm := cnt_mono s
 have hlc0 : s.l.length ≤ 40000 := by
  have : s.l.length ≤ s.cnt s.l.length := by
   unfold Sz.cnt
   rw [List.take_length]
   clear hcnt hfew hpre hcm hok
   generalize s.l = l
   induction l with
   | nil => simp
   | cons o l ih =>
    have : 1 ≤ o.x.cnt := by unfold Ob.cnt; omega
    simp only [List.length_cons, List.map_cons, List.sum_cons]; omega
  omega
 refine Fn.enter (N := 73) func74 rfl ntmps74 tK rfl (fun ρ L => ?_)
 refine ky<|kl (l_box rfl rfl) ?_
 rintro _ _ ⟨b1, rfl, rfl⟩
 refine ka rfl<|zm<|ke<|ky<|kq (qL ck_47 rfl rfl tC)<|kl (kc rfl (h := st_Right _ (by assumption) (by assumption))) ?_
 rintro _ _ ⟨_, ⟨rfl, rfl⟩, rfl⟩
 refine kq (q_not rfl)<|zm ?_
 refine kT (s := 10) rfl (fun g10 => ?_) (fun g10 => ?_)
 ·refine ke ?_
  have hr : imgBytes s.st = [] := if_neg (by simpa using g10)
  rw [hr]
  refine kr<|ka rfl<|zm ?_
  refine kr1 func74 results74 rfl (fun w hs => ?_)
  first
   | exact ⟨_, [RowF Kd.u8 none []], rfl, ⟨none, 0, rfl, rfl, Nat.le_refl _⟩, (rowF_nil (k := Kd.u8) none hs).fitD⟩
   | exact ⟨_, [RowF Kd.u8 q10 s.st.bytes], rfl, ⟨q10, c10, rfl, rfl, hc10⟩, hs.fitD⟩
 ·refine za<|ke ?_
  have hr : imgBytes s.st = s.st.bytes := if_pos (by simpa using g10)
  rw [hr]
  refine kr<|kq (q_build st_150 rfl tF)<|kl (l_box rfl rfl) ?_
  rintro _ _ ⟨b12, rfl, rfl⟩
  refine ka rfl<|zm<|K.st (fun w h => rowO_nil (k := Kd.u8) 5 h)<|ky<|km rfl<|kq (qO fo_47_0 rfl)<|kq (qD ck_3 rfl)<|kl (OpL.callE rfl (wr_Int b12 none 0 [] _ (by simp))) ?_
  rintro _ _ ⟨_, ⟨q0, c0, rfl, rfl⟩, rfl⟩
  refine kz<|km rfl<|kq (qO fo_47_1 rfl)<|kq (qD ck_45 rfl)<|kq (qG underlying45 rfl)<|kl (kc rfl (h := wr_Int _ _ _ _ _ (by simp [wI]))) ?_
  rintro _ _ ⟨_, ⟨qa, ca, rfl, rfl⟩, rfl⟩
  refine zm<|ke<|ky<|kq (qO fo_47_1 rfl)<|kq (qD ck_45 rfl)<|kq (qG underlying45 rfl)<|km rfl<|zm<|kB ?_
  rw [preB_zero]
  refine kX (ι := { x : Nat × Option Addr × Nat // x.1 ≤ s.l.length }) (fun x => [(25, .int .i64 x.1.1), (24, .int .i64 s.l.length), (23, .slice s.q s.l.length s.c), (3, .pointer (some ⟨b12, 0, none⟩))]) (fun x => WrL b12 x.1.2.1 x.1.2.2 (preB s x.1.1) ++ (StL s ++ L)) (fun x => s.l.length - x.1.1) ⟨(0, qa, ca), Nat.zero_le _⟩ tS (fun w h => h.fitD) (fun x ih => ?_)
  obtain ⟨⟨i, q', cap'⟩, hi⟩ := x
  have hpl := hpre i
  have hci := hcm i
  dsimp only at hi ⊢
  refine ky<|kq (q_lt rfl rfl)<|zm<|ke ?_
  refine kD (s := 26) rfl (fun g26 => ?_) (fun g26 => ?_)
  ·obtain ⟨o, ho⟩ : ∃ e, s.l[i]? = some e := ⟨_, List.getElem?_eq_getElem tO⟩
   have hmo := List.mem_of_getElem? ho
   have hcs := cnt_succ ho
   have hc1 := hcm (i + 1)
   unfold Ob.cnt at hcs
   refine K.st (fun w h => nA (l := s.l) tM hmo h)<|za<|ke<|kB<|ke<|kr ?_
   first | refine kq (q_ix _ se_45 rfl rfl rfl isF tM rfl tL) ?_ | refine kq (q_ix _ se_45 rfl rfl rfl isO tM rfl tL) ?_
   first | refine kq (q_ldEN ck_62 rfl isF tM tE) ?_ | refine kq (q_ldEN ck_62 rfl isO tM tE) ?_
   refine kl (lL zo_62) ?_
   rintro _ _ ⟨b5, rfl, rfl⟩
   refine kN rfl (lS ck_62 rfl rfl ⟨rfl, rfl⟩ (oz_one _) tP) ?_
   rintro _ _ ⟨rfl, rfl⟩
   refine kz<|km rfl<|kq (qO fo_62_0 rfl)<|kq (qD ck_9 rfl) ?_
   refine kl (kc rfl (h := wr_TextA _ _ _ _ _ (by first | omega | (simp [wI, wF, wT]; omega)))) ?_
   rintro _ _ ⟨_, ⟨q2, c2, rfl, rfl⟩, rfl⟩
   refine kz<|km rfl<|kq (qO fo_62_1 rfl)<|kq (qD ck_3 rfl) ?_
   refine kl (kc rfl (h := wr_Int _ _ _ _ _ (by first | omega | (simp [wI, wF, wT]; omega)))) ?_
   rintro _ _ ⟨_, ⟨q3, c3, rfl, rfl⟩, rfl⟩
   refine kz<|km rfl<|kq (qO fo_62_2 rfl)<|kq (qD ck_3 rfl) ?_
   refine kl (kc rfl (h := wr_Int _ _ _ _ _ (by first | omega | (simp [wI, wF, wT]; omega)))) ?_
   rintro _ _ ⟨_, ⟨q4, c4, rfl, rfl⟩, rfl⟩
   refine kz<|km rfl<|kq (qO fo_62_3 rfl)<|kq (qD ck_59 rfl)<|kq (qG underlying59 rfl) ?_
   refine kl (kc rfl (h := wr_Int _ _ _ _ _ (by first | omega | (simp [wI, wF, wT]; omega)))) ?_
   rintro _ _ ⟨_, ⟨q5, c5, rfl, rfl⟩, rfl⟩
   refine zm<|ke<|ke ?_
   obtain ⟨A, hA⟩ : ∃ A, A = preB s i ++ wText o.x.name ++ wInt o.x.kind ++ wInt o.x.limit ++ wInt o.x.rows.length := ⟨_, rfl⟩
   have hAl : A.length ≤ 6000000000 := by rw [hA]; simp only [List.length_append, wI, wT]; omega
   rw [← hA]
   refine kr<|kq (qO fo_62_3 rfl)<|kq (qD ck_59 rfl)<|kq (qG underlying59 rfl)<|km rfl<|zm<|kB ?_
   refine kX (ι := { x : Nat × Option Addr × Nat // x.1 ≤ o.x.rows.length }) (fun x => [(49, .int .i64 x.1.1), (48, .int .i64 o.x.rows.length), (47, .slice o.z.q1 o.x.rows.length o.z.c1), (5, .pointer (some ⟨b5, 0, none⟩)), (25, .int .i64 i), (24, .int .i64 s.l.length), (23, .slice s.q s.l.length s.c), (3, .pointer (some ⟨b12, 0, none⟩))]) (fun x => WrL b12 x.1.2.1 x.1.2.2 (A ++ (o.x.rows.take x.1.1).flatMap Rw.bytes) ++ (pv b5 62 o.cells :: ObL o ++ StL s ++ L)) (fun x => o.x.rows.length - x.1.1) ⟨(0, q5, c5), Nat.zero_le _⟩ tS (fun w h => by rw [show A ++ (o.x.rows.take 0).flatMap Rw.bytes = A by simp]; exact h.fitD) (fun x ih2 => ?_)
   obtain ⟨⟨k, q'', cap''⟩, hk⟩ := x
   dsimp only at hk ⊢
   obtain ⟨B, hB⟩ : ∃ B, B = A ++ (o.x.rows.take k).flatMap Rw.bytes := ⟨_, rfl⟩
   have hBl : B.length ≤ 12000000000 := by have := flatB_take (f := Rw.bytes) o.x.rows (fun r => r.bytes_length) k; rw [hB, List.length_append]; omega
   rw [← hB]
   refine ky<|kq (q_lt rfl rfl)<|zm<|ke ?_
   refine kD (s := 50) rfl (fun g50 => ?_) (fun g50 => ?_)
   ·obtain ⟨r, hr⟩ : ∃ e, o.x.rows[k]? = some e := ⟨_, List.getElem?_eq_getElem tO⟩
    refine za<|ke<|kB<|ke<|kr ?_
    first | refine kq (q_ix _ se_59 rfl rfl rfl isF tM rfl tL) ?_ | refine kq (q_ix _ se_59 rfl rfl rfl isO tM rfl tL) ?_
    first | refine kq (q_ldEN ck_136 rfl isF tM tE) ?_ | refine kq (q_ldEN ck_136 rfl isO tM tE) ?_
    refine kl (lL zo_136) ?_
    rintro _ _ ⟨b7, rfl, rfl⟩
    refine kN rfl (lS ck_136 rfl rfl ⟨rfl, rfl⟩ (rw_one _) tP) ?_
    rintro _ _ ⟨rfl, rfl⟩
    refine kz<|km rfl<|kq (qO fo_136_0 rfl)<|kq (qD ck_9 rfl) ?_
    refine kl (kc rfl (h := wr_TextA _ _ _ _ _ (by first | omega | (simp [wI, wF, wT]; omega)))) ?_
    rintro _ _ ⟨_, ⟨q6, c6, rfl, rfl⟩, rfl⟩
    refine zm<|kr<|km rfl<|kq (qO fo_136_1 rfl)<|kq (qD ck_9 rfl) ?_
    refine kl (kc rfl (h := wr_TextA _ _ _ _ _ (by first | omega | (simp [wI, wF, wT]; omega)))) ?_
    rintro _ _ ⟨_, ⟨q7, c7, rfl, rfl⟩, rfl⟩
    refine zm<|zd<|kr<|kq (q_add rfl rfl tN tN)<|km rfl<|zm ?_
    rw [hB, ← rowsB_succ A hr]
    exact K.weak tS (fun w h => h.fitD) (ih2 ⟨(k + 1, q7, c7), by show k + 1 ≤ o.x.rows.length; omega⟩ (by show o.x.rows.length - (k + 1) < o.x.rows.length - k; omega))
   ·obtain rfl : k = o.x.rows.length := by omega
    rw [List.take_length] at hB
    have hml := msgsBytes_length o.x.msgs
    refine K.exit rfl<|ky<|km rfl<|kq (qO fo_62_4 rfl)<|kq (qD ck_60 rfl) ?_
    refine kl (kc rfl (h := im_messages _ _ _ _ _ _ _ tN (by first | omega | (simp [wI, wF, wT]; omega)))) ?_
    rintro _ _ ⟨_, ⟨q8, c8, rfl, rfl⟩, rfl⟩
    refine zm<|kr<|km rfl<|kq (qO fo_62_5 rfl)<|kq (qD ck_60 rfl) ?_
    refine kl (kc rfl (h := im_messages _ _ _ _ _ _ _ tN (by first | omega | (simp [wI, wF, wT]; omega)))) ?_
    rintro _ _ ⟨_, ⟨q9, c9, rfl, rfl⟩, rfl⟩
    refine zm<|zd<|kr<|kq (q_add rfl rfl tN tN)<|km rfl<|zm ?_
    rw [hB, hA, preB_succ ho]
    exact K.weak tS (fun w h => h.fitD) (ih ⟨(i + 1, q9, c9), by show i + 1 ≤ s.l.length; omega⟩ (by show s.l.length - (i + 1) < s.l.length - i; omega))
  ·obtain rfl : i = s.l.length := by omega
   rw [preB_all] at hpl ⊢
   refine K.exit rfl<|ky<|km rfl ?_
   refine kl (kc rfl (h := wr_Bytes _ _ _ _ (by first | omega | (simp [wI, wF, wT]; omega)))) ?_
   rintro _ _ ⟨_, ⟨q10, c10, rfl, rfl, hc10⟩, rfl⟩
   refine ka rfl<|zm ?_
   refine kr1 func74 results74 rfl (fun w hs => ?_)
   first
    | exact ⟨_, [RowF Kd.u8 none []], rfl, ⟨none, 0, rfl, rfl, Nat.le_refl _⟩, (rowF_nil (k := Kd.u8) none hs).fitD⟩
    | exact ⟨_, [RowF Kd.u8 q10 s.st.bytes], rfl, ⟨q10, c10, rfl, rfl, hc10⟩, hs.fitD⟩
end Go.Proofs.YtkbhldicnamcdaaGreat.L
namespace Go.Proofs.YtkbhldicnamcdaaGreat.L
open Go Go.Proofs
open Go
abbrev RdW := Rd × Bool
def RwM (α : Type) := RdW → α × RdW
def RwM.bind {α β : Type} (r : RwM α) (k : α → RwM β) : RwM β := fun s => k (r s).1 (r s).2
def RwM.ret {α : Type} (a : α) : RwM α := fun s => (a, s)
def RdM.lift {α : Type} (r : RdM α) : RwM α := fun s => ((r s.1).1, ((r s.1).2, s.2))
def lsGo {α : Type} (one : RwM α) : Nat → List α → RdW → List α × RdW
 | 0, acc, s => (acc, s)
 | n + 1, acc, s => if s.1.f = true then (acc, s) else lsGo one n (acc ++ [(one s).1]) (one s).2
theorem lsGo_zero {α : Type} (one : RwM α) (acc : List α) (s : RdW) : lsGo one 0 acc s = (acc, s) := rfl
theorem lsGo_succ {α : Type} (one : RwM α) (n : Nat) (acc : List α) (s : RdW) : lsGo one (n + 1) acc s = if s.1.f = true then (acc, s) else lsGo one n (acc ++ [(one s).1]) (one s).2 := rfl
theorem lsGo_f {α : Type} (one : RwM α) : ∀ (n : Nat) (acc : List α) (s : RdW), s.1.f = true → lsGo one n acc s = (acc, s)
 | 0, _, _, _ => rfl
 | _ + 1, _, _, h => by rw [lsGo_succ, if_pos h]
def cntM : RwM Int := fun s => (s.1.int.1, (s.1.int.2, s.2 || decide (s.1.int.1 < 0)))
def lsM {α : Type} (one : RwM α) : RwM (List α) := RwM.bind cntM fun n => lsGo one n.toNat []
theorem lsM_eq {α : Type} (one : RwM α) (s : RdW) : lsM one s = lsGo one s.1.int.1.toNat [] (s.1.int.2, s.2 || decide (s.1.int.1 < 0)) := rfl
def rwM : RwM Rw := RwM.bind (RdM.lift Rd.text) fun a => RwM.bind (RdM.lift Rd.text) fun b => RwM.ret ⟨a, b⟩
def msgM : RwM Msg := RdM.lift Rd.msg
def objM : RwM Ob := RwM.bind (RdM.lift Rd.text) fun a => RwM.bind (RdM.lift Rd.int) fun b => RwM.bind (RdM.lift Rd.int) fun c => RwM.bind (lsM rwM) fun d => RwM.bind (lsM msgM) fun e => RwM.bind (lsM msgM) fun f => RwM.ret ⟨a, b, c, d, e, f⟩
def sttM : RwM Stt := RwM.bind (RdM.lift Rd.int) fun a => RwM.bind (lsM objM) fun l => RwM.ret ⟨a, l⟩
def imgRead (b : List UInt8) : Option Stt := let s := sttM (⟨b, false⟩, false)
 if (!s.2.1.done || (s.2.2 || !s.1.right)) = true then none else some s.1
def PreW {α : Type} (r : RwM α) : Prop := (∀ s, s.1.f = true → (r s).2.1.f = true) ∧ ∀ s t, Pre s.1 t.1 → (r t).2.1.f = false → Pre (r s).2.1 (r t).2.1 ∧ ((r s).2.1.f = true ∨ (r s).1 = (r t).1)
theorem PreW.ret {α : Type} (a : α) : PreW (RwM.ret a) := ⟨fun _ h => h, fun _ _ h _ => ⟨h, .inr rfl⟩⟩
theorem PreW.lift {α : Type} {r : RdM α} (h : PreOK r) : PreW (RdM.lift r) := ⟨fun s hs => h.1 s.1 hs, fun s t hp ht => h.2 s.1 t.1 hp ht⟩
theorem PreW.bind {α β : Type} {r : RwM α} {k : α → RwM β} (h : PreW r) (hk : ∀ a, PreW (k a)) : PreW (RwM.bind r k) := by
 refine ⟨fun s hs => (hk _).1 _ (h.1 s hs), fun s t hp ht => ?_⟩
 have ht : (k (r t).1 (r t).2).2.1.f = false := ht
 have h1 : (r t).2.1.f = false := by
  cases hf : (r t).2.1.f with
  | false => rfl
  | true => rw [(hk _).1 _ hf] at ht; cases ht
 obtain ⟨p1, p2⟩ := h.2 s t hp h1
 show Pre (k (r s).1 (r s).2).2.1 (k (r t).1 (r t).2).2.1 ∧ _
 rcases p2 with hf | he
 ·have : (k (r s).1 (r s).2).2.1.f = true := (hk _).1 _ hf
  exact ⟨.inl this, .inl this⟩
 ·have := (hk (r t).1).2 _ _ p1 ht
  rw [← he] at this
  refine ⟨by rw [← he]; exact this.1, ?_⟩
  rcases this.2 with h | h
  ·exact .inl h
  ·exact .inr (by show (k (r s).1 (r s).2).1 = (k (r t).1 (r t).2).1; rw [← he]; exact h)
theorem PreW.go {α : Type} {one : RwM α} (h : PreW one) : ∀ (n : Nat) (acc : List α), PreW (lsGo one n acc)
 | 0, acc => PreW.ret acc
 | n + 1, acc => by
  have hb : PreW (RwM.bind one fun x => lsGo one n (acc ++ [x])) := h.bind fun x => PreW.go h n _
  refine ⟨fun s hs => by rw [lsGo_f _ _ _ _ hs]; exact hs, fun s t hp ht => ?_⟩
  have htf : ¬ t.1.f = true := fun hf => by rw [lsGo_f _ _ _ _ hf] at ht; rw [hf] at ht; cases ht
  by_cases hs : s.1.f = true
  ·rw [lsGo_f _ _ _ s hs]
   exact ⟨.inl hs, .inl hs⟩
  ·rw [lsGo_succ, if_neg htf] at ht
   rw [lsGo_succ, lsGo_succ, if_neg hs, if_neg htf]
   exact hb.2 s t hp ht
theorem PreW.cnt : PreW cntM := ⟨fun s hs => pre_int.1 s.1 hs, fun s t hp ht => pre_int.2 s.1 t.1 hp ht⟩
theorem PreW.ls {α : Type} {one : RwM α} (h : PreW one) : PreW (lsM one) := PreW.cnt.bind fun _ => h.go _ _
theorem preW_rw : PreW rwM := (PreW.lift pre_text).bind fun _ => (PreW.lift pre_text).bind fun _ => .ret _
theorem preW_msg : PreW msgM := PreW.lift pre_msg
theorem lsGo_app {α : Type} {one : RwM α} {enc : α → List UInt8} : ∀ (l : List α), (∀ x ∈ l, ∀ r w, one (⟨enc x ++ r, false⟩, w) = (x, (⟨r, false⟩, w))) → ∀ acc r w, lsGo one l.length acc (⟨l.flatMap enc ++ r, false⟩, w) = (acc ++ l, (⟨r, false⟩, w))
 | [], _, acc, r, w => by simp [lsGo_zero]
 | x :: l, h, acc, r, w => by
  have q : (x :: l).flatMap enc ++ r = enc x ++ (l.flatMap enc ++ r) := by simp
  rw [q, List.length_cons, lsGo_succ, if_neg (by simp), h x List.mem_cons_self]
  have := lsGo_app l (fun y hy => h y (List.mem_cons_of_mem _ hy)) (acc ++ [x]) r w
  rw [this]
  simp
theorem lsM_app {α : Type} {one : RwM α} {enc : α → List UInt8} (l : List α) (hl : (l.length : Int) ≤ 9223372036854775807) (h : ∀ x ∈ l, ∀ r w, one (⟨enc x ++ r, false⟩, w) = (x, (⟨r, false⟩, w))) (r : List UInt8) (w : Bool) : lsM one (⟨wInt l.length ++ (l.flatMap enc ++ r), false⟩, w) = (l, (⟨r, false⟩, w)) := by
 rw [lsM_eq]
 dsimp only
 rw [Rd.int_app tO hl]
 dsimp only
 rw [Int.toNat_natCast, show decide ((l.length : Int) < 0) = false from decide_eq_false tO, Bool.or_false, lsGo_app l h]
 rfl
theorem rwM_app (x : Rw) (h1 : x.key.size ≤ 65535) (h2 : x.value.size ≤ 65535) (r : List UInt8) (w : Bool) : rwM (⟨x.bytes ++ r, false⟩, w) = (x, (⟨r, false⟩, w)) := by
 unfold rwM Rw.bytes RwM.bind RdM.lift RwM.ret
 rw [List.append_assoc]
 simp only [Rd.text_app' _ h1, Rd.text_app' _ h2]
theorem msgM_app (x : Msg) (hs : x.sm) (h1 : x.corr.size ≤ 65535) (h2 : x.body.size ≤ 65535) (r : List UInt8) (w : Bool) : msgM (⟨x.bytes ++ r, false⟩, w) = (x, (⟨r, false⟩, w)) := by
 obtain ⟨a, b, c, d, e⟩ := hs
 have := Rd.msg_appC x ⟨a, b, c, trivial, by omega, by omega⟩ r
 have e : x.tcut = x := by rw [msg_ext]; exact ⟨rfl, rfl, rfl, rfl, tcut_eq h1, tcut_eq h2⟩
 unfold msgM RdM.lift
 simp only [this, e]
theorem mright_small {m : Msg} (h : m.right = true) : m.corr.size ≤ 100 ∧ m.body.size ≤ 100 := by
 simp [Msg.right] at h; omega
theorem rright_small {r : Rw} (h : r.right = true) : r.key.size ≤ 100 ∧ r.value.size ≤ 100 := by
 simp [Rw.right, rwKey] at h; omega
theorem ob_small {o : Ob} (h : o.right = true) : o.name.size ≤ 100 ∧ (∀ r ∈ o.rows, r.key.size ≤ 100 ∧ r.value.size ≤ 100) ∧ (∀ m ∈ o.msgs, m.corr.size ≤ 100 ∧ m.body.size ≤ 100) ∧ (∀ m ∈ o.dead, m.corr.size ≤ 100 ∧ m.body.size ≤ 100) := by
 unfold Ob.right at h
 by_cases hk : o.kind = 1
 ·rw [if_pos hk] at h
  simp only [Bool.and_eq_true, decide_eq_true_eq, List.all_eq_true] at h
  obtain ⟨⟨a, b⟩, ⟨⟨c, d⟩, e⟩, f⟩ := h
  have hm : o.msgs = [] := List.length_eq_zero_iff.1 tO
  have hd : o.dead = [] := List.length_eq_zero_iff.1 tO
  have := effName_size a
  exact ⟨by omega, fun r hr => rright_small (f r hr), by simp [hm], by simp [hd]⟩
 ·rw [if_neg hk] at h
  simp only [Bool.and_eq_true, decide_eq_true_eq, List.all_eq_true] at h
  obtain ⟨⟨a, b⟩, ⟨⟨c, d⟩, e⟩, f⟩ := h
  have hr : o.rows = [] := List.length_eq_zero_iff.1 tO
  have := effName_size a
  exact ⟨by omega, by simp [hr], fun m hm => mright_small (e m hm), fun m hm => mright_small (f m hm).2⟩
theorem objM_app (o : Ob) (hr : o.right = true) (hs : o.sm) (r : List UInt8) (w : Bool) : objM (⟨o.bytes ++ r, false⟩, w) = (o, (⟨r, false⟩, w)) := by
 obtain ⟨s1, s2, s3, s4⟩ := ob_small hr
 obtain ⟨_, t2, t3, t4, t5, t6, t7, t8, t9⟩ := hs
 have e : o.bytes ++ r = wText o.name ++ (wInt o.kind ++ (wInt o.limit ++ (wInt o.rows.length ++ (o.rows.flatMap Rw.bytes ++ (wInt o.msgs.length ++ (o.msgs.flatMap Msg.bytes ++ (wInt o.dead.length ++ (o.dead.flatMap Msg.bytes ++ r)))))))) := by
  simp [Ob.bytes, msgsBytes]
 have hR : ∀ x ∈ o.rows, ∀ r w, rwM (⟨x.bytes ++ r, false⟩, w) = (x, (⟨r, false⟩, w)) := fun x hx r w => rwM_app x (by have := (s2 x hx).1; omega) (by have := (s2 x hx).2; omega) r w
 have hM : ∀ x ∈ o.msgs, ∀ r w, msgM (⟨x.bytes ++ r, false⟩, w) = (x, (⟨r, false⟩, w)) := fun x hx r w => msgM_app x (t5 x hx) (by have := (s3 x hx).1; omega) (by have := (s3 x hx).2; omega) r w
 have hD : ∀ x ∈ o.dead, ∀ r w, msgM (⟨x.bytes ++ r, false⟩, w) = (x, (⟨r, false⟩, w)) := fun x hx r w => msgM_app x (t6 x hx) (by have := (s4 x hx).1; omega) (by have := (s4 x hx).2; omega) r w
 rw [e]
 unfold objM RwM.bind RdM.lift RwM.ret
 simp only [Rd.text_app' _ (show o.name.size ≤ 65535 by omega), Rd.int_app t2.1 t2.2, Rd.int_app t3.1 t3.2, lsM_app _ tO hR, lsM_app _ tO hM, lsM_app _ tO hD]
theorem stt_obs {s : Stt} (h : s.right = true) : ∀ o ∈ s.objs, o.right = true := by
 unfold Stt.right at h
 simp only [Bool.and_eq_true, List.all_eq_true] at h
 exact fun o ho => h.1.1.2 o ho
theorem imgRead_bytes {s : Stt} (h : s.right = true) (hn : -9223372036854775808 ≤ s.next ∧ s.next ≤ 9223372036854775807) (hl : (s.objs.length : Int) ≤ 9223372036854775807) (hs : ∀ o ∈ s.objs, o.sm) (r : List UInt8) : imgRead (s.bytes ++ r) = if r = [] then some s else none := by
 have e : s.bytes ++ r = wInt s.next ++ (wInt s.objs.length ++ (s.objs.flatMap Ob.bytes ++ r)) := by simp [Stt.bytes]
 have hM : sttM (⟨s.bytes ++ r, false⟩, false) = (s, (⟨r, false⟩, false)) := by
  rw [e]
  unfold sttM RwM.bind RdM.lift RwM.ret
  simp only [Rd.int_app hn.1 hn.2, lsM_app _ hl (fun o ho r w => objM_app o (stt_obs h o ho) (hs o ho) r w)]
 unfold imgRead
 rw [hM]
 dsimp only
 rw [h]
 cases r with
 | nil => simp [Rd.done]
 | cons c r => simp [Rd.done]
theorem flatSum_le {α : Type} {f : α → List UInt8} {g : α → Nat} : ∀ (l : List α), (∀ x ∈ l, (f x).length ≤ g x) → (l.flatMap f).length ≤ (l.map g).sum
 | [], _ => by simp
 | x :: l, h => by
  have h1 := h x List.mem_cons_self
  have h2 := flatSum_le l (fun y hy => h y (List.mem_cons_of_mem _ hy))
  simp only [List.flatMap_cons, List.length_append, List.map_cons, List.sum_cons]
  omega
theorem bytes_le_size (s : Stt) : s.bytes.length ≤ s.size := by
 have h0 : ∀ l : List Msg, (msgsBytes l).length ≤ 8 + (l.map Msg.wt).sum := fun l => by
  have := flatSum_le (f := Msg.bytes) (g := Msg.wt) l (fun m _ => by
   unfold Msg.bytes Msg.wt
   simp only [List.length_append, wI, wT, wF]
   omega)
  unfold msgsBytes
  rw [List.length_append, wI]; omega
 have h1 : ∀ o : Ob, o.bytes.length ≤ o.size := fun o => by
  have a := flatSum_le (f := Rw.bytes) (g := Rw.size) o.rows (fun m _ => by
   unfold Rw.bytes Rw.size
   simp only [List.length_append, wT]
   omega)
  have b := h0 o.msgs
  have c := h0 o.dead
  unfold Ob.bytes Ob.size
  simp only [List.length_append, wI, wT]
  omega
 have := flatSum_le (f := Ob.bytes) (g := Ob.size) s.objs (fun o _ => h1 o)
 unfold Stt.bytes Stt.size
 simp only [List.length_append, wI]
 omega
theorem Rd.take_le (s : Rd) (n : Nat) : (s.take n).2.bs.length ≤ s.bs.length := by
 unfold Rd.take
 split
 ·exact Nat.le_refl _
 ·split
  ·exact Nat.zero_le _
  ·simp
theorem Rd.take_lt (s : Rd) (n : Nat) : (s.take n).2.f = true ∨ (s.take n).2.bs.length + n ≤ s.bs.length := by
 unfold Rd.take
 split
 ·exact .inl (by assumption)
 ·split
  ·exact .inl rfl
  ·rename_i h
   right
   simp; omega
theorem Rd.int_snd (s : Rd) : s.int.2 = (s.take 8).2 := s.num_snd 8
def Down {α : Type} (r : RwM α) : Prop := ∀ s, (r s).2.1.bs.length ≤ s.1.bs.length
def Prog {α : Type} (r : RwM α) : Prop := Down r ∧ ∀ s, (r s).2.1.f = true ∨ (r s).2.1.bs.length < s.1.bs.length
theorem Down.ret {α : Type} (a : α) : Down (RwM.ret a) := fun _ => Nat.le_refl _
theorem Down.bind {α β : Type} {r : RwM α} {k : α → RwM β} (h : Down r) (hk : ∀ a, Down (k a)) : Down (RwM.bind r k) := fun s => Nat.le_trans (hk _ _) (h s)
theorem Prog.bind {α β : Type} {r : RwM α} {k : α → RwM β} (h : Prog r) (hk : ∀ a, Down (k a)) (hp : ∀ a, PreW (k a)) : Prog (RwM.bind r k) := by
 refine ⟨h.1.bind hk, fun s => ?_⟩
 rcases h.2 s with hf | hl
 ·exact .inl ((hp _).1 _ hf)
 ·exact .inr (Nat.lt_of_le_of_lt (hk _ _) hl)
theorem prog_int : Prog (RdM.lift Rd.int) := ⟨fun s => by show s.1.int.2.bs.length ≤ _; rw [Rd.int_snd]; exact s.1.take_le 8, fun s => by
 show s.1.int.2.f = true ∨ s.1.int.2.bs.length < _
 rw [Rd.int_snd]; exact (s.1.take_lt 8).imp id (fun h => by omega)⟩
theorem Rd.text_len (s : Rd) : s.text.2.bs.length ≤ s.bs.length := by
 rw [Rd.text_snd]
 exact Nat.le_trans (Rd.take_le _ _) (by rw [Rd.num_snd]; exact s.take_le 2)
theorem prog_text : Prog (RdM.lift Rd.text) := ⟨fun s => s.1.text_len, fun s => by
 show s.1.text.2.f = true ∨ s.1.text.2.bs.length < _
 rw [Rd.text_snd]
 rcases s.1.take_lt 2 with hf | hl
 ·rw [← Rd.num_snd] at hf
  exact .inl (Rd.take_f hf _)
 ·rw [← Rd.num_snd] at hl
  exact .inr (by have := Rd.take_le (s.1.num 2).2 (s.1.num 2).1.toNat; omega)⟩
theorem down_flag : Down (RdM.lift Rd.flag) := fun s => by
 show s.1.flag.2.bs.length ≤ _
 have h := s.1.take_le 1
 unfold Rd.flag
 split
 ·rename_i b s' e
  rw [e] at h
  split
  ·exact Nat.zero_le _
  ·exact h
 ·rename_i e1 s' e2 e
  rw [e] at h
  exact h
theorem Prog.ls {α : Type} {one : RwM α} (h : Down one) : Down (lsM one) := by
 have go : ∀ (n : Nat) (acc : List α), Down (lsGo one n acc) := fun n => by
  induction n with
  | zero => exact fun acc => Down.ret acc
  | succ n ih =>
   intro acc s
   rw [lsGo_succ]
   split
   ·exact Nat.le_refl _
   ·exact Nat.le_trans (ih _ _) (h s)
 have hc : Down cntM := fun s => prog_int.1 s
 exact hc.bind fun _ => go _ _
theorem prog_rw : Prog rwM := prog_text.bind (fun _ => prog_text.1.bind fun _ => .ret _) (fun _ => (PreW.lift pre_text).bind fun _ => .ret _)
theorem prog_msg : Prog msgM := by
 have e : (RdM.lift Rd.msgT : RwM Msg) = RwM.bind (RdM.lift Rd.int) fun a => RwM.bind (RdM.lift Rd.int) fun b => RwM.bind (RdM.lift Rd.int) fun c => RwM.bind (RdM.lift Rd.flag) fun d => RwM.bind (RdM.lift Rd.text) fun e => RwM.bind (RdM.lift Rd.text) fun f => RwM.ret ⟨a, b, c, d, e, f⟩ := rfl
 have h : Prog (RdM.lift Rd.msgT : RwM Msg) := by
  rw [e]
  exact prog_int.bind (fun _ => prog_int.1.bind fun _ => prog_int.1.bind fun _ => down_flag.bind fun _ => prog_text.1.bind fun _ => prog_text.1.bind fun _ => .ret _)
   (fun _ => (PreW.lift pre_int).bind fun _ => (PreW.lift pre_int).bind fun _ => (PreW.lift pre_flag).bind fun _ => (PreW.lift pre_text).bind fun _ => (PreW.lift pre_text).bind fun _ => .ret _)
 have hs : ∀ s : RdW, (msgM s).2.1 = ((RdM.lift Rd.msgT : RwM Msg) s).2.1 := fun s => s.1.msg_snd
 exact ⟨fun s => by rw [hs]; exact h.1 s, fun s => by rw [hs]; exact h.2 s⟩
theorem prog_obj : Prog objM := prog_text.bind (fun _ => prog_int.1.bind fun _ => prog_int.1.bind fun _ => (Prog.ls prog_rw.1).bind fun _ => (Prog.ls prog_msg.1).bind fun _ => (Prog.ls prog_msg.1).bind fun _ => .ret _)
 (fun _ => (PreW.lift pre_int).bind fun _ => (PreW.lift pre_int).bind fun _ => preW_rw.ls.bind fun _ => preW_msg.ls.bind fun _ => preW_msg.ls.bind fun _ => .ret _)
def Gs {α : Type} (P : α → Prop) (N : Nat) (acc : List α) (s : RdW) : Prop := acc.length + s.1.bs.length ≤ N + (if s.1.f = true then 1 else 0) ∧ ∀ x ∈ acc, P x
theorem Gs.step {α : Type} {P : α → Prop} {N : Nat} {one : RwM α} (hp : Prog one) (hP : ∀ s : RdW, s.1.bs.length ≤ N → P (one s).1) {acc : List α} {s : RdW} (hf : s.1.f = false) (h : Gs P N acc s) : Gs P N (acc ++ [(one s).1]) (one s).2 := by
 obtain ⟨h1, h2⟩ := h
 rw [hf, if_neg (by simp)] at h1
 refine ⟨?_, fun x hx => ?_⟩
 ·rw [List.length_append]
  have hd := hp.1 s
  rcases hp.2 s with he | hl
  ·rw [if_pos he]
   show acc.length + 1 + _ ≤ _
   omega
  ·show acc.length + 1 + _ ≤ _
   omega
 ·rcases List.mem_append.1 hx with h | h
  ·exact h2 x h
  ·rw [List.mem_singleton.1 h]
   exact hP s tO
theorem Gs.nil {α : Type} {P : α → Prop} {N : Nat} {s : RdW} (h : s.1.bs.length ≤ N) : Gs P N [] (s.1.int.2, s.2 || decide (s.1.int.1 < 0)) := by
 refine ⟨?_, fun x hx => by cases hx⟩
 have := prog_int.1 s
 have h2 : s.1.int.2.bs.length ≤ s.1.bs.length := this
 show 0 + s.1.int.2.bs.length ≤ _
 omega
theorem Gs.go {α : Type} {P : α → Prop} {N : Nat} {one : RwM α} (hp : Prog one) (hP : ∀ s : RdW, s.1.bs.length ≤ N → P (one s).1) : ∀ (n : Nat) (acc : List α) (s : RdW), Gs P N acc s → Gs P N (lsGo one n acc s).1 (lsGo one n acc s).2
 | 0, _, _, h => h
 | n + 1, acc, s, h => by
  rw [lsGo_succ]
  split
  ·exact h
  ·exact Gs.go hp hP n _ _ (h.step hp hP (by simpa using ‹¬ s.1.f = true›))
theorem Gs.ls {α : Type} {P : α → Prop} {N : Nat} {one : RwM α} (hp : Prog one) (hP : ∀ s : RdW, s.1.bs.length ≤ N → P (one s).1) (s : RdW) (h : s.1.bs.length ≤ N) : Gs P N (lsM one s).1 (lsM one s).2 := Gs.go hp hP _ _ _ (Gs.nil h)
theorem Rd.int_rng (s : Rd) : -9223372036854775808 ≤ s.int.1 ∧ s.int.1 ≤ 9223372036854775807 := by
 show _ ≤ i64 _ ∧ i64 _ ≤ _
 unfold i64; omega
theorem Rd.text_size (s : Rd) : s.text.1.size ≤ 65535 := by
 have h := s.num_lt 2
 have h0 := s.num_ge 2
 unfold Rd.text
 split
 ·exact Nat.zero_le _
 ·rename_i l s' e
  have hl : l.length ≤ (s.num 2).1.toNat := by
   unfold Rd.take at e
   split at e
   ·cases e
   ·split at e
    ·cases e
    ·rw [← Option.some.inj (Prod.mk.inj e).1, List.length_take]; omega
  show l.toArray.size ≤ _
  rw [List.size_toArray]
  omega
theorem rwM_sm (s : RdW) : (rwM s).1.sm := by
 have a := s.1.text_size
 have b := s.1.text.2.text_size
 show s.1.text.1.size ≤ _ ∧ s.1.text.2.text.1.size ≤ _
 omega
theorem Rd.msgT_sm (s : Rd) : s.msgT.1.sm := by
 unfold Rd.msgT
 exact ⟨Rd.int_rng _, Rd.int_rng _, Rd.int_rng _, Nat.le_trans (Rd.text_size _) tO, Nat.le_trans (Rd.text_size _) tO⟩
theorem msgM_sm (s : RdW) : (msgM s).1.sm := by
 show s.1.msg.1.sm
 unfold Rd.msg
 split
 ·have h : Msg.zero.sm := ⟨by decide, by decide, by decide, by decide, by decide⟩
  exact h
 ·exact s.1.msgT_sm
theorem objM_sm (s : RdW) (h : s.1.bs.length ≤ 10000000000) : (objM s).1.sm ∧ (objM s).1.rows.length ≤ 10000000001 ∧ (objM s).1.msgs.length ≤ 10000000001 ∧ (objM s).1.dead.length ≤ 10000000001 := by
 have e : ∃ s0 : RdW, s0 = (s.1.text.2.int.2.int.2, s.2) := ⟨_, rfl⟩
 obtain ⟨s0, hs0⟩ := e
 have l0 : s0.1.bs.length ≤ 10000000000 := by
  rw [hs0]
  have a := s.1.text_len
  have b := prog_int.1 (s.1.text.2, s.2)
  have c := prog_int.1 (s.1.text.2.int.2, s.2)
  exact Nat.le_trans c (Nat.le_trans b (Nat.le_trans a h))
 have e : objM s = (⟨s.1.text.1, s.1.text.2.int.1, s.1.text.2.int.2.int.1, (lsM rwM s0).1, (lsM msgM (lsM rwM s0).2).1, (lsM msgM (lsM msgM (lsM rwM s0).2).2).1⟩, (lsM msgM (lsM msgM (lsM rwM s0).2).2).2) := by rw [hs0]; rfl
 have g1 := Gs.ls (P := Rw.sm) (N := 10000000000) prog_rw (fun s _ => rwM_sm s) s0 l0
 have l1 := Nat.le_trans (Prog.ls prog_rw.1 s0) l0
 have g2 := Gs.ls (P := Msg.sm) (N := 10000000000) prog_msg (fun s _ => msgM_sm s) _ l1
 have l2 := Nat.le_trans (Prog.ls prog_msg.1 (lsM rwM s0).2) l1
 have g3 := Gs.ls (P := Msg.sm) (N := 10000000000) prog_msg (fun s _ => msgM_sm s) _ l2
 have k : ∀ {α : Type} {P : α → Prop} {l : List α} {s : RdW}, Gs P 10000000000 l s → l.length ≤ 10000000001 := fun {α P l s} h => by
  have := h.1
  split at this <;> omega
 have k1 := k g1; have k2 := k g2; have k3 := k g3
 rw [e]
 exact ⟨⟨Nat.le_trans (Rd.text_size _) tO, Rd.int_rng _, Rd.int_rng _, g1.2, g2.2, g3.2, by show (lsM rwM s0).1.length ≤ _; omega, by show (lsM msgM _).1.length ≤ _; omega, by show (lsM msgM _).1.length ≤ _; omega⟩, k1, k2, k3⟩
end Go.Proofs.YtkbhldicnamcdaaGreat.L
namespace Go.Proofs.YtkbhldicnamcdaaGreat.L
open Go Go.Proofs
theorem ofLe_inj : ∀ {l m : List UInt8}, l.length = m.length → ofLe l = ofLe m → l = m
 | [], [], _, _ => rfl
 | [], _ :: _, h, _ => by simp at h
 | _ :: _, [], h, _ => by simp at h
 | a :: l, b :: m, h, e => by
  have e : (a.toNat : Int) + 256 * ofLe l = b.toNat + 256 * ofLe m := e
  have ha := a.toNat_lt
  have hb := b.toNat_lt
  have h1 : a.toNat = b.toNat := by omega
  have h2 : ofLe l = ofLe m := by omega
  rw [UInt8.toNat_inj.1 h1, ofLe_inj (by simpa using h) h2]
theorem leb_ofLe (l : List UInt8) : leb (ofLe l) l.length = l := by
 refine ofLe_inj (leb_length _ _) ?_
 rw [ofLe_leb _ (ofLe_nonneg l)]
 exact Int.emod_eq_of_lt (ofLe_nonneg l) (ofLe_lt l)
theorem Rd.take_can {s : Rd} {n : Nat} (h : (s.take n).2.f = false) : s.f = false ∧ n ≤ s.bs.length ∧ s.take n = (some (s.bs.take n), ⟨s.bs.drop n, false⟩) := by
 unfold Rd.take at h ⊢
 split at h
 ·rename_i hf
  have h : s.f = false := h
  rw [h] at hf; cases hf
 ·rename_i hf
  split at h
  ·cases h
  ·rename_i hl
   exact ⟨by simpa using hf, by omega, by rw [if_neg hf, if_neg hl]⟩
def Can {α : Type} (r : RdM α) (enc : α → List UInt8) : Prop := ∀ s : Rd, (r s).2.f = false → s.f = false ∧ s.bs = enc (r s).1 ++ (r s).2.bs
theorem can_int : Can (Rd.int : RdM Int) wInt := fun s h => by
 have h : (s.num 8).2.f = false := h
 rw [Rd.num_snd] at h
 obtain ⟨h1, h2, h3⟩ := Rd.take_can h
 have hn : s.num 8 = (ofLe (s.bs.take 8), ⟨s.bs.drop 8, false⟩) := by unfold Rd.num; rw [h3]
 refine ⟨h1, ?_⟩
 show s.bs = wInt (i64 (s.num 8).1) ++ (s.num 8).2.bs
 rw [hn]
 have hl : (s.bs.take 8).length = 8 := by rw [List.length_take]; omega
 have h0 := ofLe_nonneg (s.bs.take 8)
 have hlt := ofLe_lt (s.bs.take 8)
 rw [hl] at hlt
 have hlt : ofLe (s.bs.take 8) < 18446744073709551616 := hlt
 have hu : u64 (i64 (ofLe (s.bs.take 8))) = ofLe (s.bs.take 8) := by unfold u64 i64; omega
 have hb := leb_ofLe (s.bs.take 8)
 rw [hl] at hb
 unfold wInt
 rw [hu, hb, List.take_append_drop]
theorem can_text : Can (Rd.text : RdM ByteArray) wText := fun s h => by
 have h : s.text.2.f = false := h
 rw [Rd.text_snd] at h
 obtain ⟨h1, h2, h3⟩ := Rd.take_can h
 have h1' := h1
 rw [Rd.num_snd] at h1'
 obtain ⟨g1, g2, g3⟩ := Rd.take_can h1'
 have hn : s.num 2 = (ofLe (s.bs.take 2), ⟨s.bs.drop 2, false⟩) := by unfold Rd.num; rw [g3]
 refine ⟨g1, ?_⟩
 rw [hn] at h2 h3
 dsimp only at h2 h3
 have ht : s.text = (⟨((s.bs.drop 2).take (ofLe (s.bs.take 2)).toNat).toArray⟩, ⟨(s.bs.drop 2).drop (ofLe (s.bs.take 2)).toNat, false⟩) := by
  unfold Rd.text
  rw [hn]
  dsimp only
  rw [h3]
 show s.bs = wText s.text.1 ++ s.text.2.bs
 rw [ht]
 dsimp only
 have hl : (s.bs.take 2).length = 2 := by rw [List.length_take]; omega
 have h0 := ofLe_nonneg (s.bs.take 2)
 have hlt := ofLe_lt (s.bs.take 2)
 rw [hl] at hlt
 have hlt : ofLe (s.bs.take 2) < 65536 := hlt
 have hb := leb_ofLe (s.bs.take 2)
 rw [hl] at hb
 obtain ⟨n, hN⟩ : ∃ n : Nat, ofLe (s.bs.take 2) = (n : Int) := ⟨(ofLe (s.bs.take 2)).toNat, by omega⟩
 rw [hN] at hb hlt h2 ⊢
 rw [Int.toNat_natCast] at h2 ⊢
 have hsz : (⟨((s.bs.drop 2).take n).toArray⟩ : ByteArray).size = n := by
  show ((s.bs.drop 2).take n).toArray.size = n
  rw [List.size_toArray, List.length_take]; omega
 have hby : bytesOf ⟨((s.bs.drop 2).take n).toArray⟩ = (s.bs.drop 2).take n := rfl
 have h65 : ((s.bs.drop 2).take n).take 65535 = (s.bs.drop 2).take n := List.take_of_length_le (by rw [List.length_take]; omega)
 unfold wText
 rw [hsz, Nat.min_eq_left tO, hb, hby, h65, List.append_assoc, List.take_append_drop, List.take_append_drop]
theorem can_flag : Can (Rd.flag : RdM Bool) wFlag := fun s h => by
 have h : s.flag.2.f = false := h
 by_cases ht : (s.take 1).2.f = false
 ·obtain ⟨h1, h2, h3⟩ := Rd.take_can ht
  cases hb : s.bs with
  | nil => rw [hb] at h2; simp at h2
  | cons b t =>
   rw [hb] at h3
   have hfl : s.flag = if 1 < b.toNat then (false, ⟨[], true⟩) else (b.toNat == 1, ⟨t, false⟩) := by unfold Rd.flag; rw [h3]; rfl
   refine ⟨h1, ?_⟩
   show b :: t = wFlag s.flag.1 ++ s.flag.2.bs
   rw [hfl] at h ⊢
   split at h
   ·cases h
   ·rename_i hc
    rw [if_neg hc]
    have hb01 : b.toNat = 0 ∨ b.toNat = 1 := by omega
    rcases hb01 with e | e
    ·rw [show b = 0 from UInt8.toNat_inj.1 e]; rfl
    ·rw [show b = 1 from UInt8.toNat_inj.1 e]; rfl
 ·exfalso
  have ht : (s.take 1).2.f = true := by simpa using ht
  unfold Rd.flag at h
  split at h
  ·rename_i b s' e
   rw [e] at ht
   split at h
   ·cases h
   ·rw [ht] at h; cases h
  ·rename_i x s' hx e
   rw [e] at ht
   rw [ht] at h; cases h
theorem can_msg : Can (Rd.msg : RdM Msg) Msg.bytes := fun s h => by
 have hT : s.msgT.2.f = false := by rw [← Rd.msg_snd]; exact h
 have hm : s.msg = s.msgT := by unfold Rd.msg; rw [if_neg (by rw [hT]; decide)]
 show s.f = false ∧ s.bs = (s.msg.1).bytes ++ s.msg.2.bs
 rw [hm]
 obtain ⟨f1, f2⟩ := can_text (((((s.int).2.int).2.int).2.flag).2.text).2 hT
 obtain ⟨e1, e2⟩ := can_text ((((s.int).2.int).2.int).2.flag).2 f1
 obtain ⟨d1, d2⟩ := can_flag (((s.int).2.int).2.int).2 e1
 obtain ⟨c1, c2⟩ := can_int ((s.int).2.int).2 d1
 obtain ⟨b1, b2⟩ := can_int (s.int).2 c1
 obtain ⟨a1, a2⟩ := can_int s b1
 refine ⟨a1, ?_⟩
 rw [a2, b2, c2, d2, e2, f2]
 unfold Msg.bytes Rd.msgT
 simp only [List.append_assoc]
def CanW {α : Type} (r : RwM α) (enc : α → List UInt8) : Prop := ∀ s : RdW, (r s).2.1.f = false → (r s).2.2 = false → s.1.f = false ∧ s.2 = false ∧ s.1.bs = enc (r s).1 ++ (r s).2.1.bs
theorem Can.lift {α : Type} {r : RdM α} {enc : α → List UInt8} (h : Can r enc) : CanW (RdM.lift r) enc := fun s hf hw => ⟨(h s.1 hf).1, hw, (h s.1 hf).2⟩
theorem can_go {α : Type} {one : RwM α} {enc : α → List UInt8} (h : CanW one enc) : ∀ (n : Nat) (acc : List α) (s : RdW), (lsGo one n acc s).2.1.f = false → (lsGo one n acc s).2.2 = false →
  s.1.f = false ∧ s.2 = false ∧ ∃ l, (lsGo one n acc s).1 = acc ++ l ∧ l.length = n ∧ s.1.bs = l.flatMap enc ++ (lsGo one n acc s).2.1.bs
 | 0, acc, s, hf, hw => ⟨hf, hw, [], by simp [lsGo_zero], rfl, by simp [lsGo_zero]⟩
 | n + 1, acc, s, hf, hw => by
  by_cases hs : s.1.f = true
  ·rw [lsGo_f _ _ _ _ hs] at hf; rw [hs] at hf; cases hf
  ·have e := lsGo_succ one n acc s
   rw [if_neg hs] at e
   rw [e] at hf hw ⊢
   obtain ⟨h1, h2, l, h3, h4, h5⟩ := can_go h n _ _ hf hw
   obtain ⟨g1, g2, g3⟩ := h s h1 h2
   exact ⟨g1, g2, (one s).1 :: l, by rw [h3]; simp, by simp [h4], by rw [g3, h5]; simp⟩
theorem CanW.ls {α : Type} {one : RwM α} {enc : α → List UInt8} (h : CanW one enc) : CanW (lsM one) (fun l => wInt l.length ++ l.flatMap enc) := fun s hf hw => by
 rw [lsM_eq] at hf hw ⊢
 obtain ⟨h1, h2, l, h3, h4, h5⟩ := can_go h _ _ _ hf hw
 have h2 : (s.2 || decide (s.1.int.1 < 0)) = false := h2
 rw [Bool.or_eq_false_iff] at h2
 have hn : ¬ s.1.int.1 < 0 := of_decide_eq_false h2.2
 obtain ⟨g1, g2⟩ := can_int s.1 h1
 refine ⟨g1, h2.1, ?_⟩
 rw [h3, List.nil_append]
 dsimp only
 rw [h4, show (((s.1.int.1.toNat : Nat)) : Int) = s.1.int.1 by omega, List.append_assoc, ← h5]
 exact g2
theorem canw_rw : CanW rwM Rw.bytes := fun s hf hw => by
 obtain ⟨b1, b2⟩ := can_text (s.1.text).2 hf
 obtain ⟨a1, a2⟩ := can_text s.1 b1
 refine ⟨a1, hw, ?_⟩
 rw [a2, b2]
 unfold Rw.bytes rwM RwM.bind RdM.lift RwM.ret
 simp only [List.append_assoc]
theorem canw_msg : CanW msgM Msg.bytes := can_msg.lift
theorem canw_obj : CanW objM Ob.bytes := fun s hf hw => by
 obtain ⟨s1, hs1⟩ : ∃ s1 : RdW, s1 = (s.1.text.2.int.2.int.2, s.2) := ⟨_, rfl⟩
 obtain ⟨s2, hs2⟩ : ∃ s2, s2 = (lsM rwM s1).2 := ⟨_, rfl⟩
 obtain ⟨s3, hs3⟩ : ∃ s3, s3 = (lsM msgM s2).2 := ⟨_, rfl⟩
 have hob : objM s = (⟨s.1.text.1, s.1.text.2.int.1, s.1.text.2.int.2.int.1, (lsM rwM s1).1, (lsM msgM s2).1, (lsM msgM s3).1⟩, (lsM msgM s3).2) := by subst hs3; subst hs2; subst hs1; rfl
 rw [hob] at hf hw ⊢
 dsimp only at hf hw ⊢
 obtain ⟨d1, d2, d3⟩ := canw_msg.ls s3 hf hw
 rw [hs3] at d1 d2
 obtain ⟨c1, c2, c3⟩ := canw_msg.ls s2 d1 d2
 rw [hs2] at c1 c2
 obtain ⟨b1, b2, b3⟩ := canw_rw.ls s1 c1 c2
 rw [hs1] at b1 b2
 obtain ⟨a1, a2⟩ := can_int s.1.text.2.int.2 b1
 obtain ⟨z1, z2⟩ := can_int s.1.text.2 a1
 obtain ⟨y1, y2⟩ := can_text s.1 z1
 refine ⟨y1, b2, ?_⟩
 have e1 : s1.1.bs = s.1.text.2.int.2.int.2.bs := by rw [hs1]
 rw [y2, z2, a2, ← e1, b3, ← hs2, c3, ← hs3, d3]
 unfold Ob.bytes msgsBytes
 simp only [List.append_assoc]
theorem imgRead_can {b : List UInt8} {s : Stt} (h : imgRead b = some s) : b = s.bytes ∧ s.right = true := by
 unfold imgRead at h
 dsimp only at h
 split at h
 ·cases h
 ·rename_i hc
  simp only [Bool.or_eq_true, Bool.not_eq_true', not_or, Bool.not_eq_true, Bool.not_eq_false] at hc
  obtain ⟨h1, h2, h3⟩ := hc
  unfold Rd.done at h1
  rw [Bool.and_eq_true, Bool.not_eq_true'] at h1
  have hs : (sttM (⟨b, false⟩, false)).1 = s := by cases h; rfl
  rw [hs] at h3
  refine ⟨?_, h3⟩
  have he : (sttM (⟨b, false⟩, false)) = (⟨(Rd.int ⟨b, false⟩).1, (lsM objM ((Rd.int ⟨b, false⟩).2, false)).1⟩, (lsM objM ((Rd.int ⟨b, false⟩).2, false)).2) := rfl
  rw [he] at h1 h2 hs
  dsimp only at h1 h2
  obtain ⟨a1, a2, a3⟩ := canw_obj.ls _ h1.1 h2
  obtain ⟨z1, z2⟩ := can_int ⟨b, false⟩ a1
  have hn : (lsM objM ((Rd.int ⟨b, false⟩).2, false)).2.1.bs = [] := List.isEmpty_iff.1 h1.2
  have z2 : b = wInt (Rd.int ⟨b, false⟩).1 ++ (Rd.int ⟨b, false⟩).2.bs := z2
  have a3 : (Rd.int ⟨b, false⟩).2.bs = _ := a3
  rw [hn, List.append_nil] at a3
  rw [a3] at z2
  rw [← hs]
  exact z2
def Stt.cnt (s : Stt) : Nat := (s.objs.map Ob.cnt).sum
theorem Sz.cnt_st (s : Sz) : s.cnt s.l.length = s.st.cnt := by
 unfold Sz.cnt Stt.cnt Sz.st
 rw [List.take_length, List.map_map]; rfl
theorem flat_ge {α : Type} {f : α → List UInt8} {g : α → Nat} : ∀ (l : List α), (∀ x ∈ l, g x ≤ (f x).length) → (l.map g).sum ≤ (l.flatMap f).length
 | [], _ => Nat.zero_le _
 | x :: l, h => by
  have h1 := h x List.mem_cons_self
  have h2 := flat_ge l (fun y hy => h y (List.mem_cons_of_mem _ hy))
  simp only [List.map_cons, List.sum_cons, List.flatMap_cons, List.length_append]; omega
theorem sum_one {α : Type} : ∀ (l : List α), (l.map (fun _ => 1)).sum = l.length
 | [] => rfl
 | _ :: l => by simp only [List.map_cons, List.sum_cons, List.length_cons, sum_one l]; omega
theorem cnt_bytes (s : Stt) : s.cnt ≤ s.bytes.length := by
 unfold Stt.cnt Stt.bytes
 rw [List.length_append, List.length_append]
 have := flat_ge (f := Ob.bytes) (g := Ob.cnt) s.objs (fun o _ => by
  have h1 := flat_ge (f := Rw.bytes) (g := fun _ => 1) o.rows (fun r _ => by unfold Rw.bytes; rw [List.length_append, wT]; omega)
  have h2 := flat_ge (f := Msg.bytes) (g := fun _ => 1) o.msgs (fun r _ => by unfold Msg.bytes; simp only [List.length_append, wI]; omega)
  have h3 := flat_ge (f := Msg.bytes) (g := fun _ => 1) o.dead (fun r _ => by unfold Msg.bytes; simp only [List.length_append, wI]; omega)
  rw [sum_one] at h1 h2 h3
  unfold Ob.cnt Ob.bytes msgsBytes
  simp only [List.length_append, wI, wT]; omega)
 omega
theorem sum_set_le {α : Type} {f : α → Nat} {c : Nat} : ∀ {l : List α} {i : Nat} {x y : α}, l[i]? = some x → f y ≤ f x + c → ((l.set i y).map f).sum ≤ (l.map f).sum + c
 | [], _, _, _, h, _ => by simp at h
 | a :: l, 0, x, y, h, hf => by
  simp at h; subst h
  simp only [List.set_cons_zero, List.map_cons, List.sum_cons]; omega
 | a :: l, i + 1, x, y, h, hf => by
  have := sum_set_le (l := l) (i := i) (by simpa using h) hf
  simp only [List.set_cons_succ, List.map_cons, List.sum_cons]; omega
theorem sum_ins {α : Type} {f : α → Nat} (l : List α) (i : Nat) (x : α) : ((insAt l i x).map f).sum = (l.map f).sum + f x := by
 unfold insAt
 conv => rhs; rw [← List.take_append_drop i l]
 simp only [List.map_append, List.sum_append, List.map_cons, List.map_nil, List.sum_cons, List.sum_nil]
 omega
theorem tableO_cnt (o : Ob) (e : Eff) : (tableO o e).1.cnt ≤ o.cnt + 1 := by
 unfold tableO
 split
 ·have hl : (putR o.rows ⟨e.key, e.value⟩).length ≤ o.rows.length + 1 := by
   unfold putR
   split
   ·rw [List.length_set]; omega
   ·exact insAt_le _ _ _
  show 1 + (putR o.rows ⟨e.key, e.value⟩).length + o.msgs.length + o.dead.length ≤ 1 + o.rows.length + o.msgs.length + o.dead.length + 1
  omega
 ·have hl : (cutR o.rows e.key).1.length ≤ o.rows.length := by
   unfold cutR
   split
   ·exact List.length_eraseIdx_le _ _
   ·exact Nat.le_refl _
  show 1 + (cutR o.rows e.key).1.length + o.msgs.length + o.dead.length ≤ 1 + o.rows.length + o.msgs.length + o.dead.length + 1
  omega
theorem freeO_cnt (o : Ob) (id : Int) (t : Bool) : (freeO o id t).1.cnt ≤ o.cnt + 1 := by
 unfold freeO
 split
 ·exact Nat.le_succ _
 ·split
  ·exact Nat.le_succ _
  ·split
   ·show 1 + _ + (o.msgs.set _ _).length + _ ≤ 1 + _ + o.msgs.length + _ + 1
    rw [List.length_set]; exact Nat.le_succ _
   ·split
    ·have := List.length_eraseIdx_le o.msgs (findM o.msgs id).toNat
     show 1 + o.rows.length + (o.msgs.eraseIdx _).length + (o.dead ++ [_]).length ≤ 1 + o.rows.length + o.msgs.length + o.dead.length + 1
     rw [List.length_append, List.length_singleton]; omega
    ·show 1 + _ + (o.msgs.set _ _).length + _ ≤ 1 + _ + o.msgs.length + _ + 1
     rw [List.length_set]; exact Nat.le_succ _
theorem queueO_cnt (s : Stt) (o : Ob) (e : Eff) : (queueO s o e).1.cnt ≤ o.cnt + 1 := by
 unfold queueO
 split
 ·split
  ·exact Nat.le_succ _
  ·split
   ·exact Nat.le_succ _
   ·have := insAt_le o.msgs (plc (fun x => decide (0 < cmpM x e.msg)) o.msgs) e.msg
    show 1 + o.rows.length + (addM o.msgs e.msg).length + o.dead.length ≤ 1 + o.rows.length + o.msgs.length + o.dead.length + 1
    unfold addM; omega
 ·split
  ·have : (cutM o.msgs e.n).1.length ≤ o.msgs.length := by
    unfold cutM
    split
    ·exact Nat.le_refl _
    ·exact List.length_eraseIdx_le _ _
   show 1 + o.rows.length + (cutM o.msgs e.n).1.length + o.dead.length ≤ 1 + o.rows.length + o.msgs.length + o.dead.length + 1
   omega
  ·split
   ·split
    ·exact Nat.le_succ _
    ·have : (claimM o.msgs e.n true).1.length ≤ o.msgs.length := by
      unfold claimM
      split
      ·exact Nat.le_refl _
      ·split
       ·exact Nat.le_refl _
       ·exact Nat.le_of_eq List.length_set
     show 1 + o.rows.length + (claimM o.msgs e.n true).1.length + o.dead.length ≤ 1 + o.rows.length + o.msgs.length + o.dead.length + 1
     omega
   ·split
    ·exact freeO_cnt o e.n e.tried
    ·exact Nat.le_succ _
theorem doS_cnt (s : Stt) (e : Eff) : (doS s e).1.cnt ≤ s.cnt + 1 := by
 unfold doS
 split
 ·exact Nat.le_succ _
 ·split
  ·unfold makeS
   split
   ·exact Nat.le_succ _
   ·split
    ·exact Nat.le_succ _
    ·show ((insAt s.objs _ _).map Ob.cnt).sum ≤ _
     rw [sum_ins]; exact Nat.le_refl _
  ·split
   ·unfold nextS
    split
    ·exact Nat.le_succ _
    ·exact Nat.le_succ _
   ·split
    ·exact Nat.le_succ _
    ·rename_i cf
     obtain ⟨i, o, ho, hi, _⟩ := SR.obj_at cf
     rw [hi, gd_at ho]
     split
     ·exact Nat.le_succ _
     ·split
      ·exact sum_set_le ho (tableO_cnt o e)
      ·exact sum_set_le ho (queueO_cnt s o e)
theorem doAll_cnt : ∀ (l : List Eff) (s : Stt), (doAll s l).1.cnt ≤ s.cnt + l.length
 | [], s => Nat.le_refl _
 | e :: l, s => by
  unfold doAll
  split
  ·have h1 := doS_cnt s e
   have h2 := doAll_cnt l (doS s e).1
   rw [List.length_cons]; omega
  ·exact Nat.zero_le _
theorem apply_cnt (s : Stt) (l : List Eff) : (applyS s l).1.cnt ≤ s.cnt + l.length := by
 unfold applyS
 split
 ·exact Nat.zero_le _
 ·exact doAll_cnt l s
theorem sum_ge {α : Type} {f : α → Nat} {c : Nat} : ∀ (l : List α), (∀ x ∈ l, c ≤ f x) → l.length * c ≤ (l.map f).sum
 | [], _ => by simp
 | x :: l, h => by
  have h1 := h x List.mem_cons_self
  have h2 := sum_ge l (fun y hy => h y (List.mem_cons_of_mem _ hy))
  simp only [List.map_cons, List.sum_cons, List.length_cons, Nat.succ_mul]; omega
theorem sum_mul_le {α : Type} {f g : α → Nat} {c : Nat} : ∀ (l : List α), (∀ x ∈ l, g x * c ≤ f x) → (l.map g).sum * c ≤ (l.map f).sum
 | [], _ => by simp
 | x :: l, h => by
  have h1 := h x List.mem_cons_self
  have h2 := sum_mul_le l (fun y hy => h y (List.mem_cons_of_mem _ hy))
  simp only [List.map_cons, List.sum_cons, Nat.add_mul]; omega
theorem ob_cnt_size (o : Ob) : o.cnt * 20 ≤ o.size := by
 have a := sum_ge (f := Rw.size) (c := 20) o.rows (fun r _ => by unfold Rw.size; omega)
 have b := sum_ge (f := Msg.wt) (c := 20) o.msgs (fun r _ => by unfold Msg.wt; omega)
 have c := sum_ge (f := Msg.wt) (c := 20) o.dead (fun r _ => by unfold Msg.wt; omega)
 unfold Ob.cnt Ob.size; omega
theorem cnt_size (s : Stt) : s.cnt * 20 ≤ s.size := by
 have := sum_mul_le (f := Ob.size) (g := Ob.cnt) (c := 20) s.objs (fun o _ => ob_cnt_size o)
 unfold Stt.cnt Stt.size; omega
theorem ob_size_right {o : Ob} (h : o.right = true) : o.size ≤ o.cnt * 400 := by
 obtain ⟨s1, s2, s3, s4⟩ := ob_small h
 have a := sum_le_mul (f := Rw.size) (c := 400) o.rows (fun r hr => by have := s2 r hr; unfold Rw.size; omega)
 have b := sum_le_mul (f := Msg.wt) (c := 400) o.msgs (fun r hr => by have := s3 r hr; unfold Msg.wt; omega)
 have c := sum_le_mul (f := Msg.wt) (c := 400) o.dead (fun r hr => by have := s4 r hr; unfold Msg.wt; omega)
 unfold Ob.cnt Ob.size; omega
theorem size_right {s : Stt} (h : s.right = true) : s.size ≤ 16 + s.cnt * 400 := by
 have key : ∀ l : List Ob, (∀ o ∈ l, o.right = true) → (l.map Ob.size).sum ≤ (l.map Ob.cnt).sum * 400 := fun l => by
  induction l with
  | nil => intro _; simp
  | cons o l ih =>
   intro hl
   have h1 := ob_size_right (hl o List.mem_cons_self)
   have h2 := ih (fun x hx => hl x (List.mem_cons_of_mem _ hx))
   simp only [List.map_cons, List.sum_cons, Nat.add_mul]; omega
 have := key s.objs (stt_obs h)
 unfold Stt.size Stt.cnt; omega
theorem small_cnt {s : Stt} {n m : Nat} (h : s.small n) (hc : s.cnt ≤ m) : s.small m := by
 refine ⟨h.nx, h.len, fun o ho => ?_⟩
 have h1 : o.cnt ≤ s.cnt := by
  unfold Stt.cnt
  obtain ⟨i, hi⟩ := List.mem_iff_getElem?.1 ho
  have h2 := sum_succ (f := Ob.cnt) hi
  have h3 := sum_take_le (f := Ob.cnt) s.objs (i + 1)
  omega
 unfold Ob.cnt at h1
 exact ⟨(h.obs o ho).1, by omega, by omega, by omega⟩
theorem ob_sm {o : Ob} (h : o.right = true) (hl : o.cnt ≤ 140737488351232) : o.sm := by
 have hc := hl
 unfold Ob.cnt at hc
 have key : effName o.name = true ∧ effKind o.kind o.limit = true ∧ (∀ r ∈ o.rows, r.sm) ∧ (∀ m ∈ o.msgs, m.sm) ∧ (∀ m ∈ o.dead, m.sm) := by
  unfold Ob.right at h
  by_cases hk : o.kind = 1
  ·rw [if_pos hk] at h
   simp only [Bool.and_eq_true, decide_eq_true_eq, List.all_eq_true] at h
   obtain ⟨⟨a, b⟩, ⟨⟨c, d⟩, e⟩, f⟩ := h
   have hm : o.msgs = [] := List.length_eq_zero_iff.1 tO
   have hd : o.dead = [] := List.length_eq_zero_iff.1 tO
   exact ⟨a, b, fun r hr => rw_sm (f r hr), by simp [hm], by simp [hd]⟩
  ·rw [if_neg hk] at h
   simp only [Bool.and_eq_true, decide_eq_true_eq, List.all_eq_true] at h
   obtain ⟨⟨a, b⟩, ⟨⟨c, d⟩, e⟩, f⟩ := h
   have hr : o.rows = [] := List.length_eq_zero_iff.1 tO
   exact ⟨a, b, by simp [hr], fun m hm => Msg.sm_right (e m hm), fun m hm => Msg.sm_right (f m hm).2⟩
 obtain ⟨k1, k2, k3, k4, k5⟩ := key
 have k1' := k1
 unfold effName at k1'
 rw [Bool.and_eq_true, decide_eq_true_eq, decide_eq_true_eq] at k1'
 have k2' : (1 ≤ o.kind ∧ o.kind ≤ 2) ∧ 0 ≤ o.limit ∧ o.limit ≤ 1000 := by
  unfold effKind at k2
  split at k2
  ·have := of_decide_eq_true k2; omega
  ·split at k2
   ·rw [Bool.and_eq_true, decide_eq_true_eq, decide_eq_true_eq] at k2; omega
   ·cases k2
 exact ⟨by omega, by omega, by omega, k3, k4, k5, by omega, by omega, by omega⟩
theorem cnt_mem {s : Stt} {o : Ob} (ho : o ∈ s.objs) : o.cnt ≤ s.cnt := by
 unfold Stt.cnt
 obtain ⟨i, hi⟩ := List.mem_iff_getElem?.1 ho
 have h2 := sum_succ (f := Ob.cnt) hi
 have h3 := sum_take_le (f := Ob.cnt) s.objs (i + 1)
 omega
theorem st_small {s : Stt} (h : s.right = true) {n : Nat} (hc : s.cnt ≤ n) (hn : n ≤ 140737488351232) : s.small n := by
 have hs := right_SR h
 refine ⟨by have := hs.nx; omega, by have := hs.len; omega, fun o ho => ?_⟩
 have h1 := cnt_mem ho
 have h2 := ob_sm (hs.obj o ho) tO
 unfold Ob.cnt at h1
 exact ⟨h2, by omega, by omega, by omega⟩
attribute [local irreducible] Rd.eff Rd.int Rd.text Rd.flag Rd.msg
theorem effs_len : ∀ (n : Nat) (s : Rd) (l : List Eff), (Rd.effs n s).1 = some l → l.length = n ∧ n ≤ s.bs.length
 | 0, s, l, h => by
  rw [effs_zero] at h
  cases h
  exact ⟨rfl, Nat.zero_le _⟩
 | n + 1, s, l, h => by
  rw [effs_succ] at h
  split at h
  ·cases h
  ·rename_i hc
   simp only [Bool.or_eq_true, Bool.not_eq_true', not_or, Bool.not_eq_true, Bool.not_eq_false] at hc
   obtain ⟨l', hl', rfl⟩ := Option.map_eq_some_iff.1 h
   obtain ⟨h1, h2⟩ := effs_len n _ l' hl'
   have hp : s.eff.2.bs.length < s.bs.length := by
    have hpr : Prog (RdM.lift (Rd.eff : RdM Eff)) := by
     have e : (RdM.lift (Rd.eff : RdM Eff) : RwM Eff) = RwM.bind (RdM.lift Rd.int) fun a => RwM.bind (RdM.lift Rd.text) fun b => RwM.bind (RdM.lift Rd.text) fun c => RwM.bind (RdM.lift Rd.text) fun d => RwM.bind (RdM.lift Rd.int) fun e => RwM.bind (RdM.lift Rd.int) fun f => RwM.bind (RdM.lift Rd.flag) fun g => RwM.bind (RdM.lift Rd.msg) fun h => RwM.ret ⟨a, b, c, d, e, f, g, h⟩ := by rw [eff_is]; rfl
     rw [e]
     exact prog_int.bind (fun _ => prog_text.1.bind fun _ => prog_text.1.bind fun _ => prog_text.1.bind fun _ => prog_int.1.bind fun _ => prog_int.1.bind fun _ => down_flag.bind fun _ => prog_msg.1.bind fun _ => .ret _)
      (fun _ => (PreW.lift pre_text).bind fun _ => (PreW.lift pre_text).bind fun _ => (PreW.lift pre_text).bind fun _ => (PreW.lift pre_int).bind fun _ => (PreW.lift pre_int).bind fun _ => (PreW.lift pre_flag).bind fun _ => (PreW.lift pre_msg).bind fun _ => .ret _)
    rcases hpr.2 (s, false) with hf | hl
    ·have hf : s.eff.2.f = true := hf
     rw [hc.1] at hf; cases hf
    ·exact hl
   exact ⟨by rw [List.length_cons, h1], by omega⟩
theorem effRead_len {b : List UInt8} {l : List Eff} (h : effRead b = some l) : l.length ≤ b.length := by
 unfold effRead at h
 dsimp only at h
 split at h
 ·cases h
 ·split at h
  ·cases h
  ·rename_i l' hl'
   split at h
   ·cases h
    obtain ⟨h1, h2⟩ := effs_len _ _ _ hl'
    have h3 := prog_int.1 (⟨b, false⟩, false)
    have h3 : (Rd.int ⟨b, false⟩).2.bs.length ≤ b.length := h3
    omega
   ·cases h
end Go.Proofs.YtkbhldicnamcdaaGreat.L
namespace Go.Proofs.YtkbhldicnamcdaaGreat.L
open Go
abbrev Sec := List UInt8
structure Dk where
 sure : List Sec
 l : List (Nat × Sec)
 lim : Option Nat
 cnt : Nat
def zSec : Sec := List.replicate 64 0
def laid : List Sec → List (Nat × Sec) → List Sec
 | s, [] => s
 | s, w :: l => laid (s.set w.1 w.2) l
theorem zSec_len' : zSec.length = 64 := by unfold zSec; exact List.length_replicate
theorem laid_len : ∀ (l : List (Nat × Sec)) (s : List Sec), (laid s l).length = s.length
 | [], _ => rfl
 | w :: l, s => by unfold laid; rw [laid_len l, List.length_set]
theorem laid_app : ∀ (l l' : List (Nat × Sec)) (s : List Sec), laid s (l ++ l') = laid (laid s l) l'
 | [], _, _ => rfl
 | w :: l, l', s => by show laid (s.set w.1 w.2) (l ++ l') = _; rw [laid_app l l']; rfl
theorem laid_snoc (l : List (Nat × Sec)) (i : Nat) (b : Sec) (s : List Sec) : laid s (l ++ [(i, b)]) = (laid s l).set i b := by rw [laid_app]; rfl
namespace Dk
def len (d : Dk) : Nat := d.sure.length
def now (d : Dk) : List Sec := laid d.sure d.l
theorem now_len (d : Dk) : d.now.length = d.len := laid_len _ _
def off (d : Dk) : Bool := decide (d.lim = some 0)
def new (n : Int) : Dk := ⟨List.replicate (min n 4096).toNat zSec, [], none, 0⟩
def read (d : Dk) (i : Int) : Sec := if 0 ≤ i ∧ i < (d.len : Int) then d.now.getD i.toNat [] else []
def may (d : Dk) (i : Int) (b : Sec) : Bool := decide (0 ≤ i ∧ i < (d.len : Int)) && decide (b.length = 64) && !d.off
def put (d : Dk) (i : Nat) (b : Sec) : Dk := ⟨d.sure, d.l ++ [(i, b)], d.lim.map Nat.pred, d.cnt + 1⟩
def write (d : Dk) (i : Int) (b : Sec) : Bool × Dk := if d.may i b = true then (true, d.put i.toNat b) else (false, d)
def sync (d : Dk) : Bool × Dk := if d.off = true then (false, d) else (true, ⟨d.now, [], d.lim, d.cnt⟩)
def stay (l : List (Nat × Sec)) (keep : List Bool) : List (Nat × Sec) := ((l.zipIdx).filter (fun p => keep.getD p.2 false)).map (·.1)
def crash (d : Dk) (keep : List Bool) : Dk := ⟨laid d.sure (stay d.l keep), [], none, d.cnt⟩
def brk (d : Dk) (n : Int) : Dk := if d.off = true then d else ⟨d.sure, d.l, some n.toNat, d.cnt⟩
structure wf (d : Dk) : Prop where
 sec : ∀ s ∈ d.sure, s.length = 64
 wr : ∀ w ∈ d.l, w.2.length = 64 ∧ w.1 < d.len
 few : d.l.length ≤ d.cnt
 len : d.len ≤ 4096
 lm : ∀ k, d.lim = some k → k ≤ 9223372036854775807
theorem laid_all {P : Sec → Prop} : ∀ (l : List (Nat × Sec)) (s : List Sec), (∀ x ∈ s, P x) → (∀ w ∈ l, P w.2) → ∀ x ∈ laid s l, P x
 | [], _, h, _ => h
 | w :: l, s, h, hw => laid_all l (s.set w.1 w.2) (fun x hx => by
   rcases List.mem_or_eq_of_mem_set hx with h' | h'
   ·exact h x h'
   ·rw [h']; exact hw w List.mem_cons_self) (fun v hv => hw v (List.mem_cons_of_mem _ hv))
theorem wf.now {d : Dk} (h : d.wf) : ∀ s ∈ d.now, s.length = 64 := laid_all d.l d.sure h.sec (fun w hw => (h.wr w hw).1)
theorem wf.read {d : Dk} (h : d.wf) {i : Int} (hi : 0 ≤ i ∧ i < (d.len : Int)) : (d.read i).length = 64 := by
 unfold Dk.read
 rw [if_pos hi]
 have hl : i.toNat < d.now.length := by rw [now_len]; omega
 rw [List.getD_eq_getElem?_getD, List.getElem?_eq_getElem hl]
 exact h.now _ (List.getElem_mem hl)
theorem read_le {d : Dk} (h : d.wf) (i : Int) : (d.read i).length ≤ 64 := by
 by_cases hi : 0 ≤ i ∧ i < (d.len : Int)
 ·exact Nat.le_of_eq (h.read hi)
 ·unfold Dk.read; rw [if_neg hi]; exact Nat.zero_le _
theorem wf_new (n : Int) : (new n).wf := by
 refine ⟨fun s hs => ?_, fun w hw => (by cases hw), Nat.zero_le _, ?_, fun k hk => by cases hk⟩
 ·unfold new at hs
  rw [List.eq_of_mem_replicate hs]; unfold zSec; exact List.length_replicate
 ·show (List.replicate _ _).length ≤ _
  rw [List.length_replicate]; omega
theorem put_len (d : Dk) (i : Nat) (b : Sec) : (d.put i b).len = d.len := rfl
theorem wf.put {d : Dk} (h : d.wf) {i : Nat} {b : Sec} (hi : i < d.len) (hb : b.length = 64) : (d.put i b).wf := by
 refine ⟨h.sec, fun w hw => ?_, ?_, h.len, fun k hk => ?_⟩
 ·rcases List.mem_append.1 hw with hw | hw
  ·exact h.wr w hw
  ·rw [List.mem_singleton.1 hw]; exact ⟨hb, hi⟩
 ·show (d.l ++ [(i, b)]).length ≤ d.cnt + 1
  rw [List.length_append, List.length_singleton]
  have := h.few; omega
 ·have hk : d.lim.map Nat.pred = some k := hk
  rcases hl : d.lim with _ | m
  ·rw [hl] at hk; cases hk
  ·rw [hl] at hk
   have := h.lm m hl
   simp at hk; omega
theorem write_len (d : Dk) (i : Int) (b : Sec) : (d.write i b).2.len = d.len := by unfold write; split <;> rfl
theorem wf.write {d : Dk} (h : d.wf) (i : Int) (b : Sec) : (d.write i b).2.wf := by
 unfold Dk.write
 split
 ·rename_i hm
  unfold may at hm
  simp only [Bool.and_eq_true, decide_eq_true_eq] at hm
  exact h.put tO hm.1.2
 ·exact h
theorem write_cnt (d : Dk) (i : Int) (b : Sec) : d.cnt ≤ (d.write i b).2.cnt ∧ (d.write i b).2.cnt ≤ d.cnt + 1 := by
 unfold write
 split
 ·exact ⟨Nat.le_succ _, Nat.le_refl _⟩
 ·exact ⟨Nat.le_refl _, Nat.le_succ _⟩
theorem sync_len (d : Dk) : d.sync.2.len = d.len := by
 unfold sync
 split
 ·rfl
 ·exact d.now_len
theorem wf.sync {d : Dk} (h : d.wf) : d.sync.2.wf := by
 unfold Dk.sync
 split
 ·exact h
 ·exact ⟨h.now, fun w hw => (by cases hw), Nat.zero_le _, by show d.now.length ≤ _; rw [now_len]; exact h.len, h.lm⟩
theorem sync_cnt (d : Dk) : d.sync.2.cnt = d.cnt := by unfold sync; split <;> rfl
theorem stay_mem {l : List (Nat × Sec)} {keep : List Bool} {w : Nat × Sec} (h : w ∈ stay l keep) : w ∈ l := by
 unfold stay at h
 obtain ⟨p, hp, rfl⟩ := List.mem_map.1 h
 have := (List.mem_filter.1 hp).1
 obtain ⟨a, b⟩ := p
 exact (List.mem_iff_getElem?.2 ⟨b, by simpa using (List.mem_zipIdx_iff_getElem?.1 this)⟩)
theorem crash_len (d : Dk) (keep : List Bool) : (d.crash keep).len = d.len := laid_len _ _
theorem wf.crash {d : Dk} (h : d.wf) (keep : List Bool) : (d.crash keep).wf :=
 ⟨laid_all _ _ h.sec (fun w hw => (h.wr w (stay_mem hw)).1), fun w hw => (by cases hw), Nat.zero_le _, by rw [crash_len]; exact h.len, fun k hk => by cases hk⟩
theorem wf.brk {d : Dk} (h : d.wf) {n : Int} (hn : n ≤ 9223372036854775807) : (d.brk n).wf := by
 unfold Dk.brk
 split
 ·exact h
 ·exact ⟨h.sec, h.wr, h.few, h.len, fun k hk => by cases hk; omega⟩
theorem brk_cnt (d : Dk) (n : Int) : (d.brk n).cnt = d.cnt := by unfold brk; split <;> rfl
end Dk
def need (n : Int) : Int := if n < 1 then 0 else (n - 1).tdiv 64 + 1
theorem need_nn (n : Int) : 0 ≤ need n := by
 unfold need
 split
 ·exact Int.le_refl _
 ·have : 0 ≤ (n - 1).tdiv 64 := Int.tdiv_nonneg tO tD
  omega
theorem need_pos {n : Int} (h : 1 ≤ n) : need n = (n + 63) / 64 := by
 unfold need
 rw [if_neg tO, Int.tdiv_eq_ediv_of_nonneg tO]
 omega
theorem need_le {n : Int} (h : 0 ≤ n) : need n ≤ n := by
 unfold need
 split
 ·exact h
 ·rw [Int.tdiv_eq_ediv_of_nonneg tO]; omega
theorem need_fit {n : Int} (h : 0 ≤ n) : n ≤ need n * 64 ∧ need n * 64 < n + 64 := by
 by_cases h1 : n < 1
 ·have : n = 0 := by omega
  subst this; decide
 ·rw [need_pos tO]; omega
def fillB (b : List UInt8) : List UInt8 := b ++ List.replicate ((need b.length).toNat * 64 - b.length) 0
theorem fillB_len (b : List UInt8) : (fillB b).length = (need b.length).toNat * 64 := by
 unfold fillB
 rw [List.length_append, List.length_replicate]
 have := need_fit (n := (b.length : Int)) (Int.natCast_nonneg _)
 have := need_nn (b.length : Int)
 omega
def secs : Nat → List UInt8 → List Sec
 | 0, _ => []
 | n + 1, b => b.take 64 :: secs n (b.drop 64)
theorem secs_len : ∀ (n : Nat) (b : List UInt8), (secs n b).length = n
 | 0, _ => rfl
 | n + 1, b => by unfold secs; rw [List.length_cons, secs_len n]
theorem secs_all : ∀ (n : Nat) (b : List UInt8), b.length = n * 64 → ∀ s ∈ secs n b, s.length = 64
 | 0, _, _, s, hs => by cases hs
 | n + 1, b, h, s, hs => by
  unfold secs at hs
  rcases List.mem_cons.1 hs with rfl | hs
  ·rw [List.length_take]; omega
  ·exact secs_all n _ (by rw [List.length_drop]; omega) s hs
theorem secs_join : ∀ (n : Nat) (b : List UInt8), b.length = n * 64 → (secs n b).flatten = b
 | 0, b, h => by rw [List.eq_nil_of_length_eq_zero (by omega : b.length = 0)]; rfl
 | n + 1, b, h => by
  unfold secs
  rw [List.flatten_cons, secs_join n _ (by rw [List.length_drop]; omega), List.take_append_drop]
def secsOf (b : List UInt8) : List Sec := secs (need b.length).toNat (fillB b)
theorem secsOf_len (b : List UInt8) : (secsOf b).length = (need b.length).toNat := secs_len _ _
theorem secsOf_all (b : List UInt8) : ∀ s ∈ secsOf b, s.length = 64 := secs_all _ _ (fillB_len b)
namespace Dk
def lies (d : Dk) (at_ n : Int) : Bool := decide (0 ≤ at_) && decide (at_ ≤ (d.len : Int)) && decide (n ≤ (d.len : Int) - at_)
def puts : Dk → Int → List Sec → Bool × Dk
 | d, _, [] => (true, d)
 | d, i, s :: l => if (d.write i s).1 = true then puts (d.write i s).2 (i + 1) l else (false, (d.write i s).2)
theorem puts_cons (d : Dk) (i : Int) (s : Sec) (l : List Sec) : puts d i (s :: l) = if (d.write i s).1 = true then puts (d.write i s).2 (i + 1) l else (false, (d.write i s).2) := rfl
theorem puts_len : ∀ (l : List Sec) (d : Dk) (i : Int), (puts d i l).2.len = d.len
 | [], _, _ => rfl
 | s :: l, d, i => by
  rw [puts_cons]
  split
  ·rw [puts_len l, write_len]
  ·exact write_len _ _ _
theorem wf.puts : ∀ {l : List Sec} {d : Dk} {i : Int}, d.wf → (puts d i l).2.wf
 | [], _, _, h => h
 | s :: l, d, i, h => by
  rw [puts_cons]
  split
  ·exact wf.puts (h.write _ _)
  ·exact h.write _ _
theorem puts_cnt : ∀ (l : List Sec) (d : Dk) (i : Int), d.cnt ≤ (puts d i l).2.cnt ∧ (puts d i l).2.cnt ≤ d.cnt + l.length
 | [], _, _ => ⟨Nat.le_refl _, Nat.le_refl _⟩
 | s :: l, d, i => by
  have hw := d.write_cnt i s
  rw [puts_cons]
  split
  ·have := puts_cnt l (d.write i s).2 (i + 1)
   rw [List.length_cons]; omega
  ·rw [List.length_cons]; show d.cnt ≤ (d.write i s).2.cnt ∧ (d.write i s).2.cnt ≤ _; omega
def spanPut (d : Dk) (at_ : Int) (b : List UInt8) : Bool × Dk :=
 if (b.length : Int) = 0 then (true, d) else if d.lies at_ (need b.length) = true then d.puts at_ (secsOf b) else (false, d)
theorem spanPut_len (d : Dk) (i : Int) (b : List UInt8) : (d.spanPut i b).2.len = d.len := by
 unfold spanPut
 split
 ·rfl
 ·split
  ·exact puts_len _ _ _
  ·rfl
theorem wf.spanPut {d : Dk} (h : d.wf) (i : Int) (b : List UInt8) : (d.spanPut i b).2.wf := by
 unfold Dk.spanPut
 split
 ·exact h
 ·split
  ·exact h.puts
  ·exact h
theorem spanPut_cnt (d : Dk) (i : Int) (b : List UInt8) : d.cnt ≤ (d.spanPut i b).2.cnt ∧ (d.spanPut i b).2.cnt ≤ d.cnt + (need b.length).toNat := by
 unfold spanPut
 split
 ·exact ⟨Nat.le_refl _, by show d.cnt ≤ _; omega⟩
 ·split
  ·rw [← secsOf_len]; exact puts_cnt _ _ _
  ·exact ⟨Nat.le_refl _, by show d.cnt ≤ _; omega⟩
def cutN (n : Int) : Int := max 0 (min n 262144)
def reads (d : Dk) (at_ : Int) (n : Nat) : List UInt8 := (List.range n).flatMap (fun (i : Nat) => d.read (at_ + i))
def spanGet (d : Dk) (at_ n : Int) : List UInt8 := if d.lies at_ (need (cutN n)) = true then (d.reads at_ (need (cutN n)).toNat).take (cutN n).toNat else []
theorem reads_succ (d : Dk) (i : Int) (n : Nat) : d.reads i (n + 1) = d.reads i n ++ d.read (i + n) := by
 unfold reads
 rw [List.range_succ, List.flatMap_append]
 simp
theorem reads_le {d : Dk} (h : d.wf) (i : Int) : ∀ n : Nat, (d.reads i n).length ≤ 64 * n
 | 0 => Nat.le_refl _
 | n + 1 => by
  rw [reads_succ, List.length_append]
  have := reads_le h i n
  have := read_le h (i + n)
  omega
theorem reads_len {d : Dk} (h : d.wf) {i : Int} : ∀ n : Nat, 0 ≤ i → i + n ≤ (d.len : Int) → (d.reads i n).length = 64 * n
 | 0, _, _ => rfl
 | n + 1, h0, h1 => by
  rw [reads_succ, List.length_append, reads_len h n h0 tO, h.read tO]
  omega
theorem spanGet_len {d : Dk} (h : d.wf) {i n : Int} (hl : d.lies i (need (cutN n)) = true) : (d.spanGet i n).length = (cutN n).toNat := by
 unfold spanGet
 rw [if_pos hl, List.length_take]
 unfold lies at hl
 simp only [Bool.and_eq_true, decide_eq_true_eq] at hl
 have h0 : 0 ≤ cutN n := by unfold cutN; omega
 have := need_nn (cutN n)
 have := need_fit h0
 rw [reads_len h _ hl.1.1 tO]
 omega
theorem spanGet_cut (d : Dk) (i n : Int) : ((d.spanGet i n).length : Int) ≤ cutN n := by
 have h0 : 0 ≤ cutN n := by unfold cutN; omega
 unfold spanGet
 split
 ·rw [List.length_take]; omega
 ·exact h0
theorem spanGet_le {d : Dk} (h : d.wf) (i n : Int) : (d.spanGet i n).length ≤ 262144 := by
 by_cases hl : d.lies i (need (cutN n)) = true
 ·rw [spanGet_len h hl]; unfold cutN; omega
 ·unfold spanGet; rw [if_neg hl]; exact Nat.zero_le _
end Dk
end Go.Proofs.YtkbhldicnamcdaaGreat.L
namespace Go.Proofs.YtkbhldicnamcdaaGreat.L
open Go
abbrev DM := Dk → Bool × Dk
def DM.also (f g : DM) : DM := fun d => if (f d).1 = true then g (f d).2 else (false, (f d).2)
structure DM.Ok (f : DM) (n : Nat) : Prop where
 len : ∀ d, (f d).2.len = d.len
 wf : ∀ d, d.wf → (f d).2.wf
 cnt : ∀ d, d.cnt ≤ (f d).2.cnt ∧ (f d).2.cnt ≤ d.cnt + n
theorem DM.Ok.also {f g : DM} {n m : Nat} (hf : f.Ok n) (hg : g.Ok m) : (f.also g).Ok (n + m) := by
 refine ⟨fun d => ?_, fun d h => ?_, fun d => ?_⟩ <;> unfold DM.also
 ·split
  ·rw [hg.len, hf.len]
  ·exact hf.len d
 ·split
  ·exact hg.wf _ (hf.wf d h)
  ·exact hf.wf d h
 ·have := hf.cnt d
  split
  ·have := hg.cnt (f d).2
   omega
  ·show d.cnt ≤ (f d).2.cnt ∧ (f d).2.cnt ≤ _
   omega
theorem ok_write (i : Int) (b : Sec) : DM.Ok (fun d => d.write i b) 1 := ⟨fun d => d.write_len i b, fun _ h => h.write i b, fun d => d.write_cnt i b⟩
theorem ok_sync : DM.Ok Dk.sync 0 := ⟨Dk.sync_len, fun _ h => h.sync, fun d => by rw [Dk.sync_cnt]; exact ⟨Nat.le_refl _, Nat.le_refl _⟩⟩
theorem ok_put (i : Int) (b : List UInt8) : DM.Ok (fun d => d.spanPut i b) (need b.length).toNat := ⟨fun d => d.spanPut_len i b, fun _ h => h.spanPut i b, fun d => d.spanPut_cnt i b⟩
theorem DM.Ok.mono {f : DM} {n m : Nat} (h : f.Ok n) (hm : n ≤ m) : f.Ok m := ⟨h.len, h.wf, fun d => ⟨(h.cnt d).1, Nat.le_trans (h.cnt d).2 tO⟩⟩
def recT : ByteArray := ⟨#[114, 101, 99]⟩
def rootT : ByteArray := ⟨#[114, 111, 111, 116]⟩
def lgHead (epoch number size : Int) : Sec := fillB (wText recT ++ wInt epoch ++ wInt number ++ wInt size)
def rootS (epoch size : Int) : Sec := fillB (wText rootT ++ wInt epoch ++ wInt size)
theorem head_raw (e k s : Int) : (wText recT ++ wInt e ++ wInt k ++ wInt s).length = 29 := by
 simp only [List.length_append, wT, wI]; rfl
theorem root_raw (e s : Int) : (wText rootT ++ wInt e ++ wInt s).length = 22 := by
 simp only [List.length_append, wT, wI]; rfl
theorem lgHead_len (e k s : Int) : (lgHead e k s).length = 64 := by
 unfold lgHead; rw [fillB_len, head_raw]; rfl
theorem rootS_len (e s : Int) : (rootS e s).length = 64 := by
 unfold rootS; rw [fillB_len, root_raw]; rfl
structure Lg where
 at_ : Int
 end_ : Int
 next : Int
 epoch : Int
 recs : List (List UInt8)
 failed : Bool
namespace Lg
def fits (g : Lg) (size : Int) : Bool := decide (1 ≤ g.end_ - g.next) && decide (need size ≤ g.end_ - g.next - 1)
def size (b : Sec) : Int := (((((⟨b, false⟩ : Rd).text).2.int).2.int).2.int).1
def step (d : Dk) (g : Lg) : Bool × Lg :=
 if (decide (size (d.read g.next) < 0) || !g.fits (size (d.read g.next)) || !decide (d.read g.next = lgHead g.epoch (g.recs.length + 1) (size (d.read g.next)))) = true then (false, g)
 else (true, { g with recs := g.recs ++ [d.spanGet (g.next + 1) (size (d.read g.next))], next := g.next + 1 + need (size (d.read g.next)) })
def scan (d : Dk) : Nat → Lg → Lg
 | 0, g => g
 | n + 1, g => if g.fits 0 = true then (if (step d g).1 = true then scan d n (step d g).2 else g) else g
def opened (d : Dk) (at_ n epoch : Int) : Lg := scan d n.toNat ⟨at_, at_ + n, at_, epoch, [], false⟩
def room (g : Lg) : Int := max 0 (g.end_ - g.next - 1) * 64
def behind (g : Lg) (b : List UInt8) : Int := g.next + 1 + need b.length
def lay (g : Lg) (b : List UInt8) : DM :=
 DM.also (fun d => d.spanPut (g.next + 1) b)<|DM.also (fun d => if g.behind b < g.end_ then d.write (g.behind b) zSec else (true, d)) <|
 DM.also Dk.sync<|DM.also (fun d => d.write g.next (lgHead g.epoch (g.recs.length + 1) b.length)) Dk.sync
def append (g : Lg) (b : List UInt8) (d : Dk) : Int × Lg × Dk :=
 if g.failed = true then (12, g, d)
 else if g.fits b.length = false then (6, g, d)
 else if (g.lay b d).1 = true then (0, { g with recs := g.recs ++ [b], next := g.next + 1 + need b.length }, (g.lay b d).2)
 else (12, { g with failed := true }, (g.lay b d).2)
theorem ok_lay (g : Lg) (b : List UInt8) : (g.lay b).Ok ((need b.length).toNat + 2) := by
 have h2 : DM.Ok (fun d => if g.behind b < g.end_ then d.write (g.behind b) zSec else (true, d)) 1 := by
  by_cases h : g.behind b < g.end_
  ·simp only [if_pos h]; exact ok_write _ _
  ·simp only [if_neg h]; exact ⟨fun _ => rfl, fun _ h => h, fun _ => ⟨Nat.le_refl _, Nat.le_succ _⟩⟩
 exact ((ok_put _ _).also (h2.also (ok_sync.also ((ok_write _ _).also ok_sync)))).mono tO
theorem append_len (g : Lg) (b : List UInt8) (d : Dk) : (g.append b d).2.2.len = d.len := by
 unfold append
 split
 ·rfl
 ·split
  ·rfl
  ·split <;> exact (g.ok_lay b).len d
theorem append_wf (g : Lg) (b : List UInt8) {d : Dk} (h : d.wf) : (g.append b d).2.2.wf := by
 unfold append
 split
 ·exact h
 ·split
  ·exact h
  ·split <;> exact (g.ok_lay b).wf d h
theorem append_cnt (g : Lg) (b : List UInt8) (d : Dk) : d.cnt ≤ (g.append b d).2.2.cnt ∧ (g.append b d).2.2.cnt ≤ d.cnt + ((need b.length).toNat + 2) := by
 unfold append
 split
 ·exact ⟨Nat.le_refl _, Nat.le_add_right _ _⟩
 ·split
  ·exact ⟨Nat.le_refl _, Nat.le_add_right _ _⟩
  ·split <;> exact (g.ok_lay b).cnt d
structure wf (g : Lg) : Prop where
 nx : g.at_ ≤ g.next ∧ g.next ≤ g.end_
 pl : 0 ≤ g.at_ ∧ g.end_ ≤ 4096
 cnt : (g.recs.length : Int) ≤ g.next - g.at_
 sz : ∀ b ∈ g.recs, b.length ≤ 262144
 tot : (((g.recs.map List.length).sum : Nat) : Int) ≤ 64 * (g.next - g.at_)
theorem wf.len {g : Lg} (h : g.wf) : g.recs.length ≤ 4096 := by
 have := h.nx; have := h.pl; have := h.cnt; omega
theorem fits_iff {g : Lg} {n : Int} : g.fits n = true ↔ 1 ≤ g.end_ - g.next ∧ need n ≤ g.end_ - g.next - 1 := by
 unfold fits; rw [Bool.and_eq_true, decide_eq_true_eq, decide_eq_true_eq]
theorem fits_need {g : Lg} (h : g.wf) {n : Int} (hf : g.fits n = true) : need n ≤ 4095 := by
 have := fits_iff.1 hf; have := h.nx; have := h.pl; omega
theorem fits_size {g : Lg} (h : g.wf) {n : Int} (h0 : 0 ≤ n) (hf : g.fits n = true) : n ≤ 262080 := by
 have := fits_need h hf; have := need_fit h0; omega
theorem step_wf {d : Dk} (hd : d.wf) {g : Lg} (h : g.wf) : (step d g).2.wf := by
 unfold step
 split
 ·exact h
 ·rename_i hc
  simp only [Bool.or_eq_true, Bool.not_eq_true', decide_eq_true_eq, not_or, Bool.not_eq_false, Int.not_lt] at hc
  have hf := fits_iff.1 hc.1.2
  have := need_nn (size (d.read g.next))
  refine ⟨⟨by show g.at_ ≤ g.next + 1 + _; have := h.nx; omega, by show g.next + 1 + _ ≤ g.end_; omega⟩, h.pl, ?_, ?_, ?_⟩
  ·show ((g.recs ++ [_]).length : Int) ≤ g.next + 1 + _ - g.at_
   rw [List.length_append, List.length_singleton]
   have := h.cnt; omega
  ·intro b hb
   rcases List.mem_append.1 hb with hb | hb
   ·exact h.sz b hb
   ·rw [List.mem_singleton.1 hb]; exact Dk.spanGet_le hd _ _
  ·show ((((g.recs ++ [_]).map List.length).sum : Nat) : Int) ≤ 64 * (g.next + 1 + _ - g.at_)
   rw [List.map_append, List.sum_append, List.map_singleton, List.sum_singleton]
   have h1 := h.tot
   have h2 := Dk.spanGet_cut d (g.next + 1) (size (d.read g.next))
   have h3 := need_fit (n := size (d.read g.next)) tO
   have h4 : Dk.cutN (size (d.read g.next)) ≤ size (d.read g.next) := by unfold Dk.cutN; omega
   omega
theorem step_end (d : Dk) (g : Lg) : (step d g).2.end_ = g.end_ := by unfold step; split <;> rfl
theorem step_down {d : Dk} {g : Lg} (h : (step d g).1 = true) : g.next < (step d g).2.next := by
 unfold step at h ⊢
 split
 ·rename_i hc; rw [if_pos hc] at h; cases h
 ·have := need_nn (size (d.read g.next))
  show g.next < g.next + 1 + _; omega
theorem scan_wf {d : Dk} (hd : d.wf) : ∀ (n : Nat) {g : Lg}, g.wf → (scan d n g).wf
 | 0, _, h => h
 | n + 1, g, h => by
  unfold scan
  split
  ·split
   ·exact scan_wf hd n (step_wf hd h)
   ·exact h
  ·exact h
theorem opened_wf {d : Dk} (hd : d.wf) {at_ n epoch : Int} (h0 : 0 ≤ at_) (hn : 0 ≤ n) (h1 : at_ + n ≤ 4096) : (opened d at_ n epoch).wf :=
 scan_wf hd _ ⟨⟨Int.le_refl _, by show at_ ≤ at_ + n; omega⟩, ⟨h0, h1⟩, by show (0 : Int) ≤ at_ - at_; omega, (fun b hb => by cases hb), by show (0 : Int) ≤ 64 * (at_ - at_); omega⟩
end Lg
theorem i64_bounds (n : Int) : -9223372036854775808 ≤ i64 n ∧ i64 n ≤ 9223372036854775807 := by unfold i64; omega
theorem Rd.int_bounds (s : Rd) : -9223372036854775808 ≤ s.int.1 ∧ s.int.1 ≤ 9223372036854775807 := i64_bounds _
def bit0 (n : Int) : Int := n % 2
def rtPlace (epoch : Int) : Int := 2 + bit0 epoch * 96
def rtSize (b : Sec) : Int × Int := ((((⟨b, false⟩ : Rd).text).2.int).1, ((((⟨b, false⟩ : Rd).text).2.int).2.int).1)
def rtOne (d : Dk) (which : Int) : Option (Int × List UInt8) :=
 let e := (rtSize (d.read which)).1; let n := (rtSize (d.read which)).2
 if (decide (e < 1) || decide (¬ bit0 e = which) || decide (n < 0) || decide (6144 < n) || !decide (d.read which = rootS e n) || !d.lies (rtPlace e) (need n)) = true then none
 else some (e, d.spanGet (rtPlace e) n)
def rtRead (d : Dk) : Option (Int × List UInt8) :=
 match rtOne d 1 with
 | some p => if ((rtOne d 0).map (·.1)).getD 0 < p.1 then some p else rtOne d 0
 | none => rtOne d 0
def rtLay (epoch : Int) (b : List UInt8) : DM :=
 DM.also (fun d => d.spanPut (rtPlace epoch) b)<|DM.also Dk.sync<|DM.also (fun d => d.write (bit0 epoch) (rootS epoch b.length)) Dk.sync
def rtWrite (epoch : Int) (b : List UInt8) (d : Dk) : Int × Dk :=
 if epoch < 1 then (1, d) else if 6144 < (b.length : Int) then (6, d) else if (rtLay epoch b d).1 = true then (0, (rtLay epoch b d).2) else (12, (rtLay epoch b d).2)
theorem ok_rtLay (epoch : Int) (b : List UInt8) : (rtLay epoch b).Ok ((need b.length).toNat + 1) :=
 ((ok_put _ _).also (ok_sync.also ((ok_write _ _).also ok_sync))).mono tO
theorem rtWrite_len (epoch : Int) (b : List UInt8) (d : Dk) : (rtWrite epoch b d).2.len = d.len := by
 unfold rtWrite
 split
 ·rfl
 ·split
  ·rfl
  ·split <;> exact (ok_rtLay epoch b).len d
theorem rtWrite_wf (epoch : Int) (b : List UInt8) {d : Dk} (h : d.wf) : (rtWrite epoch b d).2.wf := by
 unfold rtWrite
 split
 ·exact h
 ·split
  ·exact h
  ·split <;> exact (ok_rtLay epoch b).wf d h
theorem rtWrite_cnt (epoch : Int) (b : List UInt8) (d : Dk) : d.cnt ≤ (rtWrite epoch b d).2.cnt ∧ (rtWrite epoch b d).2.cnt ≤ d.cnt + 97 := by
 unfold rtWrite
 split
 ·exact ⟨Nat.le_refl _, Nat.le_add_right _ _⟩
 ·split
  ·exact ⟨Nat.le_refl _, Nat.le_add_right _ _⟩
  ·rename_i hb
   have h1 := (ok_rtLay epoch b).cnt d
   have h2 : need b.length ≤ 96 := by
    by_cases h : (b.length : Int) < 1
    ·unfold need; rw [if_pos h]; decide
    ·rw [need_pos tO]; omega
   split <;> (show d.cnt ≤ (rtLay epoch b d).2.cnt ∧ (rtLay epoch b d).2.cnt ≤ _; omega)
end Go.Proofs.YtkbhldicnamcdaaGreat.L
namespace Go.Proofs.YtkbhldicnamcdaaGreat.L
open Go
structure Ks where
 st : Stt
 epoch : Int
 dead : Bool
 lg : Lg
def recsS : Stt → List (List UInt8) → Option Stt
 | s, [] => some s
 | s, b :: l => match effRead b with
  | none => none
  | some es => if (applyS s es).2 = 0 then recsS (applyS s es).1 l else none
def kBegin (d : Dk) (epoch : Int) : Lg := Lg.opened d 194 160 epoch
def kStart (d : Dk) : Option (Stt × Int) :=
 match rtRead d with
 | none => some (⟨1, []⟩, 0)
 | some p => (imgRead p.2).map (fun s => (s, p.1))
def kRead (d : Dk) : Option Ks :=
 match kStart d with
 | none => none
 | some p => (recsS p.1 (kBegin d p.2).recs).map (fun s => ⟨s, p.2, false, kBegin d p.2⟩)
def kRenew (k : Ks) (d : Dk) : Int × Ks × Dk :=
 let w := rtWrite (i64 (k.epoch + 1)) (imgBytes k.st) d
 if w.1 = 0 then (0, { k with epoch := i64 (k.epoch + 1), lg := kBegin w.2 (i64 (k.epoch + 1)) }, w.2) else (12, k, w.2)
def kOpen (d : Dk) : Int × Ks × Dk :=
 match kRead d with
 | none => (11, ⟨⟨0, []⟩, 0, false, ⟨0, 0, 0, 0, [], false⟩⟩, d)
 | some k =>
  if claimsS k.st = [] ∧ 0 < k.epoch then (0, k, d)
  else if (applyS k.st (claimsS k.st)).2 = 0 then kRenew { k with st := (applyS k.st (claimsS k.st)).1 } d
  else (11, k, d)
def kAppend (k : Ks) (b : List UInt8) (d : Dk) : Int × Ks × Dk :=
 if k.lg.room < (b.length : Int) then
  if 10176 < (b.length : Int) then (9, k, d)
  else
   let r := kRenew k d
   if r.1 = 0 then let a := r.2.1.lg.append b r.2.2; (a.1, { r.2.1 with lg := a.2.1 }, a.2.2) else r
 else let a := k.lg.append b d; (a.1, { k with lg := a.2.1 }, a.2.2)
def kDo (k : Ks) (l : List Eff) (d : Dk) : Int × Ks × Dk :=
 if k.dead = true then (12, k, d)
 else if ¬ (applyS k.st l).2 = 0 then ((applyS k.st l).2, k, d)
 else if (6000 : Int) < ((applyS k.st l).1.size : Nat) then (9, k, d)
 else if l = [] then (0, k, d)
 else let r := kAppend k (effsBytes l) d
  (r.1, { r.2.1 with dead := decide (r.1 = 12), st := if r.1 = 0 then (applyS k.st l).1 else k.st }, r.2.2)
theorem kBegin_wf {d : Dk} (h : d.wf) (e : Int) : (kBegin d e).wf := Lg.opened_wf h tD tD tD
theorem scan_at (d : Dk) : ∀ (n : Nat) (g : Lg), (Lg.scan d n g).at_ = g.at_ ∧ (Lg.scan d n g).end_ = g.end_
 | 0, _ => ⟨rfl, rfl⟩
 | n + 1, g => by
  have hs : (Lg.step d g).2.at_ = g.at_ ∧ (Lg.step d g).2.end_ = g.end_ := by unfold Lg.step; split <;> exact ⟨rfl, rfl⟩
  unfold Lg.scan
  split
  ·split
   ·have := scan_at d n (Lg.step d g).2
    exact ⟨this.1.trans hs.1, this.2.trans hs.2⟩
   ·exact ⟨rfl, rfl⟩
  ·exact ⟨rfl, rfl⟩
theorem kBegin_at (d : Dk) (e : Int) : (kBegin d e).end_ ≤ 354 ∧ 194 ≤ (kBegin d e).at_ := by
 have := scan_at d (160 : Int).toNat ⟨194, 194 + 160, 194, e, [], false⟩
 have h1 : (kBegin d e).at_ = 194 := this.1
 have h2 : (kBegin d e).end_ = 194 + 160 := this.2
 omega
theorem kRenew_len (k : Ks) (d : Dk) : (kRenew k d).2.2.len = d.len := by
 unfold kRenew
 dsimp only
 split <;> exact rtWrite_len _ _ _
theorem kRenew_wf (k : Ks) {d : Dk} (h : d.wf) : (kRenew k d).2.2.wf := by
 unfold kRenew
 dsimp only
 split <;> exact rtWrite_wf _ _ h
theorem kRenew_cnt (k : Ks) (d : Dk) : d.cnt ≤ (kRenew k d).2.2.cnt ∧ (kRenew k d).2.2.cnt ≤ d.cnt + 97 := by
 unfold kRenew
 dsimp only
 split <;> exact rtWrite_cnt _ _ _
theorem kRenew_lg {k : Ks} {d : Dk} (h : d.wf) (hk : k.lg.wf) : (kRenew k d).2.1.lg.wf := by
 unfold kRenew
 dsimp only
 split
 ·exact kBegin_wf (rtWrite_wf _ _ h) _
 ·exact hk
theorem kRenew_st (k : Ks) (d : Dk) : (kRenew k d).2.1.st = k.st := by
 unfold kRenew
 dsimp only
 split <;> rfl
theorem kRenew_dead (k : Ks) (d : Dk) : (kRenew k d).2.1.dead = k.dead := by
 unfold kRenew
 dsimp only
 split <;> rfl
theorem kRead_wf {d : Dk} (h : d.wf) {k : Ks} (hk : kRead d = some k) : k.lg.wf := by
 unfold kRead at hk
 split at hk
 ·cases hk
 ·rename_i p _
  cases hr : recsS p.1 (kBegin d p.2).recs with
  | none => rw [hr] at hk; cases hk
  | some s => rw [hr] at hk; cases hk; exact kBegin_wf h _
theorem kOpen_wf {d : Dk} (h : d.wf) : (kOpen d).2.2.wf := by
 unfold kOpen
 split
 ·exact h
 ·split
  ·exact h
  ·split
   ·exact kRenew_wf _ h
   ·exact h
theorem kAppend_len (k : Ks) (b : List UInt8) (d : Dk) : (kAppend k b d).2.2.len = d.len := by
 unfold kAppend
 split
 ·split
  ·rfl
  ·dsimp only
   split
   ·show (Lg.append _ _ _).2.2.len = _; rw [Lg.append_len, kRenew_len]
   ·exact kRenew_len _ _
 ·exact Lg.append_len _ _ _
theorem kAppend_wf (k : Ks) (b : List UInt8) {d : Dk} (h : d.wf) : (kAppend k b d).2.2.wf := by
 unfold kAppend
 split
 ·split
  ·exact h
  ·dsimp only
   split
   ·exact Lg.append_wf _ _ (kRenew_wf k h)
   ·exact kRenew_wf k h
 ·exact Lg.append_wf _ _ h
theorem kDo_len (k : Ks) (l : List Eff) (d : Dk) : (kDo k l d).2.2.len = d.len := by
 unfold kDo
 split
 ·rfl
 ·split
  ·rfl
  ·split
   ·rfl
   ·split
    ·rfl
    ·exact kAppend_len _ _ _
theorem kDo_wf (k : Ks) (l : List Eff) {d : Dk} (h : d.wf) : (kDo k l d).2.2.wf := by
 unfold kDo
 split
 ·exact h
 ·split
  ·exact h
  ·split
   ·exact h
   ·split
    ·exact h
    ·exact kAppend_wf _ _ h
theorem laid_get : ∀ (l : List (Nat × Sec)) (s : List Sec) (i : Nat), (∀ w ∈ l, w.1 ≠ i) → (laid s l)[i]? = s[i]?
 | [], _, _, _ => rfl
 | w :: l, s, i, h => by
  show (laid (s.set w.1 w.2) l)[i]? = _
  rw [laid_get l _ i (fun v hv => h v (List.mem_cons_of_mem _ hv)), List.getElem?_set_ne (h w List.mem_cons_self)]
structure Only (R : Nat → Prop) (d d' : Dk) : Prop where
 sure : d'.sure = d.sure
 wr : ∃ W, d'.l = d.l ++ W ∧ ∀ w ∈ W, R w.1
theorem Only.refl (R : Nat → Prop) (d : Dk) : Only R d d := ⟨rfl, [], by simp, fun w hw => by cases hw⟩
theorem Only.trans {R : Nat → Prop} {a b c : Dk} (h : Only R a b) (k : Only R b c) : Only R a c := by
 obtain ⟨h1, W, h2, h3⟩ := h
 obtain ⟨k1, V, k2, k3⟩ := k
 exact ⟨k1.trans h1, W ++ V, by rw [k2, h2, List.append_assoc], fun w hw => (List.mem_append.1 hw).elim (h3 w) (k3 w)⟩
theorem Only.mono {R Q : Nat → Prop} {a b : Dk} (h : Only R a b) (hi : ∀ i, R i → Q i) : Only Q a b := ⟨h.sure, h.wr.imp fun W hw => ⟨hw.1, fun w hm => hi _ (hw.2 w hm)⟩⟩
theorem only_write (d : Dk) (i : Int) (b : Sec) : Only (fun j => (j : Int) = i) d (d.write i b).2 := by
 unfold Dk.write
 split
 ·rename_i hm
  unfold Dk.may at hm
  simp only [Bool.and_eq_true, decide_eq_true_eq] at hm
  exact ⟨rfl, [(i.toNat, b)], rfl, fun w hw => by rw [List.mem_singleton.1 hw]; show ((i.toNat : Nat) : Int) = i; omega⟩
 ·exact Only.refl _ _
theorem only_puts : ∀ (l : List Sec) (d : Dk) (i : Int), Only (fun j => i ≤ (j : Int) ∧ (j : Int) < i + l.length) d (d.puts i l).2
 | [], d, i => Only.refl _ _
 | s :: l, d, i => by
  have hw := (only_write d i s).mono (Q := fun j => i ≤ (j : Int) ∧ (j : Int) < i + (s :: l).length) (fun j hj => by rw [List.length_cons]; omega)
  rw [Dk.puts_cons]
  split
  ·exact hw.trans ((only_puts l _ _).mono (fun j hj => by rw [List.length_cons]; omega))
  ·exact hw
theorem only_spanPut (d : Dk) (i : Int) (b : List UInt8) : Only (fun j => i ≤ (j : Int) ∧ (j : Int) < i + need b.length) d (d.spanPut i b).2 := by
 have hn := need_nn (b.length : Int)
 unfold Dk.spanPut
 split
 ·exact Only.refl _ _
 ·split
  ·exact (only_puts _ _ _).mono (fun j hj => by rw [secsOf_len] at hj; omega)
  ·exact Only.refl _ _
theorem Only.now {R : Nat → Prop} {d d' : Dk} (h : Only R d d') (hl : d.l = []) {i : Nat} (hi : ¬ R i) : d'.now[i]? = d.now[i]? := by
 obtain ⟨h1, W, h2, h3⟩ := h
 unfold Dk.now
 rw [h1, h2, hl, List.nil_append]
 exact laid_get W d.sure i (fun w hw e => hi (e ▸ h3 w hw))
theorem Only.crash {R : Nat → Prop} {d d' : Dk} (h : Only R d d') (hl : d.l = []) (keep : List Bool) {i : Nat} (hi : ¬ R i) : (d'.crash keep).now[i]? = d.now[i]? := by
 obtain ⟨h1, W, h2, h3⟩ := h
 show (laid d'.sure (Dk.stay d'.l keep))[i]? = (laid d.sure d.l)[i]?
 rw [h1, h2, hl, List.nil_append]
 exact laid_get _ d.sure i (fun w hw e => hi (e ▸ h3 w (Dk.stay_mem hw)))
theorem read_agree {d d' : Dk} (hl : d'.len = d.len) {i : Int} (h : ∀ j : Nat, (j : Int) = i → d'.now[j]? = d.now[j]?) : d'.read i = d.read i := by
 unfold Dk.read
 rw [hl]
 split
 ·rw [List.getD_eq_getElem?_getD, List.getD_eq_getElem?_getD, h i.toNat tO]
 ·rfl
theorem lies_agree {d d' : Dk} (hl : d'.len = d.len) (i n : Int) : d'.lies i n = d.lies i n := by unfold Dk.lies; rw [hl]
theorem reads_agree {d d' : Dk} {i : Int} : ∀ n : Nat, (∀ j : Int, i ≤ j → j < i + n → d'.read j = d.read j) → d'.reads i n = d.reads i n
 | 0, _ => rfl
 | n + 1, h => by
  rw [Dk.reads_succ, Dk.reads_succ, reads_agree n (fun j h1 h2 => h j h1 tO), h (i + n) tO tO]
theorem spanGet_agree {d d' : Dk} (hl : d'.len = d.len) {i n : Int} (h : ∀ j : Int, i ≤ j → j < i + need (Dk.cutN n) → d'.read j = d.read j) : d'.spanGet i n = d.spanGet i n := by
 have hn := need_nn (Dk.cutN n)
 unfold Dk.spanGet
 rw [lies_agree hl, reads_agree _ (fun j h1 h2 => h j h1 tO)]
theorem rtOne_bit {d : Dk} {w : Int} {p : Int × List UInt8} (h : rtOne d w = some p) : bit0 p.1 = w ∧ 1 ≤ p.1 := by
 unfold rtOne at h
 dsimp only at h
 split at h
 ·cases h
 ·rename_i hc
  cases h
  simp only [Bool.or_eq_true, decide_eq_true_eq, not_or, Decidable.not_not] at hc
  exact ⟨hc.1.1.1.1.2, by have := hc.1.1.1.1.1; show 1 ≤ _; omega⟩
theorem rtE_agree {d d' : Dk} (hl : d'.len = d.len) {w : Int} (h : d'.read w = d.read w) : (rtOne d' w).map (·.1) = (rtOne d w).map (·.1) := by
 unfold rtOne
 rw [h]
 dsimp only
 rw [lies_agree hl]
 split <;> rfl
theorem rtOne_agree {d d' : Dk} (hl : d'.len = d.len) {w : Int} (h : d'.read w = d.read w) (ha : ∀ e : Int, bit0 e = w → ∀ j : Int, rtPlace e ≤ j → j < rtPlace e + 96 → d'.read j = d.read j) : rtOne d' w = rtOne d w := by
 unfold rtOne
 rw [h]
 dsimp only
 rw [lies_agree hl]
 split
 ·rfl
 ·rename_i hc
  simp only [Bool.or_eq_true, decide_eq_true_eq, not_or, Decidable.not_not] at hc
  have h1 := hc.1.1.1.1.2
  have h2 : ¬ 6144 < (rtSize (d.read w)).2 := hc.1.1.2
  rw [spanGet_agree hl (fun j a b => ha _ h1 j a ?_)]
  have h3 : Dk.cutN (rtSize (d.read w)).2 ≤ 6144 := by unfold Dk.cutN; omega
  have h4 : need (Dk.cutN (rtSize (d.read w)).2) ≤ 96 := by
   by_cases hz : Dk.cutN (rtSize (d.read w)).2 < 1
   ·unfold need; rw [if_pos hz]; decide
   ·rw [need_pos tO]; omega
  omega
theorem rtRead_some {d : Dk} {e : Int} {b : List UInt8} : rtRead d = some (e, b) ↔ rtOne d (bit0 e) = some (e, b) ∧ ((rtOne d (1 - bit0 e)).map (·.1)).getD 0 < e := by
 have hb : ∀ {w : Int} {p : Int × List UInt8}, rtOne d w = some p → bit0 p.1 = w ∧ 1 ≤ p.1 := fun h => rtOne_bit h
 constructor
 ·intro h
  unfold rtRead at h
  rcases h1 : rtOne d 1 with _ | p
  ·rw [h1] at h
   have h : rtOne d 0 = some (e, b) := h
   obtain ⟨h2, h3⟩ := hb h
   have h2 : bit0 e = 0 := h2
   rw [h2]
   refine ⟨h, ?_⟩
   show ((rtOne d 1).map (·.1)).getD 0 < e
   rw [h1]; exact h3
  ·rw [h1] at h
   have h : (if ((rtOne d 0).map (·.1)).getD 0 < p.1 then some p else rtOne d 0) = some (e, b) := h
   split at h
   ·rename_i hlt
    cases h
    obtain ⟨h2, h3⟩ := hb h1
    have h2 : bit0 e = 1 := h2
    rw [h2]
    exact ⟨h1, hlt⟩
   ·rename_i hlt
    obtain ⟨h2, h3⟩ := hb h
    have h2 : bit0 e = 0 := h2
    rw [h2]
    refine ⟨h, ?_⟩
    show ((rtOne d 1).map (·.1)).getD 0 < e
    rw [h1]
    rw [h] at hlt
    have hlt : ¬ e < p.1 := hlt
    obtain ⟨h4, h5⟩ := hb h1
    have : ¬ p.1 = e := fun he => by rw [he, h2] at h4; exact absurd h4 tD
    show p.1 < e
    omega
 ·rintro ⟨h1, h2⟩
  unfold rtRead
  have hc : bit0 e = 0 ∨ bit0 e = 1 := by unfold bit0; omega
  rcases hc with hc | hc
  ·rw [hc] at h1 h2
   have h2 : ((rtOne d 1).map (·.1)).getD 0 < e := h2
   rcases h3 : rtOne d 1 with _ | p
   ·exact h1
   ·show (if ((rtOne d 0).map (·.1)).getD 0 < p.1 then some p else rtOne d 0) = _
    rw [h3] at h2
    have h2 : p.1 < e := h2
    rw [if_neg (by rw [h1]; show ¬ e < p.1; omega), h1]
  ·rw [hc] at h1 h2
   have h2 : ((rtOne d 0).map (·.1)).getD 0 < e := h2
   rw [h1]
   show (if ((rtOne d 0).map (·.1)).getD 0 < e then some (e, b) else rtOne d 0) = _
   rw [if_pos h2]
namespace Lg
theorem step_next (d : Dk) (g : Lg) : g.next ≤ (step d g).2.next := by
 unfold step
 split
 ·exact Int.le_refl _
 ·have := need_nn (size (d.read g.next)); show g.next ≤ g.next + 1 + _; omega
theorem scan_next (d : Dk) : ∀ (n : Nat) (g : Lg), g.next ≤ (scan d n g).next
 | 0, g => Int.le_refl _
 | n + 1, g => by
  unfold scan
  split
  ·split
   ·exact Int.le_trans (step_next d g) (scan_next d n _)
   ·exact Int.le_refl _
  ·exact Int.le_refl _
theorem step_agree {d d' : Dk} (hl : d'.len = d.len) {g : Lg} (h0 : d'.read g.next = d.read g.next) (h : (step d g).1 = true → ∀ j : Int, g.next < j → j < (step d g).2.next → d'.read j = d.read j) : step d' g = step d g := by
 by_cases hs : (step d g).1 = true
 ·have h := h hs
  unfold step at hs h ⊢
  rw [h0]
  split
  ·rfl
  ·rename_i hc
   rw [if_neg hc] at h
   have h : ∀ j : Int, g.next < j → j < g.next + 1 + need (size (d.read g.next)) → d'.read j = d.read j := h
   have hsz : 0 ≤ size (d.read g.next) := by
    simp only [Bool.or_eq_true, decide_eq_true_eq, not_or] at hc; have := hc.1.1; omega
   have hc2 : Dk.cutN (size (d.read g.next)) ≤ size (d.read g.next) := by unfold Dk.cutN; omega
   have hc3 : 0 ≤ Dk.cutN (size (d.read g.next)) := by unfold Dk.cutN; omega
   have hnm : need (Dk.cutN (size (d.read g.next))) ≤ need (size (d.read g.next)) := by
    by_cases hz : Dk.cutN (size (d.read g.next)) < 1
    ·have := need_nn (size (d.read g.next)); unfold need; rw [if_pos hz]; exact this
    ·rw [need_pos tO, need_pos tO]; omega
   rw [spanGet_agree hl (fun j a b => h j tO tO)]
 ·unfold step at hs ⊢
  rw [h0]
  split
  ·rfl
  ·rename_i hc; rw [if_neg hc] at hs; exact absurd rfl hs
theorem scan_succ (d : Dk) (n : Nat) (g : Lg) : scan d (n + 1) g = if g.fits 0 = true then (if (step d g).1 = true then scan d n (step d g).2 else g) else g := rfl
theorem scan_agree {d d' : Dk} (hl : d'.len = d.len) : ∀ (n : Nat) (g : Lg), (∀ j : Int, g.next ≤ j → j ≤ (scan d n g).next → d'.read j = d.read j) → scan d' n g = scan d n g
 | 0, g, _ => rfl
 | n + 1, g, h => by
  rw [scan_succ] at h
  rw [scan_succ, scan_succ]
  by_cases hf : g.fits 0 = true
  ·rw [if_pos hf] at h ⊢
   rw [if_pos hf]
   have hst : step d' g = step d g := by
    refine step_agree hl ?_ (fun hs j a b => ?_)
    ·refine h g.next (Int.le_refl _) ?_
     split
     ·exact Int.le_trans (step_next d g) (scan_next d n _)
     ·exact Int.le_refl _
    ·rw [if_pos hs] at h
     exact h j tO (Int.le_trans (Int.le_of_lt b) (scan_next d n _))
   rw [hst]
   by_cases hs : (step d g).1 = true
   ·rw [if_pos hs] at h ⊢
    rw [if_pos hs]
    exact scan_agree hl n _ (fun j a b => h j (Int.le_trans (step_next d g) a) b)
   ·rw [if_neg hs, if_neg hs]
  ·rw [if_neg hf, if_neg hf]
theorem scan_cont {d d' : Dk} (hl : d'.len = d.len) : ∀ (n : Nat) (g : Lg), g.end_ - g.next ≤ n → (∀ j : Int, g.next ≤ j → j < (scan d n g).next → d'.read j = d.read j) →
  ∃ m : Nat, scan d' n g = scan d' m (scan d n g) ∧ g.end_ - (scan d n g).next ≤ m
 | 0, g, hn, _ => ⟨0, rfl, hn⟩
 | n + 1, g, hn, h => by
  rw [scan_succ d] at h ⊢
  by_cases hf : g.fits 0 = true
  ·rw [if_pos hf] at h ⊢
   by_cases hs : (step d g).1 = true
   ·rw [if_pos hs] at h ⊢
    have hd := step_down hs
    have hst : step d' g = step d g := step_agree hl (h g.next (Int.le_refl _) (Int.lt_of_lt_of_le hd (scan_next d n _))) (fun _ j a b => h j tO (Int.lt_of_lt_of_le b (scan_next d n _)))
    have he := step_end d g
    obtain ⟨m, h1, h2⟩ := scan_cont hl n (step d g).2 (by rw [he]; omega) (fun j a b => h j tO b)
    refine ⟨m, ?_, by rw [he] at h2; exact h2⟩
    rw [scan_succ d', if_pos hf, hst, if_pos hs, h1]
   ·rw [if_neg hs] at h ⊢
    exact ⟨n + 1, rfl, hn⟩
  ·rw [if_neg hf] at h ⊢
   exact ⟨n + 1, rfl, hn⟩
end Lg
theorem head_text (e k n : Int) : ∃ z, Rd.text ⟨lgHead e k n, false⟩ = (recT, ⟨wInt e ++ (wInt k ++ (wInt n ++ z)), false⟩) := by
 refine ⟨List.replicate ((need (wText recT ++ wInt e ++ wInt k ++ wInt n).length).toNat * 64 - (wText recT ++ wInt e ++ wInt k ++ wInt n).length) 0, ?_⟩
 unfold lgHead fillB
 generalize List.replicate _ (0 : UInt8) = z
 rw [List.append_assoc, List.append_assoc, List.append_assoc]
 exact Rd.text_app' recT tD _
theorem root_text (e n : Int) : ∃ z, Rd.text ⟨rootS e n, false⟩ = (rootT, ⟨wInt e ++ (wInt n ++ z), false⟩) := by
 refine ⟨List.replicate ((need (wText rootT ++ wInt e ++ wInt n).length).toNat * 64 - (wText rootT ++ wInt e ++ wInt n).length) 0, ?_⟩
 unfold rootS fillB
 generalize List.replicate _ (0 : UInt8) = z
 rw [List.append_assoc, List.append_assoc]
 exact Rd.text_app' rootT tD _
def I64 (n : Int) : Prop := -9223372036854775808 ≤ n ∧ n ≤ 9223372036854775807
theorem head_size {e k n : Int} (he : I64 e) (hk : I64 k) (hn : I64 n) : Lg.size (lgHead e k n) = n := by
 obtain ⟨z, hz⟩ := head_text e k n
 unfold Lg.size
 rw [hz]
 dsimp only
 rw [Rd.int_app he.1 he.2]
 dsimp only
 rw [Rd.int_app hk.1 hk.2]
 dsimp only
 rw [Rd.int_app hn.1 hn.2]
theorem head_epoch {e k n e' k' n' : Int} (he : I64 e) (he' : I64 e') (h : lgHead e k n = lgHead e' k' n') : e = e' := by
 obtain ⟨z, hz⟩ := head_text e k n
 obtain ⟨z', hz'⟩ := head_text e' k' n'
 rw [h, hz'] at hz
 have hz := congrArg (fun p : ByteArray × Rd => (p.2.int).1) hz
 dsimp only at hz
 rw [Rd.int_app he.1 he.2, Rd.int_app he'.1 he'.2] at hz
 exact hz.symm
theorem root_size {e n : Int} (he : I64 e) (hn : I64 n) : rtSize (rootS e n) = (e, n) := by
 obtain ⟨z, hz⟩ := root_text e n
 unfold rtSize
 rw [hz]
 dsimp only
 rw [Rd.int_app he.1 he.2]
 dsimp only
 rw [Rd.int_app hn.1 hn.2]
theorem zero_head (e k n : Int) : zSec ≠ lgHead e k n := fun h => by
 obtain ⟨z, hz⟩ := head_text e k n
 rw [← h] at hz
 have := congrArg (fun p : ByteArray × Rd => p.1.size) hz
 exact absurd (show (Rd.text ⟨zSec, false⟩).1.size = 3 from this) tD
theorem write_read {d : Dk} {i : Int} {s : Sec} (h : (d.write i s).1 = true) : (d.write i s).2.read i = s ∧ 0 ≤ i ∧ i < (d.len : Int) := by
 unfold Dk.write at h ⊢
 split at h
 ·rename_i hm
  rw [if_pos hm]
  unfold Dk.may at hm
  simp only [Bool.and_eq_true, decide_eq_true_eq] at hm
  obtain ⟨⟨⟨h0, h1⟩, _⟩, _⟩ := hm
  refine ⟨?_, h0, h1⟩
  unfold Dk.read
  rw [if_pos ⟨h0, by rw [Dk.put_len]; exact h1⟩]
  have hn : (d.put i.toNat s).now = d.now.set i.toNat s := laid_snoc _ _ _ _
  rw [hn, List.getD_eq_getElem?_getD, List.getElem?_set_self (by rw [Dk.now_len]; omega)]
  rfl
 ·cases h
theorem write_other {d : Dk} {i j : Int} {s : Sec} (h : j ≠ i) : (d.write i s).2.read j = d.read j := by
 refine read_agree (Dk.write_len _ _ _) (fun n hn => ?_)
 unfold Dk.write
 split
 ·rename_i hm
  unfold Dk.may at hm
  simp only [Bool.and_eq_true, decide_eq_true_eq] at hm
  have hs : (d.put i.toNat s).now = d.now.set i.toNat s := laid_snoc _ _ _ _
  show (d.put i.toNat s).now[n]? = _
  rw [hs, List.getElem?_set_ne tO]
 ·rfl
theorem puts_other : ∀ (l : List Sec) (d : Dk) (i j : Int), j < i → (d.puts i l).2.read j = d.read j
 | [], _, _, _, _ => rfl
 | s :: l, d, i, j, h => by
  rw [Dk.puts_cons]
  split
  ·rw [puts_other l _ _ _ tO, write_other tO]
  ·exact write_other tO
theorem puts_reads : ∀ (l : List Sec) (d : Dk) (i : Int), (d.puts i l).1 = true → (d.puts i l).2.reads i l.length = l.flatten
 | [], _, _, _ => rfl
 | s :: l, d, i, h => by
  rw [Dk.puts_cons] at h ⊢
  split at h
  ·rename_i hw
   rw [if_pos hw]
   have ih := puts_reads l (d.write i s).2 (i + 1) h
   have h0 : (Dk.puts (d.write i s).2 (i + 1) l).2.read i = s := by rw [puts_other _ _ _ _ tO]; exact (write_read hw).1
   rw [List.flatten_cons, ← ih]
   have key : ∀ (D : Dk) (n : Nat), D.reads i (n + 1) = D.read i ++ D.reads (i + 1) n := fun D n => by
    induction n with
    | zero => unfold Dk.reads; simp
    | succ n ih => rw [Dk.reads_succ, ih, Dk.reads_succ, List.append_assoc]; congr 3; omega
   rw [List.length_cons, key, h0]
  ·cases h
theorem spanPut_get {d : Dk} {i : Int} {b : List UInt8} (h : (d.spanPut i b).1 = true) (hb : b.length ≤ 262144) : (d.spanPut i b).2.spanGet i b.length = b := by
 have hcut : Dk.cutN b.length = (b.length : Int) := by unfold Dk.cutN; omega
 unfold Dk.spanPut at h ⊢
 split at h
 ·rename_i h0
  rw [if_pos h0]
  have hb0 : b = [] := List.length_eq_zero_iff.1 tO
  subst hb0
  unfold Dk.spanGet
  split <;> rfl
 ·rename_i h0
  rw [if_neg h0]
  split at h
  ·rename_i hl
   rw [if_pos hl]
   have hr := puts_reads (secsOf b) d i h
   have hj : (secsOf b).flatten = fillB b := secs_join _ _ (fillB_len b)
   rw [secsOf_len, hj] at hr
   unfold Dk.spanGet
   rw [hcut, lies_agree (Dk.puts_len _ _ _), if_pos hl, hr, Int.toNat_natCast]
   unfold fillB
   exact List.take_left
  ·cases h
def top : Int := 4611686018427387904
structure IC (k : Ks) (d : Dk) : Prop where
 rd : kRead d = some k
 len : d.len = 354
 ep : 1 ≤ k.epoch
 fresh : ∀ e' n : Int, k.epoch < e' → e' ≤ top → d.read 194 ≠ lgHead e' 1 n
theorem kRead_iff {d : Dk} {k : Ks} (he : 1 ≤ k.epoch) : kRead d = some k ↔ ∃ b s0, rtRead d = some (k.epoch, b) ∧ imgRead b = some s0 ∧ k.lg = kBegin d k.epoch ∧ recsS s0 k.lg.recs = some k.st ∧ k.dead = false := by
 constructor
 ·intro h
  unfold kRead kStart at h
  rcases hr : rtRead d with _ | p
  ·rw [hr] at h
   dsimp only at h
   cases hs : recsS ⟨1, []⟩ (kBegin d 0).recs with
   | none => rw [hs] at h; cases h
   | some s => rw [hs] at h; cases h; exact absurd he (by show ¬ (1 : Int) ≤ 0; decide)
  ·rw [hr] at h
   dsimp only at h
   cases hi : imgRead p.2 with
   | none => rw [hi] at h; cases h
   | some s0 =>
    rw [hi] at h
    dsimp only [Option.map_some] at h
    cases hs : recsS s0 (kBegin d p.1).recs with
    | none => rw [hs] at h; cases h
    | some s => rw [hs] at h; cases h; exact ⟨p.2, s0, rfl, hi, rfl, hs, rfl⟩
 ·rintro ⟨b, s0, h1, h2, h3, h4, h5⟩
  unfold kRead kStart
  rw [h1]
  dsimp only
  rw [h2]
  dsimp only [Option.map_some]
  rw [← h3, h4]
  obtain ⟨st, ep, dd, lg⟩ := k
  cases h5
  rfl
theorem kBegin_next (d : Dk) (e : Int) : 194 ≤ (kBegin d e).next := Lg.scan_next d _ ⟨194, 194 + 160, 194, e, [], false⟩
theorem scan_ep (d : Dk) : ∀ (n : Nat) (g : Lg), (Lg.scan d n g).epoch = g.epoch ∧ (Lg.scan d n g).failed = g.failed
 | 0, _ => ⟨rfl, rfl⟩
 | n + 1, g => by
  have hs : (Lg.step d g).2.epoch = g.epoch ∧ (Lg.step d g).2.failed = g.failed := by unfold Lg.step; split <;> exact ⟨rfl, rfl⟩
  rw [Lg.scan_succ]
  split
  ·split
   ·have := scan_ep d n (Lg.step d g).2
    exact ⟨this.1.trans hs.1, this.2.trans hs.2⟩
   ·exact ⟨rfl, rfl⟩
  ·exact ⟨rfl, rfl⟩
theorem kBegin_eq (d : Dk) (e : Int) : (kBegin d e).at_ = 194 ∧ (kBegin d e).end_ = 354 ∧ (kBegin d e).epoch = e ∧ (kBegin d e).failed = false := by
 have h1 := scan_at d (160 : Int).toNat ⟨194, 194 + 160, 194, e, [], false⟩
 have h2 := scan_ep d (160 : Int).toNat ⟨194, 194 + 160, 194, e, [], false⟩
 exact ⟨h1.1, h1.2, h2.1, h2.2⟩
theorem rtPlace_rng (e : Int) : 2 ≤ rtPlace e ∧ rtPlace e + 96 ≤ 194 := by unfold rtPlace bit0; omega
def Dep (k : Ks) (j : Int) : Prop := j = 0 ∨ j = 1 ∨ (rtPlace k.epoch ≤ j ∧ j < rtPlace k.epoch + 96) ∨ (194 ≤ j ∧ j ≤ k.lg.next)
theorem bit0_01 (n : Int) : bit0 n = 0 ∨ bit0 n = 1 := by unfold bit0; omega
theorem IC.agree {k : Ks} {d d' : Dk} (h : IC k d) (hl : d'.len = d.len) (ha : ∀ j, Dep k j → d'.read j = d.read j) : IC k d' := by
 obtain ⟨b, s0, h1, h2, h3, h4, h5⟩ := (kRead_iff h.ep).1 h.rd
 have hb : ∀ w : Int, w = 0 ∨ w = 1 → d'.read w = d.read w := fun w hw => ha w (hw.elim .inl (fun e => .inr (.inl e)))
 obtain ⟨r1, r2⟩ := rtRead_some.1 h1
 have hrt : rtRead d' = some (k.epoch, b) := by
  refine rtRead_some.2 ⟨?_, ?_⟩
  ·rw [rtOne_agree hl (hb _ (bit0_01 _)) (fun e he j a c => ha j (.inr (.inr (.inl ?_)))), r1]
   unfold rtPlace at a c ⊢
   rw [he] at a c
   exact ⟨a, c⟩
  ·rw [rtE_agree hl (hb _ (by have := bit0_01 k.epoch; omega))]; exact r2
 have hlg : kBegin d' k.epoch = kBegin d k.epoch := Lg.scan_agree hl _ _ (fun j a c => ha j (.inr (.inr (.inr ⟨a, by rw [h3]; exact c⟩))))
 have hn := kBegin_next d k.epoch
 rw [← h3] at hn
 exact ⟨(kRead_iff h.ep).2 ⟨b, s0, hrt, h2, by rw [hlg]; exact h3, h4, h5⟩, hl.trans h.len, h.ep, fun e' n a c => by rw [ha 194 (.inr (.inr (.inr ⟨Int.le_refl _, hn⟩)))]; exact h.fresh e' n a c⟩
theorem IC.head {k : Ks} {d d' : Dk} {b : List UInt8} {es : List Eff} {st' : Stt} (h : IC k d) (hep : k.epoch ≤ top) (hw : k.lg.wf) (hl : d'.len = d.len) (ha : ∀ j, Dep k j → j ≠ k.lg.next → d'.read j = d.read j)
  (hf : k.lg.fits b.length = true) (hh : d'.read k.lg.next = lgHead k.epoch (k.lg.recs.length + 1) b.length) (hb : d'.spanGet (k.lg.next + 1) b.length = b) (hz : k.lg.behind b < 354 → d'.read (k.lg.behind b) = zSec)
  (he : effRead b = some es) (hs : applyS k.st es = (st', 0)) : IC { k with st := st', lg := { k.lg with recs := k.lg.recs ++ [b], next := k.lg.behind b } } d' := by
 obtain ⟨b0, s0, h1, h2, h3, h4, h5⟩ := (kRead_iff h.ep).1 h.rd
 have hbe := kBegin_eq d k.epoch
 rw [← h3] at hbe
 have hn := kBegin_next d k.epoch
 rw [← h3] at hn
 have hnx := hw.nx
 have hgl := hw.len
 have hfi := Lg.fits_iff.1 hf
 have hsz := Lg.fits_size hw (Int.natCast_nonneg _) hf
 have hnn := need_nn (b.length : Int)
 have hbn : ∀ w : Int, w = 0 ∨ w = 1 → d'.read w = d.read w := fun w hw' => ha w (hw'.elim .inl (fun e => .inr (.inl e))) tO
 obtain ⟨r1, r2⟩ := rtRead_some.1 h1
 have hpl := rtPlace_rng k.epoch
 have hrt : rtRead d' = some (k.epoch, b0) := by
  refine rtRead_some.2 ⟨?_, ?_⟩
  ·rw [rtOne_agree hl (hbn _ (bit0_01 _)) (fun e he j a c => ?_), r1]
   have e1 : rtPlace e = rtPlace k.epoch := by unfold rtPlace; rw [he]
   rw [e1] at a c
   exact ha j (.inr (.inr (.inl ⟨a, c⟩))) tO
  ·rw [rtE_agree hl (hbn _ (by have := bit0_01 k.epoch; omega))]; exact r2
 have hE : I64 k.epoch := ⟨by have := h.ep; omega, by unfold top at hep; omega⟩
 have hK : I64 ((k.lg.recs.length : Int) + 1) := ⟨by omega, by omega⟩
 have hN : I64 (b.length : Int) := ⟨by omega, by omega⟩
 have hhs := head_size hE hK hN
 -- the scan goes on
 obtain ⟨m, hm1, hm2⟩ := Lg.scan_cont (d := d) (d' := d') hl (160 : Int).toNat ⟨194, 194 + 160, 194, k.epoch, [], false⟩ (by show (194 : Int) + 160 - 194 ≤ ((160 : Int).toNat : Int); decide) (fun j a c => by
  have c : j < (kBegin d k.epoch).next := c
  rw [← h3] at c
  exact ha j (.inr (.inr (.inr ⟨a, by omega⟩))) tO)
 have hm1 : kBegin d' k.epoch = Lg.scan d' m (kBegin d k.epoch) := hm1
 have hm2 : (194 : Int) + 160 - (kBegin d k.epoch).next ≤ m := hm2
 rw [← h3] at hm1 hm2
 obtain ⟨m', rfl⟩ : ∃ m', m = m' + 1 := ⟨m - 1, by omega⟩
 have hst : Lg.step d' k.lg = (true, { k.lg with recs := k.lg.recs ++ [b], next := k.lg.behind b }) := by
  have e1 : Lg.size (d'.read k.lg.next) = (b.length : Int) := by rw [hh]; exact hhs
  have e2 : d'.read k.lg.next = lgHead k.lg.epoch (k.lg.recs.length + 1) b.length := by rw [hbe.2.2.1]; exact hh
  unfold Lg.step
  rw [e1, hb, if_neg]
  ·rfl
  ·rw [hf, decide_eq_true e2]; simp
 have hf0 : k.lg.fits 0 = true := Lg.fits_iff.2 ⟨hfi.1, by show (0 : Int) ≤ _; omega⟩
 have hstop : ∀ q : Nat, Lg.scan d' q { k.lg with recs := k.lg.recs ++ [b], next := k.lg.behind b } = { k.lg with recs := k.lg.recs ++ [b], next := k.lg.behind b } := fun q => by
  cases q with
  | zero => rfl
  | succ q =>
   rw [Lg.scan_succ]
   split
   ·rename_i hff
    have hb354 : k.lg.behind b < 354 := by have := (Lg.fits_iff.1 hff).1; dsimp only at this; omega
    rw [if_neg]
    unfold Lg.step
    dsimp only
    rw [hz hb354, if_pos]
    ·exact Bool.false_ne_true
    ·rw [decide_eq_false (zero_head _ _ _)]; simp
   ·rfl
 have hlg : kBegin d' k.epoch = { k.lg with recs := k.lg.recs ++ [b], next := k.lg.behind b } := by
  rw [hm1, Lg.scan_succ, if_pos hf0, hst, if_pos rfl]
  exact hstop m'
 have hrec : ∀ (l : List (List UInt8)) (s t : Stt), recsS s l = some t → recsS s (l ++ [b]) = (match effRead b with | none => none | some es => if (applyS t es).2 = 0 then some (applyS t es).1 else none) := by
  intro l
  induction l with
  | nil => intro s t hh; cases hh; rfl
  | cons x l ih =>
   intro s t hh
   rw [List.cons_append]
   unfold recsS at hh ⊢
   split at hh
   ·cases hh
   ·split at hh
    ·rename_i hz'; rw [if_pos hz']; exact ih _ _ hh
    ·cases hh
 refine ⟨(kRead_iff (k := { k with st := st', lg := { k.lg with recs := k.lg.recs ++ [b], next := k.lg.behind b } }) h.ep).2 ⟨b0, s0, hrt, h2, hlg.symm, ?_, h5⟩, hl.trans h.len, h.ep, fun e' n a c => ?_⟩
 ·show recsS s0 (k.lg.recs ++ [b]) = some st'
  rw [hrec _ _ _ h4, he]
  dsimp only
  rw [hs, if_pos rfl]
 ·have a : k.epoch < e' := a
  by_cases h194 : k.lg.next = 194
  ·rw [h194] at hh
   rw [hh]
   intro hq
   have := head_epoch hE ⟨by have := h.ep; omega, by unfold top at c; omega⟩ hq
   omega
  ·rw [ha 194 (.inr (.inr (.inr ⟨Int.le_refl _, hn⟩))) tO]
   exact h.fresh e' n a c
theorem IC.root {d' : Dk} {E : Int} {img : List UInt8} {s' : Stt} (h1 : 1 ≤ E) (h2 : E ≤ top) (hl : d'.len = 354) (hr : d'.read (bit0 E) = rootS E img.length) (hg : d'.spanGet (rtPlace E) img.length = img) (hi : img.length ≤ 6144) (hs : imgRead img = some s')
  (ho : ((rtOne d' (1 - bit0 E)).map (·.1)).getD 0 < E) (hf : ∀ e' n : Int, E ≤ e' → e' ≤ top → d'.read 194 ≠ lgHead e' 1 n) : IC ⟨s', E, false, ⟨194, 354, 194, E, [], false⟩⟩ d' := by
 have hE : I64 E := ⟨by omega, by unfold top at h2; omega⟩
 have hN : I64 (img.length : Int) := ⟨by omega, by omega⟩
 have hpl := rtPlace_rng E
 have hneed : need (img.length : Int) ≤ 96 := by
  by_cases hz : (img.length : Int) < 1
  ·unfold need; rw [if_pos hz]; decide
  ·rw [need_pos tO]; omega
 have hly : d'.lies (rtPlace E) (need img.length) = true := by
  unfold Dk.lies
  rw [hl]
  simp only [Bool.and_eq_true, decide_eq_true_eq]
  omega
 have hone : rtOne d' (bit0 E) = some (E, img) := by
  unfold rtOne
  rw [hr, root_size hE hN]
  dsimp only
  rw [if_neg, hg]
  rw [hly]
  simp
  omega
 have hrt : rtRead d' = some (E, img) := rtRead_some.2 ⟨hone, ho⟩
 have hlg : kBegin d' E = ⟨194, 354, 194, E, [], false⟩ := by
  show Lg.scan d' (160 : Int).toNat ⟨194, 194 + 160, 194, E, [], false⟩ = _
  rw [show (160 : Int).toNat = 159 + 1 from rfl, Lg.scan_succ]
  split
  ·rw [if_neg]
   ·rfl
   ·unfold Lg.step
    dsimp only
    rw [if_pos]
    ·exact Bool.false_ne_true
    ·have hne : decide (d'.read 194 = lgHead E ((([] : List (List UInt8)).length : Int) + 1) (Lg.size (d'.read 194))) = false := decide_eq_false (hf E _ (Int.le_refl _) h2)
     rw [hne]; simp
  ·rfl
 exact ⟨(kRead_iff (k := ⟨s', E, false, ⟨194, 354, 194, E, [], false⟩⟩) h1).2 ⟨img, s', hrt, hs, hlg.symm, rfl, rfl⟩, hl, h1, fun e' n a c => hf e' n (Int.le_of_lt a) c⟩
theorem mright_fits {m : Msg} (h : m.right = true) : m.fits := by
 unfold Msg.right at h
 simp only [Bool.and_eq_true, decide_eq_true_eq] at h
 exact ⟨by omega, by omega, by omega, trivial, by omega, by omega⟩
theorem effName_le {s : ByteArray} (h : effName s = true) : (s.size : Int) ≤ 16 := by
 unfold effName at h
 rw [Bool.and_eq_true, decide_eq_true_eq, decide_eq_true_eq] at h
 exact h.2
theorem effId_le {n : Int} (h : effId n = true) : 1 ≤ n ∧ n ≤ 1099511627776 := by
 unfold effId at h
 rw [Bool.and_eq_true, decide_eq_true_eq, decide_eq_true_eq] at h
 exact h
theorem rwKey_le {s : ByteArray} (h : rwKey s = true) : (s.size : Int) ≤ 40 := by
 unfold rwKey at h
 rw [Bool.and_eq_true, decide_eq_true_eq, decide_eq_true_eq] at h
 exact h.2
theorem zmsg_fits : (⟨0, 0, 0, false, ⟨#[]⟩, ⟨#[]⟩⟩ : Msg).fits := ⟨by decide, by decide, by decide, trivial, by decide, by decide⟩
theorem right_fits {e : Eff} (h : e.right = true) : e.fits := by
 unfold Eff.right at h
 rw [Bool.and_eq_true, decide_eq_true_eq] at h
 obtain ⟨hn, hk⟩ := h
 have z1 : -9223372036854775808 ≤ (0 : Int) ∧ (0 : Int) ≤ 9223372036854775807 := by decide
 have z0 : (((⟨#[]⟩ : ByteArray).size : Nat) : Int) ≤ 9223372036854775807 := by decide
 unfold Eff.rightK at hk
 unfold Eff.named at hn
 dsimp only at hn
 split at hk
 ·rename_i k
  rw [if_pos k] at hn
  rw [Bool.and_eq_true] at hk
  have := effName_le hk.1
  have hl : (1 ≤ e.n ∧ e.n ≤ 2) ∧ 0 ≤ e.limit ∧ e.limit ≤ 1000 := by
   have h3 := hk.2
   unfold effKind at h3
   split at h3
   ·have := of_decide_eq_true h3; omega
   ·split at h3
    ·rw [Bool.and_eq_true, decide_eq_true_eq, decide_eq_true_eq] at h3; omega
    ·cases h3
  rw [hn]
  exact ⟨by show _ ≤ e.kind ∧ e.kind ≤ _; omega, by show (e.object.size : Int) ≤ _; omega, z0, z0, by show _ ≤ e.n ∧ e.n ≤ _; omega, by show _ ≤ e.limit ∧ e.limit ≤ _; omega, trivial, zmsg_fits⟩
 ·rename_i k1
  rw [if_neg k1] at hn
  split at hk
  ·rename_i k
   rw [if_pos k] at hn
   rw [Bool.and_eq_true] at hk
   have h1 := effName_le hk.1
   have h2 := hk.2
   unfold Rw.right at h2
   rw [Bool.and_eq_true, decide_eq_true_eq] at h2
   have h3 := rwKey_le h2.1
   have h4 := h2.2
   dsimp only at h3 h4
   rw [hn]
   exact ⟨by show _ ≤ e.kind ∧ e.kind ≤ _; omega, by show (e.object.size : Int) ≤ _; omega, by show (e.key.size : Int) ≤ _; omega, by show (e.value.size : Int) ≤ _; omega, z1, z1, trivial, zmsg_fits⟩
  ·rename_i k2
   rw [if_neg k2] at hn
   split at hk
   ·rename_i k
    rw [if_pos k] at hn
    rw [Bool.and_eq_true] at hk
    have h1 := effName_le hk.1
    have h3 := rwKey_le hk.2
    rw [hn]
    exact ⟨by show _ ≤ e.kind ∧ e.kind ≤ _; omega, by show (e.object.size : Int) ≤ _; omega, by show (e.key.size : Int) ≤ _; omega, z0, z1, z1, trivial, zmsg_fits⟩
   ·rename_i k3
    rw [if_neg k3] at hn
    split at hk
    ·rename_i k
     rw [if_pos k] at hn
     rw [Bool.and_eq_true] at hk
     have h1 := effName_le hk.1
     have h3 := mright_fits hk.2
     rw [hn]
     exact ⟨by show _ ≤ e.kind ∧ e.kind ≤ _; omega, by show (e.object.size : Int) ≤ _; omega, z0, z0, z1, z1, trivial, h3⟩
    ·rename_i k4
     rw [if_neg k4] at hn
     split at hk
     ·rename_i k
      rw [Bool.and_eq_true] at hk
      have h1 := effName_le hk.1
      have h3 := effId_le hk.2
      by_cases k56 : e.kind = 5 ∨ e.kind = 6
      ·rw [if_pos k56] at hn
       rw [hn]
       exact ⟨by show _ ≤ e.kind ∧ e.kind ≤ _; omega, by show (e.object.size : Int) ≤ _; omega, z0, z0, by show _ ≤ e.n ∧ e.n ≤ _; omega, z1, trivial, zmsg_fits⟩
      ·have k7 : e.kind = 7 := by omega
       rw [if_neg k56, if_pos k7] at hn
       rw [hn]
       exact ⟨by show _ ≤ e.kind ∧ e.kind ≤ _; omega, by show (e.object.size : Int) ≤ _; omega, z0, z0, by show _ ≤ e.n ∧ e.n ≤ _; omega, z1, trivial, zmsg_fits⟩
     ·rename_i k5
      split at hk
      ·rename_i k
       have h3 := effId_le hk
       rw [if_neg tO, if_neg tO, if_pos k] at hn
       rw [hn]
       exact ⟨by show _ ≤ e.kind ∧ e.kind ≤ _; omega, z0, z0, z0, by show _ ≤ e.n ∧ e.n ≤ _; omega, z1, trivial, zmsg_fits⟩
      ·cases hk
theorem doS_right {s : Stt} {e : Eff} (h : (doS s e).2 = 0) : e.right = true := by
 unfold doS at h
 split at h
 ·exact absurd (show (1 : Int) = 0 from h) tD
 ·rename_i hr; simpa using hr
theorem doAll_rights : ∀ {l : List Eff} {s : Stt}, (doAll s l).2 = 0 → ∀ e ∈ l, e.right = true
 | [], _, _, e, he => by cases he
 | x :: l, s, h, e, he => by
  unfold doAll at h
  by_cases c : (doS s x).2 = 0
  ·rw [if_pos c] at h
   rcases List.mem_cons.1 he with rfl | he
   ·exact doS_right c
   ·exact doAll_rights h e he
  ·rw [if_neg c] at h; exact absurd h c
theorem effs_back {s : Stt} {l : List Eff} (h : (applyS s l).2 = 0) (hl : l.length ≤ 10000) : effRead (effsBytes l) = some l := by
 have hr : ∀ e ∈ l, e.right = true := by
  rw [(apply_right h).2.2] at h
  exact doAll_rights h
 have := effRead_bytes l [] hl (fun e he => right_fits (hr e he))
 rw [List.append_nil] at this
 rw [this, if_pos ⟨List.all_eq_true.2 hr, rfl⟩]
theorem cd (n : Int) (h : 0 ≤ n ∧ n ≤ 7 := by decide) : 0 ≤ n ∧ n ≤ 7 := h
theorem doS_code (s : Stt) (e : Eff) : 0 ≤ (doS s e).2 ∧ (doS s e).2 ≤ 7 := by
 have hm : 0 ≤ (makeS s e).2 ∧ (makeS s e).2 ≤ 7 := by
  unfold makeS; split
  ·exact cd 4
  ·split
   ·exact cd 6
   ·exact cd 0
 have hn : 0 ≤ (nextS s e.n).2 ∧ (nextS s e.n).2 ≤ 7 := by
  unfold nextS; split
  ·exact cd 1
  ·exact cd 0
 have ht : ∀ o, 0 ≤ (tableO o e).2 ∧ (tableO o e).2 ≤ 7 := fun o => by
  unfold tableO; split
  ·exact cd 0
  ·dsimp only; split <;> decide
 have hq : ∀ o, 0 ≤ (queueO s o e).2 ∧ (queueO s o e).2 ≤ 7 := fun o => by
  unfold queueO
  split
  ·split
   ·exact cd 1
   ·split
    ·exact cd 4
    ·exact cd 0
  ·split
   ·dsimp only; split <;> decide
   ·split
    ·split
     ·exact cd 7
     ·dsimp only; split <;> decide
    ·split
     ·dsimp only; split <;> decide
     ·exact cd 7
 unfold doS
 split
 ·exact cd 1
 ·split
  ·exact hm
  ·split
   ·exact hn
   ·split
    ·exact cd 3
    ·split
     ·exact cd 5
     ·split
      ·exact ht _
      ·exact hq _
theorem doAll_code : ∀ (l : List Eff) (s : Stt), 0 ≤ (doAll s l).2 ∧ (doAll s l).2 ≤ 7
 | [], _ => cd 0
 | e :: l, s => by
  unfold doAll
  split
  ·exact doAll_code l _
  ·exact doS_code s e
theorem apply_code (s : Stt) (l : List Eff) : 0 ≤ (applyS s l).2 ∧ (applyS s l).2 ≤ 7 := by
 unfold applyS
 split
 ·exact cd 1
 ·exact doAll_code l s
theorem recsS_ok : ∀ {l : List (List UInt8)} {s t : Stt}, recsS s l = some t → s.right = true → t.right = true ∧ t.cnt ≤ s.cnt + (l.map List.length).sum
 | [], s, t, h, hr => by cases h; exact ⟨hr, Nat.le_refl _⟩
 | b :: l, s, t, h, hr => by
  unfold recsS at h
  split at h
  ·cases h
  ·rename_i es he
   split at h
   ·rename_i h0
    obtain ⟨h1, h2⟩ := recsS_ok h (apply_right h0).2.1
    have h3 := apply_cnt s es
    have h4 := effRead_len he
    refine ⟨h1, ?_⟩
    rw [List.map_cons, List.sum_cons]; omega
   ·cases h
theorem rtRead_le {d : Dk} {p : Int × List UInt8} (h : rtRead d = some p) : p.2.length ≤ 6144 := by
 have key : ∀ {w : Int} {p : Int × List UInt8}, rtOne d w = some p → p.2.length ≤ 6144 := fun h => by
  unfold rtOne at h
  dsimp only at h
  split at h
  ·cases h
  ·rename_i w p hc
   cases h
   have h1 := Dk.spanGet_cut d (rtPlace (rtSize (d.read w)).1) (rtSize (d.read w)).2
   simp only [Bool.or_eq_true, decide_eq_true_eq, not_or] at hc
   have h2 : ¬ 6144 < (rtSize (d.read w)).2 := hc.1.1.2
   have h3 : ¬ (rtSize (d.read w)).2 < 0 := hc.1.1.1.2
   have h4 : Dk.cutN (rtSize (d.read w)).2 ≤ 6144 := by unfold Dk.cutN; omega
   show (d.spanGet _ _).length ≤ 6144
   omega
 unfold rtRead at h
 split at h
 ·rename_i p1 h1
  split at h
  ·cases h; exact key h1
  ·exact key h
 ·exact key h
structure KsOk (k : Ks) : Prop where
 right : k.st.right = true
 cnt : k.st.cnt ≤ 30000
 lg : k.lg.wf
theorem kRead_ok {d : Dk} {k : Ks} (hw : d.wf) (h : kRead d = some k) : KsOk k := by
 have hlg := kRead_wf hw h
 have key : ∀ p : Stt × Int, kStart d = some p → p.1.right = true ∧ p.1.cnt ≤ 6144 := fun p hp => by
  unfold kStart at hp
  split at hp
  ·cases hp; exact ⟨init_right, Nat.zero_le _⟩
  ·rename_i q hq
   obtain ⟨s, hs, rfl⟩ := Option.map_eq_some_iff.1 hp
   have h1 := imgRead_can hs
   have h2 := cnt_bytes s
   rw [← h1.1] at h2
   exact ⟨h1.2, Nat.le_trans h2 (rtRead_le hq)⟩
 unfold kRead at h
 split at h
 ·cases h
 ·rename_i p hp
  obtain ⟨t, ht, rfl⟩ := Option.map_eq_some_iff.1 h
  obtain ⟨k1, k2⟩ := key p hp
  obtain ⟨r1, r2⟩ := recsS_ok ht k1
  have hb := kBegin_eq d p.2
  have h3 := hlg.tot
  have h4 := hlg.nx
  dsimp only at h3 h4
  rw [hb.1] at h3
  rw [hb.2.1] at h4
  exact ⟨r1, by show t.cnt ≤ 30000; omega, hlg⟩
end Go.Proofs.YtkbhldicnamcdaaGreat.L
namespace Go.Proofs.YtkbhldicnamcdaaGreat.L
open Go Go.RowKit
theorem St.exAt {ι : Type} {f : ι → List HP} {ρ : World} {M L : List HP} {w : World} (h : St ρ (M ++ (HP.ex f :: L)) w) : ∃ i, St ρ (M ++ (f i ++ L)) w := by
 obtain ⟨g, k, ap, lg, lk, d⟩ := h.body
 obtain ⟨h1, h2, ap1, l1, l2, d1, d2⟩ := sepAll_split d
 obtain ⟨h3, h4, ap2, l3, l4, ⟨i, d3⟩, d4⟩ := d2
 exact ⟨i, h.os, h.tape, h.output, g, k, ap, lg, lk, sepAll_append ap1 l1 l2 d1 (sepAll_append ap2 l3 l4 d3 d4)⟩
theorem Fn.exM {ι ι' : Type} {f : ι → List HP} {f' : ι' → List HP} {P : Program} {fid : FuncId} {args : Array Value} {M0 : List HP} {Ψ : Value → List HP → Prop} (i0 : ι) (h : ∀ i, Fn P fid args (M0 ++ f i) (fun r post => ∃ j M, Ψ r M ∧ post = M ++ f' j)) : Fn P fid args (M0 ++ [HP.ex f]) (fun r post => ∃ M, Ψ r M ∧ post = M ++ [HP.ex f']) :=
 ⟨(h i0).1, fun ρ L w hs => by
  rw [List.append_assoc] at hs
  obtain ⟨i, hi⟩ := St.exAt hs
  rw [← List.append_assoc] at hi
  refine ((h i).2 ρ L w hi).mono fun e w' ⟨v, post, he, ⟨j, M, hΨ, hp⟩, hst⟩ => ?_
  subst hp
  rw [List.append_assoc] at hst
  refine ⟨v, M ++ [HP.ex f'], he, ⟨M, hΨ, rfl⟩, ?_⟩
  rw [List.append_assoc]
  exact hst.exMid j⟩
theorem Fn.conv {P : Program} {f : FuncId} {args : Array Value} {pre pre' : List HP} {Φ Ψ : Value → List HP → Prop} (h : Fn P f args pre Φ) (hpre : ∀ ρ L w, St ρ (pre' ++ L) w → St ρ (pre ++ L) w)
  (hpost : ∀ r post, Φ r post → ∃ post', Ψ r post' ∧ ∀ ρ L w, St ρ (post ++ L) w → St ρ (post' ++ L) w) : Fn P f args pre' Ψ :=
 ⟨h.1, fun ρ L w hs => (h.2 ρ L w (hpre ρ L w hs)).mono fun e w' ⟨v, post, he, hΦ, hst⟩ => by
  obtain ⟨post', hΨ, hp⟩ := hpost v post hΦ
  exact ⟨v, post', he, hΨ, hp ρ L w' hst⟩⟩
theorem Fn.exPre {ι : Type} {f : ι → List HP} {P : Program} {fid : FuncId} {args : Array Value} {M0 : List HP} {Φ : Value → List HP → Prop} (i0 : ι) (h : ∀ i, Fn P fid args (M0 ++ f i) Φ) : Fn P fid args (M0 ++ [HP.ex f]) Φ :=
 ⟨(h i0).1, fun ρ L w hs => by
  rw [List.append_assoc] at hs
  obtain ⟨i, hi⟩ := St.exAt hs
  rw [← List.append_assoc] at hi
  exact (h i).2 ρ L w hi⟩
abbrev Kd.sb : Kd (Sl UInt8) := Kd.sl
theorem nestSl_sub {α : Type} {k : Kd α} {l l' : List (Sl α)} {ρ : World} {L : List HP} {w : World} (m : NestSl k l ∈ L) (hs : ∀ s ∈ l', s ∈ l) (h : St ρ L w) : St ρ (NestSl k l' :: L) w :=
 h.derive m rfl (fun _ _ hh s hm => hh s (hs s hm))
theorem nestSl_add {α : Type} {k : Kd α} {l l' : List (Sl α)} (s : Sl α) {ρ : World} {L : List HP} {w : World} (m : NestSl k l ∈ L) (ms : RowF k s.q s.l ∈ L) (hs : ∀ x ∈ l', x ∈ l ∨ x = s) (h : St ρ L w) : St ρ (NestSl k l' :: L) w :=
 (h.derive2 m ms rfl (fun _ _ _ hh hr x hm => by
  rcases hs x hm with h1 | h1
  ·exact hh x h1
  ·rw [h1]; exact hr))
theorem pv_sl1 {α : Type} {b t : Nat} {p : Option Addr} {n c : Nat} {l : List α} {ρ : World} {L : List HP} {w : World} (hl : l.length = n) (h : St ρ (pv b t [.slice p n c] :: L) w) : St ρ (pv b t (Sl.cells ⟨p, c, l⟩) :: L) w := by
 subst hl; exact h
section
variable {X : Fx} {E : Env} {L : List HP} {d : Option Tmp} {ty : TypeId} {pos : String} {af : Array Edge} {gd : Option (Nat × Bool)}
theorem q_max {k : IntKind} {a b : Int} {x y : Operand} {ats : Array TypeId} (hx : Env.ev E x = some (.int k a)) (hy : Env.ev E y = some (.int k b)) : OpQ X ⟨d, .call ⟨.builtin .max, [x, y].toArray, ats⟩, ty, pos, af, gd⟩ E L (.int k (max a b)) := fun _ w hk _ => by
 have e : max a b = if a < b then b else a := by split <;> omega
 rw [e]
 simp [execOp, hk.ev hx, hk.ev hy, resolve, invoke, builtin, Builtin.max_, Builtin.max2]
theorem q_fldV {s : TypeId} {x : Operand} {f : Nat} {fs : Array Field} {fd : Field} {cs : List Value} {v : Value} (hu : X.P.underlying s = some (.struct fs)) (hf : fs[f]? = some fd) (hk : cellK X.P fd.type = some (false, 1)) (hx : Env.ev E x = some (.agg cs.toArray)) (hv : cs[fd.offset]? = some v) :
  OpQ X ⟨d, .field s x f, ty, pos, af, gd⟩ E L v := fun a w hk' _ => by
 simp [execOp, hk'.ev hx, Instr.field, underlying, hu, hf, asAgg, run_part1 hk hv]
end
end Go.Proofs.YtkbhldicnamcdaaGreat.L
namespace Go.Proofs.YtkbhldicnamcdaaGreat.L
open Go Go.Proofs
attribute [local irreducible] pv fv pt fz RowF RowO rowP old pure_ elA
structure Wz where
 i : Nat
 s : Sl UInt8
def Wz.cells (x : Wz) : List Value := [.int .i64 (x.i : Int), .slice x.s.q x.s.l.length x.s.c]
theorem wz_sz (x : Wz) : x.cells.length = 2 := rfl
theorem wz_one (x : Wz) : ∀ v ∈ x.cells, v.oneCell' = true := fun v h => by simp [Wz.cells] at h; rcases h with h | h <;> subst h <;> rfl
def Kd.wz : Kd Wz := Kd.flat 2 Wz.cells wz_sz wz_one
def Wz.pl (x : Wz) : Nat × Sec := (x.i, x.s.l)
structure DkI (d : Dk) where
 qs : Option Addr
 cs : Nat
 S : List (Sl UInt8)
 qn : Option Addr
 cn : Nat
 N : List (Sl UInt8)
 qu : Option Addr
 cu : Nat
 U : List Wz
 left : Int
 hS : S.map (·.l) = d.sure
 hN : N.map (·.l) = d.now
 hU : U.map Wz.pl = d.l
 hl : left = (match d.lim with | none => -1 | some k => (k : Int))
theorem DkI.lenS {d : Dk} (z : DkI d) : z.S.length = d.len := by rw [← List.length_map (f := fun s : Sl UInt8 => s.l), z.hS]; rfl
theorem DkI.lenN {d : Dk} (z : DkI d) : z.N.length = d.len := by rw [← List.length_map (f := fun s : Sl UInt8 => s.l), z.hN, d.now_len]
theorem DkI.lenU {d : Dk} (z : DkI d) : z.U.length = d.l.length := by rw [← z.hU, List.length_map]
theorem DkI.at {d : Dk} (z : DkI d) {i : Nat} (hi : i < d.len) : ∃ s, z.N[i]? = some s ∧ d.now[i]? = some s.l := by
 have h : i < z.N.length := by rw [z.lenN]; exact hi
 refine ⟨z.N[i], List.getElem?_eq_getElem h, ?_⟩
 rw [← z.hN, List.getElem?_map, List.getElem?_eq_getElem h]; rfl
abbrev dkC (qs : Option Addr) (n cs : Nat) (qn : Option Addr) (m cn : Nat) (qu : Option Addr) (k cu : Nat) (left : Int) (off : Bool) (cnt : Int) : List Value := [.slice qs n cs, .slice qn m cn, .slice qu k cu, .int .i64 left, .bool off, .int .i64 cnt]
abbrev DkF (p : Nat) (d : Dk) (z : DkI d) : List HP := [pv p 83 (dkC z.qs z.S.length z.cs z.qn z.N.length z.cn z.qu z.U.length z.cu z.left d.off d.cnt),
 RowO Kd.sb 23 z.qs z.cs z.S, RowO Kd.sb 23 z.qn z.cn z.N, RowO Kd.wz 92 z.qu z.cu z.U, NestSl Kd.u8 (z.S ++ z.N ++ z.U.map (·.s))]
def DkX (p : Nat) (d : Dk) : HP := HP.ex (DkF p d)
def dkI0 (d : Dk) : DkI d := ⟨none, 0, d.sure.map (fun s => ⟨none, 0, s⟩), none, 0, d.now.map (fun s => ⟨none, 0, s⟩), none, 0, d.l.map (fun w => ⟨w.1, none, 0, w.2⟩), _,
 by rw [List.map_map]; exact List.map_id' _, by rw [List.map_map]; exact List.map_id' _, by rw [List.map_map]; exact List.map_id' _, rfl⟩
theorem zSec_len : zSec.length = 64 := by unfold zSec; exact List.length_replicate
theorem ze_sb : zeroOf Tryz.prog 23 = some (Sl.cells (⟨none, 0, []⟩ : Sl UInt8)) := by kernel_rfl
theorem clone_sb (A : HP) (q : Option Addr) (cap : Nat) (xs : List (Sl UInt8)) (hA : IsRow A Kd.sb q xs) (hb : xs.length ≤ 1000000000) : Fn Tryz.prog 38 [.slice q xs.length cap].toArray [A]
  (fun r post => ∃ q' cap', r = .slice q' xs.length cap' ∧ post = [RowO Kd.sb 23 q' cap' xs, A] ∧ xs.length ≤ cap') := by
 refine Fn.enter (N := 8) func38 rfl ntmps38 tK rfl (fun ρ L => ?_)
 refine ky<|ka rfl<|zm<|ke<|ky<|km rfl<|kq (q_slnil underlying80 rfl rfl)<|zm ?_
 refine K.ite rfl (fun h => ?_) (fun h => ?_)
 ·rcases q with _ | a
  rotate_left
  ·cases h
  refine K.fact (row_none hA (List.Mem.head _)) (fun e => ?_)
  subst e
  refine ky<|ka rfl<|zm ?_
  refine kr1 func38 results38 rfl (fun w hs => ?_)
  exact ⟨_, [RowO Kd.sb 23 none 0 [], A], rfl, ⟨none, 0, rfl, rfl, Nat.le_refl _⟩, (rowO_nil (k := Kd.sb) 23 hs).fitD⟩
 ·refine za<|ky<|kl (l_slice0 Kd.sb se_80) ?_
  rintro _ _ ⟨q0, rfl, rfl⟩
  refine km rfl<|kl (lX Kd.sb (xs := []) (ys := xs) se_80 underlying80 ⟨_, ze_sb, rfl⟩ tD rfl rfl tP hA tM rfl rfl (by show (2 * (0 + xs.length) + 768) * _ ≤ _; omega)) ?_
  rintro _ _ ⟨q', cap', rfl, rfl⟩
  refine ka rfl<|zm ?_
  refine kr1 func38 results38 rfl (fun w hs => ?_)
  exact ⟨_, [RowO Kd.sb 23 q' cap' xs, A], rfl, ⟨q', cap', rfl, rfl, rC (List.Mem.head _) w hs⟩, hs.fitD⟩
theorem ze_wz : zeroOf Tryz.prog 92 = some (Wz.cells ⟨0, ⟨none, 0, []⟩⟩) := by kernel_rfl
theorem dk_LenF (p : Nat) (d : Dk) (z : DkI d) : Fn Tryz.prog 39 [.pointer (some ⟨p, 0, none⟩)].toArray (DkF p d z) (fun r post => r = .int .i64 (d.len : Nat) ∧ post = DkF p d z) := by
 have hl := z.lenN
 refine Fn.enter (N := 10) func39 rfl ntmps39 tK rfl (fun ρ L => ?_)
 refine ky<|ka rfl<|zm<|ke<|ky<|km rfl<|kq (q_pnil underlying25 rfl rfl)<|zm<|K.no rfl<|za<|ky<|km rfl<|kq (qN rfl)<|kq (qO fo_83_1 rfl)<|kq (qD ck_80 rfl)<|kq (qG underlying80 rfl)<|ka rfl<|zm ?_
 refine kr1 func39 results39 rfl (fun w hs => ?_)
 exact ⟨_, DkF p d z, rfl, ⟨by rw [hl], rfl⟩, hs.fitD⟩
theorem dk_BreakF (p : Nat) (d : Dk) (n : Int) (z : DkI d) : Fn Tryz.prog 31 [.pointer (some ⟨p, 0, none⟩), .int .i64 n].toArray (DkF p d z) (fun r post => ∃ z' : DkI (d.brk n), r = .tuple #[] ∧ post = DkF p (d.brk n) z') := by
 refine Fn.enter (N := 26) func31 rfl ntmps31 tK rfl (fun ρ L => ?_)
 refine ky<|km rfl<|kq (q_pnn underlying25 rfl rfl)<|km rfl<|km rfl<|kq (qN rfl)<|kq (qO fo_83_4 rfl)<|kq (qD ck_4 rfl)<|kq (q_not rfl)<|kq (qT rfl rfl)<|zm ?_
 refine kT (s := 12) rfl (fun g12 => ?_) (fun g12 => ?_)
 ·have hoff : d.off = false := by simpa [Dk.off] using g12
  have hb : d.brk n = ⟨d.sure, d.l, some n.toNat, d.cnt⟩ := by unfold Dk.brk; rw [if_neg (by rw [hoff]; decide)]
  have hm : max 0 n = (n.toNat : Int) := by omega
  have ho : decide ((n.toNat : Int) = 0) = Dk.off ⟨d.sure, d.l, some n.toNat, d.cnt⟩ := by unfold Dk.off; rw [decide_eq_decide]; simp; omega
  refine ky<|km rfl<|km rfl<|kq (q_max rfl rfl)<|kq (qN rfl)<|kq (qO fo_83_3 rfl)<|kN rfl (lA ck_3 rfl rfl rfl tP tA) ?_
  rintro _ _ ⟨rfl, rfl⟩
  refine zm ?_
  rw [hm]
  refine kr<|km rfl<|km rfl<|kq (qN rfl)<|kq (qO fo_83_3 rfl)<|kq (qD ck_3 rfl)<|kq (q_eq rfl rfl)<|kq (qN rfl)<|kq (qO fo_83_4 rfl)<|kN rfl (lA ck_4 rfl rfl rfl tP tA) ?_
  rintro _ _ ⟨rfl, rfl⟩
  refine zm ?_
  rw [ho]
  refine K.fin (fn := Tryz.f31) func31 (fun a w hk hs => res0 results31) (fun w hs => ?_)
  rw [hb]
  exact ⟨_, DkF p ⟨d.sure, d.l, some n.toNat, d.cnt⟩ ⟨z.qs, z.cs, z.S, z.qn, z.cn, z.N, z.qu, z.cu, z.U, n.toNat, z.hS, z.hN, z.hU, rfl⟩, rfl, ⟨_, rfl, rfl⟩, hs.fitD⟩
 ·have hoff : d.off = true := by simpa [Dk.off] using g12
  have hb : d.brk n = d := by unfold Dk.brk; rw [if_pos hoff]
  refine za ?_
  refine K.fin (fn := Tryz.f31) func31 (fun a w hk hs => res0 results31) (fun w hs => ?_)
  rw [hb]
  exact ⟨_, DkF p d z, rfl, ⟨_, rfl, rfl⟩, hs.fitD⟩
theorem dk_SyncF (p : Nat) (d : Dk) (z : DkI d) (hw : d.wf) : Fn Tryz.prog 143 [.pointer (some ⟨p, 0, none⟩)].toArray (DkF p d z) (fun r post => ∃ z' : DkI d.sync.2, r = .bool d.sync.1 ∧ post = DkF p d.sync.2 z') := by
 have hl := z.lenN
 have h4 := hw.len
 refine Fn.enter (N := 22) func143 rfl ntmps143 tK rfl (fun ρ L => ?_)
 refine ky<|ka rfl<|zm<|ke<|ky<|km rfl<|kq (q_pnil underlying25 rfl rfl)<|km rfl<|km rfl<|kq (qN rfl)<|kq (qO fo_83_4 rfl)<|kq (qD ck_4 rfl)<|kq (qF rfl rfl)<|zm ?_
 first | refine kD (s := 10) rfl (fun g10 => ?_) (fun g10 => ?_) | refine kT (s := 10) rfl (fun g10 => ?_) (fun g10 => ?_)
 ·have hb : d.sync = (false, d) := by unfold Dk.sync; rw [if_pos (show d.off = true from decide_eq_true g10)]
  refine ky<|ka rfl<|zm ?_
  refine kr1 func143 results143 rfl (fun w hs => ?_)
  rw [hb]
  exact ⟨_, DkF p d z, rfl, ⟨_, rfl, rfl⟩, hs.fitD⟩
 ·have hb : d.sync = (true, ⟨d.now, [], d.lim, d.cnt⟩) := by unfold Dk.sync; rw [if_neg (by simpa [Dk.off] using g10)]
  refine za<|ky<|km rfl<|km rfl<|kq (qN rfl)<|kq (qO fo_83_1 rfl)<|kq (qD ck_80 rfl)<|kl (kc rfl (h := clone_sb (RowO Kd.sb 23 z.qn z.cn z.N) z.qn z.cn z.N isO tO)) ?_
  rintro _ _ ⟨_, ⟨q', c', rfl, rfl, hqc⟩, rfl⟩
  refine kq (qN rfl)<|kq (qO fo_83_0 rfl)<|kN rfl (lA ck_80 rfl rfl rfl tP tA) ?_
  rintro _ _ ⟨rfl, rfl⟩
  refine kz<|km rfl<|kq (qN rfl)<|kq (qO fo_83_2 rfl)<|kN rfl (lA ck_81 rfl rfl rfl tP tA) ?_
  rintro _ _ ⟨rfl, rfl⟩
  refine zm<|K.st (fun w h => rowO_nil (k := Kd.wz) 92 h)<|K.st (fun w h => nestSl_sub (l' := z.N ++ z.N ++ ([] : List Wz).map (·.s)) tM (fun s hs => by simp at hs ⊢; exact .inr (.inl hs)) h)<|ky<|ka rfl<|zm ?_
  refine kr1 func143 results143 rfl (fun w hs => ?_)
  rw [hb]
  exact ⟨_, DkF p ⟨d.now, [], d.lim, d.cnt⟩ ⟨q', c', z.N, z.qn, z.cn, z.N, none, 0, [], z.left, z.hN, z.hN, rfl, z.hl⟩, rfl, ⟨_, rfl, rfl⟩, hs.fitD⟩
theorem dk_ReadF (p : Nat) (d : Dk) (i : Int) (z : DkI d) (hw : d.wf) : Fn Tryz.prog 34 [.pointer (some ⟨p, 0, none⟩), .int .i64 i].toArray (DkF p d z) (fun r post => ∃ q c, r = .slice q (d.read i).length c ∧ post = RowO Kd.u8 5 q c (d.read i) :: DkF p d z ∧ (d.read i).length ≤ c) := by
 have hl := z.lenN
 have h4 := hw.len
 refine Fn.enter (N := 21) func34 rfl ntmps34 tK rfl (fun ρ L => ?_)
 refine ky<|ka rfl<|zm<|ke<|ky<|km rfl<|kq (q_lt rfl rfl)<|km rfl ?_
 refine KO.dsplit 7 rfl (fun g7 => ?_) (fun g7 => ?_)
 ·have hr : d.read i = [] := by unfold Dk.read; rw [if_neg tO]
  refine zq<|zq<|zq<|zq<|kq (qT rfl rfl)<|zm<|K.yes rfl<|ky<|ka rfl<|zm ?_
  refine kr1 func34 results34 rfl (fun w hs => ?_)
  rw [hr]
  exact ⟨_, RowO Kd.u8 5 none 0 [] :: DkF p d z, rfl, ⟨none, 0, rfl, rfl, Nat.le_refl _⟩, (rowO_nil (k := Kd.u8) 5 hs).fitD⟩
 ·refine km rfl<|km rfl<|kl (kc rfl (h := dk_LenF _ _ z)) ?_
  rintro _ _ ⟨_, ⟨rfl, rfl⟩, rfl⟩
  refine kq (q_ge rfl rfl)<|kq (qF rfl rfl)<|zm ?_
  refine kD (s := 12) rfl (fun g12 => ?_) (fun g12 => ?_)
  ·have hr : d.read i = [] := by unfold Dk.read; rw [if_neg tO]
   refine ky<|ka rfl<|zm ?_
   refine kr1 func34 results34 rfl (fun w hs => ?_)
   rw [hr]
   exact ⟨_, RowO Kd.u8 5 none 0 [] :: DkF p d z, rfl, ⟨none, 0, rfl, rfl, Nat.le_refl _⟩, (rowO_nil (k := Kd.u8) 5 hs).fitD⟩
  ·have hi : 0 ≤ i ∧ i < (d.len : Int) := by omega
   obtain ⟨k, rfl⟩ : ∃ k : Nat, i = (k : Int) := ⟨i.toNat, by omega⟩
   obtain ⟨s, hsN, hsd⟩ := z.at (i := k) tO
   have hr : d.read k = s.l := by unfold Dk.read; rw [if_pos hi, List.getD_eq_getElem?_getD, Int.toNat_natCast, hsd]; rfl
   have hr64 := hw.read hi
   rw [hr] at hr64
   refine K.st (fun w h => nestSl_at (s := s) tM (List.mem_append_left _ (List.mem_append_right _ (List.mem_of_getElem? hsN))) h) ?_
   refine za<|ky<|km rfl<|kq (qN rfl)<|kq (qO fo_83_1 rfl)<|kq (qD ck_80 rfl)<|km rfl<|kq (q_ix (xs := z.N) k se_80 rfl rfl rfl isO tM rfl tO) ?_
   first | refine kq (q_ldE ck_23 rfl isF tM tE rfl) ?_ | refine kq (q_ldE ck_23 rfl isO tM tE rfl) ?_
   refine kl (kc rfl (h := clone_u8 (RowF Kd.u8 s.q s.l) s.q s.c s.l isF tO)) ?_
   rintro _ _ ⟨_, ⟨q', c', rfl, rfl, hqc⟩, rfl⟩
   refine ka rfl<|zm ?_
   refine kr1 func34 results34 rfl (fun w hs => ?_)
   rw [hr]
   exact ⟨_, RowO Kd.u8 5 q' c' s.l :: DkF p d z, rfl, ⟨q', c', rfl, rfl, hqc⟩, hs.fitD⟩
theorem Dk.may_iff {d : Dk} {i : Int} {b : Sec} : d.may i b = true ↔ (0 ≤ i ∧ i < (d.len : Int)) ∧ b.length = 64 ∧ ¬ d.lim = some 0 := by
 unfold Dk.may Dk.off
 simp only [Bool.and_eq_true, decide_eq_true_eq, Bool.not_eq_true', decide_eq_false_iff_not, and_assoc]
theorem Dk.write_no {d : Dk} {i : Int} {b : Sec} (h : ¬ ((0 ≤ i ∧ i < (d.len : Int)) ∧ b.length = 64 ∧ ¬ d.lim = some 0)) : d.write i b = (false, d) := by
 unfold Dk.write; rw [if_neg (fun hm => h (Dk.may_iff.1 hm))]
theorem Dk.write_yes {d : Dk} {i : Nat} {b : Sec} (h : i < d.len ∧ b.length = 64 ∧ ¬ d.lim = some 0) : d.write i b = (true, d.put i b) := by
 unfold Dk.write; rw [if_pos (Dk.may_iff.2 ⟨⟨by omega, by omega⟩, h.2⟩)]; rfl
def DkI.put {d : Dk} (z : DkI d) (i : Nat) (b : Sec) (q : Option Addr) (c : Nat) (qu : Option Addr) (cu : Nat) (left : Int) (hl : left = (match (d.put i b).lim with | none => -1 | some k => (k : Int))) : DkI (d.put i b) :=
 ⟨z.qs, z.cs, z.S, z.qn, z.cn, z.N.set i ⟨q, c, b⟩, qu, cu, z.U ++ [⟨i, ⟨q, c, b⟩⟩], left, z.hS, by
  rw [List.map_set, z.hN]; show _ = laid d.sure (d.l ++ [(i, b)]); rw [laid_snoc]; rfl, by rw [List.map_append, z.hU]; rfl, hl⟩
set_option maxHeartbeats 1600000 in
theorem dk_WriteF (A : HP) (p : Nat) (d : Dk) (i : Int) (qb : Option Addr) (cb : Nat) (b : Sec) (z : DkI d) (hA : IsRow A Kd.u8 qb b) (hw : d.wf) (hc : d.cnt ≤ 100000000) : Fn Tryz.prog 15 [.pointer (some ⟨p, 0, none⟩), .int .i64 i, .slice qb b.length cb].toArray (A :: DkF p d z)
  (fun r post => ∃ z' : DkI (d.write i b).2, r = .bool (d.write i b).1 ∧ post = A :: DkF p (d.write i b).2 z') := by
 have hl := z.lenN
 have h4 := hw.len
 have hlu := z.lenU
 have hfew := hw.few
 have hzl := z.hl
 refine Fn.enter (N := 75) func15 rfl ntmps15 tK rfl (fun ρ L => ?_)
 refine ky<|ka rfl<|zm<|ke<|ky<|km rfl<|kq (q_lt rfl rfl)<|km rfl ?_
 refine KO.dsplit 10 rfl (fun g10 => ?_) (fun g10 => ?_)
 ·refine zq<|zq<|zq<|zq<|kq (qT rfl rfl)<|km rfl<|zq<|zq<|zq<|kq (qT rfl rfl)<|km rfl<|zq<|zq<|zq<|zq<|kq (qT rfl rfl)<|zm<|K.yes rfl<|ky<|ka rfl<|zm ?_
  refine kr1 func15 results15 rfl (fun w hs => ?_)
  rw [Dk.write_no tO]
  exact ⟨_, A :: DkF p d z, rfl, ⟨_, rfl, rfl⟩, hs.fitD⟩
 ·refine km rfl<|km rfl<|kl (kc rfl (h := dk_LenF _ _ z)) ?_
  rintro _ _ ⟨_, ⟨rfl, rfl⟩, rfl⟩
  refine kq (q_ge rfl rfl)<|kq (qF rfl rfl)<|km rfl ?_
  refine KO.dsplit 16 rfl (fun g16 => ?_) (fun g16 => ?_)
  ·refine zq<|zq<|zq<|kq (qT rfl rfl)<|km rfl<|zq<|zq<|zq<|zq<|kq (qT rfl rfl)<|zm<|K.yes rfl<|ky<|ka rfl<|zm ?_
   refine kr1 func15 results15 rfl (fun w hs => ?_)
   rw [Dk.write_no tO]
   exact ⟨_, A :: DkF p d z, rfl, ⟨_, rfl, rfl⟩, hs.fitD⟩
  ·refine km rfl<|kq (qG underlying23 rfl)<|kq (q_ne rfl rfl)<|kq (qF rfl rfl)<|km rfl ?_
   refine KO.dsplit 21 rfl (fun g21 => ?_) (fun g21 => ?_)
   ·refine zq<|zq<|zq<|zq<|kq (qT rfl rfl)<|zm<|K.yes rfl<|ky<|ka rfl<|zm ?_
    refine kr1 func15 results15 rfl (fun w hs => ?_)
    rw [Dk.write_no tO]
    exact ⟨_, A :: DkF p d z, rfl, ⟨_, rfl, rfl⟩, hs.fitD⟩
   ·refine km rfl<|kq (qN rfl)<|kq (qO fo_83_4 rfl)<|kq (qD ck_4 rfl)<|kq (qF rfl rfl)<|zm ?_
    first | refine kD (s := 26) rfl (fun g26 => ?_) (fun g26 => ?_) | refine kT (s := 26) rfl (fun g26 => ?_) (fun g26 => ?_)
    ·refine ky<|ka rfl<|zm ?_
     refine kr1 func15 results15 rfl (fun w hs => ?_)
     rw [Dk.write_no (fun h => h.2.2 g26)]
     exact ⟨_, A :: DkF p d z, rfl, ⟨_, rfl, rfl⟩, hs.fitD⟩
    ·obtain ⟨k, rfl⟩ : ∃ k : Nat, i = (k : Int) := ⟨i.toNat, by omega⟩
     have hy : d.write k b = (true, d.put k b) := Dk.write_yes ⟨by omega, by omega, g26⟩
     obtain ⟨s, hsN, _⟩ := z.at (i := k) tO
     have hb64 : b.length = 64 := by omega
     refine za<|ke<|ky<|km rfl<|kq (qN rfl)<|kq (qO fo_83_3 rfl)<|kq (qD ck_3 rfl)<|kq (q_gt rfl rfl)<|zm ?_
     refine kD (s := 31) rfl (fun g31 => ?_) (fun g31 => ?_)
     ·obtain ⟨n, hlim, hn0, hn1, hn2⟩ : ∃ n : Nat, d.lim = some (n + 1) ∧ z.left = ((n + 1 : Nat) : Int) ∧ z.left - 1 = (n : Int) ∧ z.left ≤ 9223372036854775807 := by
       rcases h : d.lim with _ | m
       ·rw [h] at hzl
        have hzl : z.left = -1 := hzl
        omega
       ·rw [h] at hzl
        have hzl : z.left = (m : Int) := hzl
        have := hw.lm m h
        exact ⟨m - 1, by congr 1; omega, by omega, by omega, by omega⟩
      have hlim' : (d.put k b).lim = some n := by show d.lim.map Nat.pred = _; rw [hlim]; rfl
      have ho : decide ((n : Int) = 0) = (d.put k b).off := by
       show _ = decide ((d.put k b).lim = some 0)
       rw [hlim']; exact decide_eq_decide.2 ⟨fun h => by congr 1; omega, fun h => by cases h; rfl⟩
      refine ky<|km rfl<|kq (qN rfl)<|kq (qO fo_83_3 rfl)<|kq (qD ck_3 rfl)<|kq (q_sub rfl rfl tN tN)<|kq (qN rfl)<|kq (qO fo_83_3 rfl)<|kN rfl (lA ck_3 rfl rfl rfl tP tA) ?_
      rintro _ _ ⟨rfl, rfl⟩
      refine zm ?_
      rw [hn1]
      refine kr<|km rfl<|km rfl<|kq (qN rfl)<|kq (qO fo_83_3 rfl)<|kq (qD ck_3 rfl)<|kq (q_eq rfl rfl)<|kq (qN rfl)<|kq (qO fo_83_4 rfl)<|kN rfl (lA ck_4 rfl rfl rfl tP tA) ?_
      rintro _ _ ⟨rfl, rfl⟩
      refine zm ?_
      rw [ho]
      refine ky<|km rfl<|kl (kc rfl (h := clone_u8 A qb cb b hA tO)) ?_
      rintro _ _ ⟨_, ⟨q', c', rfl, rfl, hqc⟩, rfl⟩
      refine KO.st (fun w h => rO (h.pick tP)) ?_
      refine KO.st (fun w h => nestSl_add (l' := z.S ++ z.N.set k ⟨q', c', b⟩ ++ (z.U ++ [(⟨k, ⟨q', c', b⟩⟩ : Wz)]).map (fun x : Wz => x.s)) ⟨q', c', b⟩ (l := z.S ++ z.N ++ z.U.map (·.s)) tM tM (fun x hx => by
       simp only [List.mem_append, List.map_append, List.map_cons, List.map_nil, List.mem_singleton] at hx ⊢
       rcases hx with (hx | hx) | hx | hx
       ·exact .inl (.inl (.inl hx))
       ·exact (List.mem_or_eq_of_mem_set hx).elim (fun h => .inl (.inl (.inr h))) .inr
       ·exact .inl (.inr hx)
       ·exact .inr hx) h) ?_
      refine ka rfl<|kz<|km rfl<|kq (qN rfl)<|kq (qO fo_83_1 rfl)<|kq (qD ck_80 rfl)<|km rfl<|km rfl<|kq (q_ix (xs := z.N) k se_80 rfl rfl rfl isO tM rfl tO)<|kN rfl (lP (xs := z.N) (el := s) ⟨q', c', b⟩ ck_23 rfl rfl rfl tP hsN tD rfl) ?_
      rintro _ _ ⟨rfl, rfl⟩
      refine kz<|km rfl<|km rfl<|kq (qN rfl)<|kq (qO fo_83_2 rfl)<|kq (qD ck_81 rfl)<|km rfl<|km rfl<|kq (q_as (q_build st_92 rfl tF) (show _ = Wz.cells ⟨k, ⟨q', c', b⟩⟩ from rfl))<|kl (lO sz_81_1 rfl rfl ⟨rfl, rfl, rfl⟩) ?_
      rintro _ _ ⟨b64, rfl, rfl⟩
      refine kl (lX Kd.wz (ys := [⟨k, ⟨q', c', b⟩⟩]) se_81 underlying81 ⟨_, ze_wz, rfl⟩ tD rfl rfl tP isP tM rfl rfl (by show (2 * (z.U.length + 1) + 768) * _ ≤ _; omega)) ?_
      rintro _ _ ⟨qu', cu', rfl, rfl⟩
      refine kq (qN rfl)<|kq (qO fo_83_2 rfl)<|kN rfl (lA ck_81 rfl rfl rfl tP tA) ?_
      rintro _ _ ⟨rfl, rfl⟩
      refine kz<|km rfl<|kq (qN rfl)<|kq (qO fo_83_5 rfl)<|kq (qD ck_3 rfl)<|kq (q_add rfl rfl tN tN)<|kq (qN rfl)<|kq (qO fo_83_5 rfl)<|kN rfl (lA ck_3 rfl rfl rfl tP tA) ?_
      rintro _ _ ⟨rfl, rfl⟩
      refine zm ?_
      rw [show z.N.length = (z.N.set k ⟨q', c', b⟩).length from List.length_set.symm]
      refine ky<|ka rfl<|zm ?_
      refine kr1 func15 results15 rfl (fun w hs => ?_)
      rw [hy]
      exact ⟨_, A :: DkF p (d.put k b) (z.put k b q' c' qu' cu' n (by rw [hlim'])), rfl, ⟨_, rfl, rfl⟩, hs.fitD⟩
     ·have hlim : d.lim = none := by
       rcases h : d.lim with _ | m
       ·rfl
       ·rw [h] at hzl
        have hzl : z.left = (m : Int) := hzl
        exact absurd (by rw [h]; congr 1; omega) g26
      have hlim' : (d.put k b).lim = none := by show d.lim.map Nat.pred = _; rw [hlim]; rfl
      have ho : d.off = (d.put k b).off := by unfold Dk.off; rw [hlim', hlim]
      refine za<|ky<|km rfl<|kl (kc rfl (h := clone_u8 A qb cb b hA tO)) ?_
      rintro _ _ ⟨_, ⟨q', c', rfl, rfl, hqc⟩, rfl⟩
      refine KO.st (fun w h => rO (h.pick tP)) ?_
      refine KO.st (fun w h => nestSl_add (l' := z.S ++ z.N.set k ⟨q', c', b⟩ ++ (z.U ++ [(⟨k, ⟨q', c', b⟩⟩ : Wz)]).map (fun x : Wz => x.s)) ⟨q', c', b⟩ (l := z.S ++ z.N ++ z.U.map (·.s)) tM tM (fun x hx => by
       simp only [List.mem_append, List.map_append, List.map_cons, List.map_nil, List.mem_singleton] at hx ⊢
       rcases hx with (hx | hx) | hx | hx
       ·exact .inl (.inl (.inl hx))
       ·exact (List.mem_or_eq_of_mem_set hx).elim (fun h => .inl (.inl (.inr h))) .inr
       ·exact .inl (.inr hx)
       ·exact .inr hx) h) ?_
      refine ka rfl<|kz<|km rfl<|kq (qN rfl)<|kq (qO fo_83_1 rfl)<|kq (qD ck_80 rfl)<|km rfl<|km rfl<|kq (q_ix (xs := z.N) k se_80 rfl rfl rfl isO tM rfl tO)<|kN rfl (lP (xs := z.N) (el := s) ⟨q', c', b⟩ ck_23 rfl rfl rfl tP hsN tD rfl) ?_
      rintro _ _ ⟨rfl, rfl⟩
      refine kz<|km rfl<|km rfl<|kq (qN rfl)<|kq (qO fo_83_2 rfl)<|kq (qD ck_81 rfl)<|km rfl<|km rfl<|kq (q_as (q_build st_92 rfl tF) (show _ = Wz.cells ⟨k, ⟨q', c', b⟩⟩ from rfl))<|kl (lO sz_81_1 rfl rfl ⟨rfl, rfl, rfl⟩) ?_
      rintro _ _ ⟨b64, rfl, rfl⟩
      refine kl (lX Kd.wz (ys := [⟨k, ⟨q', c', b⟩⟩]) se_81 underlying81 ⟨_, ze_wz, rfl⟩ tD rfl rfl tP isP tM rfl rfl (by show (2 * (z.U.length + 1) + 768) * _ ≤ _; omega)) ?_
      rintro _ _ ⟨qu', cu', rfl, rfl⟩
      refine kq (qN rfl)<|kq (qO fo_83_2 rfl)<|kN rfl (lA ck_81 rfl rfl rfl tP tA) ?_
      rintro _ _ ⟨rfl, rfl⟩
      refine kz<|km rfl<|kq (qN rfl)<|kq (qO fo_83_5 rfl)<|kq (qD ck_3 rfl)<|kq (q_add rfl rfl tN tN)<|kq (qN rfl)<|kq (qO fo_83_5 rfl)<|kN rfl (lA ck_3 rfl rfl rfl tP tA) ?_
      rintro _ _ ⟨rfl, rfl⟩
      refine zm ?_
      rw [show z.N.length = (z.N.set k ⟨q', c', b⟩).length from List.length_set.symm, ho]
      refine ky<|ka rfl<|zm ?_
      refine kr1 func15 results15 rfl (fun w hs => ?_)
      rw [hy]
      exact ⟨_, A :: DkF p (d.put k b) (z.put k b q' c' qu' cu' z.left (by rw [hlim', hzl, hlim])), rfl, ⟨_, rfl, rfl⟩, hs.fitD⟩
theorem stay_succ {l : List (Nat × Sec)} {keep : List Bool} {i : Nat} {w : Nat × Sec} (h : l[i]? = some w) : Dk.stay (l.take (i + 1)) keep = Dk.stay (l.take i) keep ++ if keep.getD i false = true then [w] else [] := by
 have hi := (List.getElem?_eq_some_iff.1 h).1
 have e : l.take (i + 1) = l.take i ++ [w] := by rw [List.take_add_one, h]; rfl
 unfold Dk.stay
 rw [e, List.zipIdx_append, List.filter_append, List.map_append]
 congr 1
 simp only [List.length_take, Nat.min_eq_left (Nat.le_of_lt hi), Nat.zero_add, List.zipIdx_cons, List.zipIdx_nil, List.filter_cons, List.filter_nil]
 split <;> rfl
theorem stay_nil (keep : List Bool) : Dk.stay [] keep = [] := rfl
set_option maxHeartbeats 1600000 in
theorem dk_CrashF (A : HP) (p : Nat) (d : Dk) (qk : Option Addr) (ck : Nat) (keep : List Bool) (z : DkI d) (hA : IsRow A Kd.boolK qk keep) (hw : d.wf) (hc : d.cnt ≤ 100000000) : Fn Tryz.prog 29 [.pointer (some ⟨p, 0, none⟩), .slice qk keep.length ck].toArray (A :: DkF p d z)
  (fun r post => ∃ z' : DkI (d.crash keep), r = .tuple #[] ∧ post = A :: DkF p (d.crash keep) z') := by
 have hl := z.lenN
 have hls := z.lenS
 have h4 := hw.len
 have hlu := z.lenU
 have hfew := hw.few
 refine Fn.enter (N := 55) func29 rfl ntmps29 tK rfl (fun ρ L => ?_)
 refine ke<|ky<|km rfl<|kq (q_pnil underlying25 rfl rfl)<|zm<|K.no rfl<|za<|ke<|ky<|km rfl<|kq (qN rfl)<|kq (qO fo_83_2 rfl)<|kq (qD ck_81 rfl)<|kq (qG underlying81 rfl)<|km rfl<|zm<|kB ?_
 refine kX (ι := { x : Nat × List (Sl UInt8) // x.1 ≤ z.U.length ∧ x.2.map (·.l) = laid d.sure (Dk.stay (d.l.take x.1) keep) ∧ ∀ s ∈ x.2, s ∈ z.S ++ z.N ++ z.U.map (·.s) }) (fun x => [(13, .int .i64 x.1.1), (12, .int .i64 z.U.length), (11, .slice z.qu z.U.length z.cu), (0, .pointer (some ⟨p, 0, none⟩)), (1, .slice qk keep.length ck)]) (fun x => A :: pv p 83 (dkC z.qs x.1.2.length z.cs z.qn z.N.length z.cn z.qu z.U.length z.cu z.left d.off d.cnt) :: RowO Kd.sb 23 z.qs z.cs x.1.2 :: RowO Kd.wz 92 z.qu z.cu z.U :: [NestSl Kd.u8 (z.S ++ z.N ++ z.U.map (·.s))] ++ L) (fun x => z.U.length - x.1.1) ⟨(0, z.S), Nat.zero_le _, by rw [List.take_zero, stay_nil]; exact z.hS, fun s hs => List.mem_append_left _ (List.mem_append_left _ hs)⟩ tS (fun w h => h.fitD) (fun x ih => ?_)
 obtain ⟨⟨i, S⟩, hi, hS, hsub⟩ := x
 dsimp only at hi hS hsub ⊢
 have hlS : S.length = d.len := by rw [← List.length_map (f := fun s : Sl UInt8 => s.l), hS, laid_len]; rfl
 refine ky<|kq (q_lt rfl rfl)<|zm<|ke ?_
 refine kD (s := 14) rfl (fun g14 => ?_) (fun g14 => ?_)
 ·obtain ⟨u, hu⟩ : ∃ u, z.U[i]? = some u := ⟨_, List.getElem?_eq_getElem tO⟩
  have hul : d.l[i]? = some u.pl := by rw [← z.hU, List.getElem?_map, hu]; rfl
  have hui := (hw.wr _ (List.mem_of_getElem? hul)).2
  have hst := stay_succ (keep := keep) hul
  have hui : u.i < d.len := hui
  obtain ⟨s, hs⟩ : ∃ s, S[u.i]? = some s := ⟨_, List.getElem?_eq_getElem tO⟩
  refine za<|ke<|kB<|ky<|km rfl<|kq (q_ix (xs := z.U) i se_81 rfl rfl rfl isO tM rfl tO)<|kq (q_ldEN (xs := z.U) (enc := Wz.cells) ck_92 rfl isO tM hu)<|kl (lL zo_92) ?_
  rintro _ _ ⟨b5, rfl, rfl⟩
  refine ka rfl<|kN rfl (lS ck_92 rfl rfl ⟨rfl, rfl⟩ (wz_one _) tP) ?_
  rintro _ _ ⟨rfl, rfl⟩
  refine kz<|km rfl<|km rfl<|kq (qG underlying67 rfl)<|kq (q_lt rfl rfl)<|km rfl ?_
  refine KO.dsplit 22 rfl (fun g22 => ?_) (fun g22 => ?_)
  ·obtain ⟨kb, hkb⟩ : ∃ b, keep[i]? = some b := ⟨_, List.getElem?_eq_getElem tO⟩
   have hkg : keep.getD i false = kb := by rw [List.getD_eq_getElem?_getD, hkb]; rfl
   refine km rfl<|km rfl<|kq (q_ix (xs := keep) i se_67 rfl rfl rfl hA tM rfl tO)<|kq (q_ldE ck_4 rfl hA tM hkb rfl)<|kq (qT rfl rfl)<|zm ?_
   first | refine kD (s := 27) rfl (fun g27 => ?_) (fun g27 => ?_) | refine kT (s := 27) rfl (fun g27 => ?_) (fun g27 => ?_)
   ·have hnx : (S.set u.i u.s).map (·.l) = laid d.sure (Dk.stay (d.l.take (i + 1)) keep) := by
     rw [hst, hkg, if_pos g27, show u.pl = (u.i, u.s.l) from rfl, laid_snoc, ← hS, List.map_set]
    have hsub2 : ∀ x ∈ S.set u.i u.s, x ∈ z.S ++ z.N ++ z.U.map (·.s) := fun x hx => (List.mem_or_eq_of_mem_set hx).elim (hsub x) (fun e => by rw [e]; exact List.mem_append_right _ (List.mem_map_of_mem (List.mem_of_getElem? hu)))
    refine K.drawS [pv p 83 (dkC z.qs S.length z.cs z.qn z.N.length z.cn z.qu z.U.length z.cu z.left d.off d.cnt), pv b5 92 u.cells] (fun _ h => h.subD) mixed<|dq 0 rfl (q_move rfl)<|dq 1 rfl (qN rfl)<|dq 2 rfl (qO fo_83_0 rfl)<|dq 3 rfl (qD ck_80 rfl)<|dq 4 rfl (qO fo_92_0 rfl)<|dq 5 rfl (qD ck_3 rfl)<|dq 6 rfl (qO fo_92_1 rfl)<|dq 7 rfl (qD ck_23 rfl)<|dq1 8 rfl (OpQ.loud (q_ix (xs := S) u.i se_80 rfl rfl rfl isO tM rfl tO)) (.inl tK) ?_
    rintro _ _ ⟨rfl, rfl⟩
    refine dq1N 9 rfl (lP (xs := S) (el := s) u.s ck_23 rfl rfl rfl tP hs tD rfl) (.inl tK) ?_
    rintro _ _ ⟨rfl, rfl⟩
    refine D.done tK<|zd<|kr<|kq (q_add rfl rfl tN tN)<|km rfl<|zm ?_
    rw [show S.length = (S.set u.i u.s).length from List.length_set.symm]
    exact K.weak tS (fun w h => h.fitD) (ih ⟨(i + 1, S.set u.i u.s), by show i + 1 ≤ _; omega, hnx, hsub2⟩ (by show z.U.length - (i + 1) < z.U.length - i; omega))
   ·refine za<|zd<|kr<|kq (q_add rfl rfl tN tN)<|km rfl<|zm ?_
    have hnx : S.map (·.l) = laid d.sure (Dk.stay (d.l.take (i + 1)) keep) := by
     rw [hst, hkg, if_neg (by first | exact Bool.false_ne_true | exact (by simpa using g27)), List.append_nil]; exact hS
    exact K.weak tS (fun w h => h.fitD) (ih ⟨(i + 1, S), by show i + 1 ≤ _; omega, hnx, hsub⟩ (by show z.U.length - (i + 1) < z.U.length - i; omega))
  ·have hkg : keep.getD i false = false := by rw [List.getD_eq_getElem?_getD, List.getElem?_eq_none tO]; rfl
   refine zq<|zq<|zq<|zq<|kq (qF rfl rfl)<|zm<|K.no rfl<|za<|zd<|kr<|kq (q_add rfl rfl tN tN)<|km rfl<|zm ?_
   have hnx : S.map (·.l) = laid d.sure (Dk.stay (d.l.take (i + 1)) keep) := by
    rw [hst, hkg, if_neg (by first | exact Bool.false_ne_true | exact (by simpa using g27)), List.append_nil]; exact hS
   exact K.weak tS (fun w h => h.fitD) (ih ⟨(i + 1, S), by show i + 1 ≤ _; omega, hnx, hsub⟩ (by show z.U.length - (i + 1) < z.U.length - i; omega))
 ·obtain rfl : i = z.U.length := by omega
  rw [hlu, List.take_length] at hS
  clear ih
  refine K.exit rfl<|ky<|km rfl<|km rfl<|kq (qN rfl)<|kq (qO fo_83_0 rfl)<|kq (qD ck_80 rfl)<|kl (kc rfl (h := clone_sb (RowO Kd.sb 23 z.qs z.cs S) z.qs z.cs S isO tO)) ?_
  rintro _ _ ⟨_, ⟨q', c', rfl, rfl, hqc⟩, rfl⟩
  refine kq (qN rfl)<|kq (qO fo_83_1 rfl)<|kN rfl (lA ck_80 rfl rfl rfl tP tA) ?_
  rintro _ _ ⟨rfl, rfl⟩
  refine zm<|kr<|km rfl<|km rfl<|km rfl<|kq (qN rfl)<|kq (qO fo_83_2 rfl)<|kN rfl (lA ck_81 rfl rfl rfl tP tA) ?_
  rintro _ _ ⟨rfl, rfl⟩
  refine kq (qN rfl)<|kq (qO fo_83_4 rfl)<|kN rfl (lA ck_4 rfl rfl rfl tP tA) ?_
  rintro _ _ ⟨rfl, rfl⟩
  refine kq (qN rfl)<|kq (qO fo_83_3 rfl)<|kN rfl (lA ck_3 rfl rfl rfl tP tA) ?_
  rintro _ _ ⟨rfl, rfl⟩
  refine zm<|K.st (fun w h => rowO_nil (k := Kd.wz) 92 h)<|K.st (fun w h => nestSl_sub (l' := S ++ S ++ ([] : List Wz).map (·.s)) tM (fun s hs => by simp only [List.map_nil, List.append_nil, List.mem_append, or_self] at hs; exact hsub s hs) h) ?_
  refine K.fin (fn := Tryz.f29) func29 (fun a w hk hs => res0 results29) (fun w hs => ?_)
  exact ⟨_, A :: DkF p (d.crash keep) ⟨z.qs, z.cs, S, q', c', S, none, 0, [], -1, hS, hS, rfl, rfl⟩, rfl, ⟨_, rfl, rfl⟩, hs.fitD⟩
set_option maxHeartbeats 1600000 in
theorem dk_NewF (n : Int) : Fn Tryz.prog 11 [.int .i64 n].toArray [] (fun r post => ∃ p, ∃ z : DkI (Dk.new n), r = .pointer (some ⟨p, 0, none⟩) ∧ post = DkF p (Dk.new n) z) := by
 obtain ⟨m, hm, hm4⟩ : ∃ m : Nat, max 0 (if (4096 : Int) < n then (4096 : Int) else n) = (m : Int) ∧ m = (min n 4096).toNat := ⟨_, by split <;> omega, rfl⟩
 refine Fn.enter (N := 31) func11 rfl ntmps11 tK rfl (fun ρ L => ?_)
 refine ky<|ka rfl<|kz<|kq (q_build st_83 rfl tF)<|kl (l_box rfl rfl) ?_
 rintro _ _ ⟨b5, rfl, rfl⟩
 refine ka rfl<|zm<|ke<|ky<|km rfl<|kq (q_min rfl rfl)<|kq (q_max rfl rfl)<|km rfl<|zm ?_
 rw [hm]
 refine kB ?_
 refine kX (ι := { x : Nat × Option Addr × Nat × List (Sl UInt8) // x.1 ≤ m ∧ x.2.2.2.length = x.1 ∧ ∀ s ∈ x.2.2.2, s.l = zSec }) (fun x => [(9, .int .i64 x.1.1), (8, .int .i64 m), (3, .pointer (some ⟨b5, 0, none⟩))]) (fun x => pv b5 83 (dkC x.1.2.1 x.1.2.2.2.length x.1.2.2.1 none 0 0 none 0 0 (-1) false 0) :: RowO Kd.sb 23 x.1.2.1 x.1.2.2.1 x.1.2.2.2 :: [NestSl Kd.u8 x.1.2.2.2] ++ L) (fun x => m - x.1.1) ⟨(0, none, 0, []), Nat.zero_le _, rfl, fun s hs => by cases hs⟩ tS (fun w h => (nestSl_nil (k := Kd.u8) (rowO_nil (k := Kd.sb) 23 h)).fitD) (fun x ih => ?_)
 obtain ⟨⟨i, q, c, S⟩, hi, hS, hz⟩ := x
 dsimp only at hi hS hz ⊢
 refine ky<|kq (q_lt rfl rfl)<|zm<|ke ?_
 refine kD (s := 10) rfl (fun g10 => ?_) (fun g10 => ?_)
 ·refine za<|ke<|kB<|K.drawS [pv b5 83 (dkC q S.length c none 0 0 none 0 0 (-1) false 0)] (fun _ h => h.subD) mixed<|dq 0 rfl (q_move rfl)<|dq 1 rfl (q_move rfl)<|dq 2 rfl (qN rfl)<|dq 3 rfl (qO fo_83_0 rfl) ?_
  refine D.all (rs := [4, 5]) tK rfl (DAll.cons rfl tK (OpQ.loud (qD ck_80 rfl)) (.inr (by rintro _ _ ⟨rfl, rfl⟩ w h; exact h.subD)) rfl ?_ (DAll.cons rfl tK (l_make Kd.u8 0 (m := 64) se_23 ze_5 rfl (fun _ => rfl) rfl rfl tD tD) (.inr (by rintro _ _ ⟨pm, rfl, rfl⟩ w h; exact h.subD)) rfl ?_ DAll.nil))
  ·rintro _ _ ⟨rfl, rfl⟩
   refine dq1 5 rfl (l_make Kd.u8 0 (m := 64) se_23 ze_5 rfl (fun _ => rfl) rfl rfl tD tD) (.inr (by rintro _ _ ⟨pm, rfl, rfl⟩ w h; exact h.subD)) ?_
   rintro _ _ ⟨pm, rfl, rfl⟩
   refine dq1 6 rfl (l_slice sz_80_1 rfl tF) (.inr (by rintro _ _ ⟨b17, rfl, rfl⟩ w h; exact h.subD)) ?_
   rintro _ _ ⟨b17, rfl, rfl⟩
   refine D.st (fun w h => pv_sl1 (l := zSec) zSec_len h)<|dq1 7 rfl (lX Kd.sb (ys := [⟨pm, 64, zSec⟩]) se_80 underlying80 ⟨_, ze_sb, rfl⟩ tD rfl rfl tP isP tM rfl rfl (by show (2 * (S.length + 1) + 768) * _ ≤ _; omega)) (.inr (by rintro _ _ ⟨q', c', rfl, rfl⟩ w h; exact h.subD)) ?_
   rintro _ _ ⟨q', c', rfl, rfl⟩
   refine dq1 8 rfl (OpQ.loud (qN rfl)) (.inl tK) ?_
   rintro _ _ ⟨rfl, rfl⟩
   refine dq1 9 rfl (OpQ.loud (qO fo_83_0 rfl)) (.inl tK) ?_
   rintro _ _ ⟨rfl, rfl⟩
   refine dq1N 10 rfl (lA ck_80 rfl rfl rfl tP tA) (.inl tK) ?_
   rintro _ _ ⟨rfl, rfl⟩
   refine D.done tK<|zd<|kr<|kq (q_add rfl rfl tN tN)<|km rfl<|zm<|K.st (fun w h => rO (xs := zSec) (k := Kd.u8) (p := pm) (e := 5) (cap := 64) (h.pick tP))<|K.st (fun w h => nestSl_add (l' := S ++ [⟨pm, 64, zSec⟩]) ⟨pm, 64, zSec⟩ (l := S) tM tM (fun x hx => (List.mem_append.1 hx).imp id List.mem_singleton.1) h) ?_
   exact K.weak tS (fun w h => h.fitD) (ih ⟨(i + 1, q', c', S ++ [⟨pm, 64, zSec⟩]), by show i + 1 ≤ _; omega, by show (S ++ [_]).length = i + 1; rw [List.length_append, hS]; rfl, fun s hs => by
    rcases List.mem_append.1 hs with hs | hs
    ·exact hz s hs
    ·rw [List.mem_singleton.1 hs]⟩ (by show m - (i + 1) < m - i; omega))
  ·rintro _ _ ⟨pm, rfl, rfl⟩
   refine D.all (rs := [4, 6]) tK rfl (DAll.cons rfl tK (OpQ.loud (qD ck_80 rfl)) (.inr (by rintro _ _ ⟨rfl, rfl⟩ w h; exact h.subD)) rfl ?_ (DAll.cons rfl tK (l_slice sz_80_1 rfl tF) (.inr (by rintro _ _ ⟨b17, rfl, rfl⟩ w h; exact h.subD)) rfl ?_ DAll.nil))
   ·rintro _ _ ⟨rfl, rfl⟩
    refine dq1 6 rfl (l_slice sz_80_1 rfl tF) (.inr (by rintro _ _ ⟨b17, rfl, rfl⟩ w h; exact h.subD)) ?_
    rintro _ _ ⟨b17, rfl, rfl⟩
    refine D.st (fun w h => pv_sl1 (l := zSec) zSec_len h)<|dq1 7 rfl (lX Kd.sb (ys := [⟨pm, 64, zSec⟩]) se_80 underlying80 ⟨_, ze_sb, rfl⟩ tD rfl rfl tP isP tM rfl rfl (by show (2 * (S.length + 1) + 768) * _ ≤ _; omega)) (.inr (by rintro _ _ ⟨q', c', rfl, rfl⟩ w h; exact h.subD)) ?_
    rintro _ _ ⟨q', c', rfl, rfl⟩
    refine dq1 8 rfl (OpQ.loud (qN rfl)) (.inl tK) ?_
    rintro _ _ ⟨rfl, rfl⟩
    refine dq1 9 rfl (OpQ.loud (qO fo_83_0 rfl)) (.inl tK) ?_
    rintro _ _ ⟨rfl, rfl⟩
    refine dq1N 10 rfl (lA ck_80 rfl rfl rfl tP tA) (.inl tK) ?_
    rintro _ _ ⟨rfl, rfl⟩
    refine D.done tK<|zd<|kr<|kq (q_add rfl rfl tN tN)<|km rfl<|zm<|K.st (fun w h => rO (xs := zSec) (k := Kd.u8) (p := pm) (e := 5) (cap := 64) (h.pick tP))<|K.st (fun w h => nestSl_add (l' := S ++ [⟨pm, 64, zSec⟩]) ⟨pm, 64, zSec⟩ (l := S) tM tM (fun x hx => (List.mem_append.1 hx).imp id List.mem_singleton.1) h) ?_
    exact K.weak tS (fun w h => h.fitD) (ih ⟨(i + 1, q', c', S ++ [⟨pm, 64, zSec⟩]), by show i + 1 ≤ _; omega, by show (S ++ [_]).length = i + 1; rw [List.length_append, hS]; rfl, fun s hs => by
     rcases List.mem_append.1 hs with hs | hs
     ·exact hz s hs
     ·rw [List.mem_singleton.1 hs]⟩ (by show m - (i + 1) < m - i; omega))
   ·rintro _ _ ⟨b17, rfl, rfl⟩
    refine D.st (fun w h => pv_sl1 (l := zSec) zSec_len h)<|dq1 4 rfl (OpQ.loud (qD ck_80 rfl)) (.inr (by rintro _ _ ⟨rfl, rfl⟩ w h; exact h.subD)) ?_
    rintro _ _ ⟨rfl, rfl⟩
    refine dq1 7 rfl (lX Kd.sb (ys := [⟨pm, 64, zSec⟩]) se_80 underlying80 ⟨_, ze_sb, rfl⟩ tD rfl rfl tP isP tM rfl rfl (by show (2 * (S.length + 1) + 768) * _ ≤ _; omega)) (.inr (by rintro _ _ ⟨q', c', rfl, rfl⟩ w h; exact h.subD)) ?_
    rintro _ _ ⟨q', c', rfl, rfl⟩
    refine dq1 8 rfl (OpQ.loud (qN rfl)) (.inl tK) ?_
    rintro _ _ ⟨rfl, rfl⟩
    refine dq1 9 rfl (OpQ.loud (qO fo_83_0 rfl)) (.inl tK) ?_
    rintro _ _ ⟨rfl, rfl⟩
    refine dq1N 10 rfl (lA ck_80 rfl rfl rfl tP tA) (.inl tK) ?_
    rintro _ _ ⟨rfl, rfl⟩
    refine D.done tK<|zd<|kr<|kq (q_add rfl rfl tN tN)<|km rfl<|zm<|K.st (fun w h => rO (xs := zSec) (k := Kd.u8) (p := pm) (e := 5) (cap := 64) (h.pick tP))<|K.st (fun w h => nestSl_add (l' := S ++ [⟨pm, 64, zSec⟩]) ⟨pm, 64, zSec⟩ (l := S) tM tM (fun x hx => (List.mem_append.1 hx).imp id List.mem_singleton.1) h) ?_
    exact K.weak tS (fun w h => h.fitD) (ih ⟨(i + 1, q', c', S ++ [⟨pm, 64, zSec⟩]), by show i + 1 ≤ _; omega, by show (S ++ [_]).length = i + 1; rw [List.length_append, hS]; rfl, fun s hs => by
     rcases List.mem_append.1 hs with hs | hs
     ·exact hz s hs
     ·rw [List.mem_singleton.1 hs]⟩ (by show m - (i + 1) < m - i; omega))
 ·obtain rfl : i = m := by omega
  have hSe : S.map (·.l) = List.replicate i zSec := List.eq_replicate_iff.2 ⟨by rw [List.length_map, hS], fun b hb => by obtain ⟨s, hs, rfl⟩ := List.mem_map.1 hb; exact hz s hs⟩
  clear ih
  refine K.exit rfl<|ky<|km rfl<|km rfl<|kq (qN rfl)<|kq (qO fo_83_0 rfl)<|kq (qD ck_80 rfl)<|kl (kc rfl (h := clone_sb (RowO Kd.sb 23 q c S) q c S isO tO)) ?_
  rintro _ _ ⟨_, ⟨q', c', rfl, rfl, hqc⟩, rfl⟩
  refine kq (qN rfl)<|kq (qO fo_83_1 rfl)<|kN rfl (lA ck_80 rfl rfl rfl tP tA) ?_
  rintro _ _ ⟨rfl, rfl⟩
  refine zm<|K.st (fun w h => rowO_nil (k := Kd.wz) 92 h)<|K.st (fun w h => nestSl_sub (l' := S ++ S ++ ([] : List Wz).map (·.s)) tM (fun s hs => by simpa using hs) h)<|ky<|km rfl<|ka rfl<|zm ?_
  refine kr1 func11 results11 rfl (fun w hs => ?_)
  exact ⟨_, DkF b5 (Dk.new n) ⟨q, c, S, q', c', S, none, 0, [], -1, by rw [hSe, hm4]; rfl, by rw [hSe, hm4]; rfl, rfl, rfl⟩, rfl, ⟨_, _, rfl, rfl⟩, hs.fitD⟩
theorem dk_Len (p : Nat) (d : Dk) : Fn Tryz.prog 39 [.pointer (some ⟨p, 0, none⟩)].toArray [DkX p d] (fun r post => r = .int .i64 (d.len : Nat) ∧ post = [DkX p d]) :=
 (Fn.exT (f' := DkF p d) (Ψ := fun r M => r = .int .i64 (d.len : Nat) ∧ M = []) (dkI0 d) (fun z => (dk_LenF p d z).mono fun r post ⟨h1, h2⟩ => ⟨z, [], ⟨h1, rfl⟩, h2⟩)).mono fun r post ⟨M, ⟨h1, h2⟩, h3⟩ => ⟨h1, by rw [h3, h2]; rfl⟩
theorem dk_Break (p : Nat) (d : Dk) (n : Int) : Fn Tryz.prog 31 [.pointer (some ⟨p, 0, none⟩), .int .i64 n].toArray [DkX p d] (fun r post => r = .tuple #[] ∧ post = [DkX p (d.brk n)]) :=
 (Fn.exT (f' := DkF p (d.brk n)) (Ψ := fun r M => r = .tuple #[] ∧ M = []) (dkI0 d) (fun z => (dk_BreakF p d n z).mono fun r post ⟨z', h1, h2⟩ => ⟨z', [], ⟨h1, rfl⟩, h2⟩)).mono fun r post ⟨M, ⟨h1, h2⟩, h3⟩ => ⟨h1, by rw [h3, h2]; rfl⟩
theorem dk_Sync (p : Nat) (d : Dk) (hw : d.wf) : Fn Tryz.prog 143 [.pointer (some ⟨p, 0, none⟩)].toArray [DkX p d] (fun r post => r = .bool d.sync.1 ∧ post = [DkX p d.sync.2]) :=
 (Fn.exT (f' := DkF p d.sync.2) (Ψ := fun r M => r = .bool d.sync.1 ∧ M = []) (dkI0 d) (fun z => (dk_SyncF p d z hw).mono fun r post ⟨z', h1, h2⟩ => ⟨z', [], ⟨h1, rfl⟩, h2⟩)).mono fun r post ⟨M, ⟨h1, h2⟩, h3⟩ => ⟨h1, by rw [h3, h2]; rfl⟩
theorem dk_Read (p : Nat) (d : Dk) (i : Int) (hw : d.wf) : Fn Tryz.prog 34 [.pointer (some ⟨p, 0, none⟩), .int .i64 i].toArray [DkX p d] (fun r post => ∃ q c, r = .slice q (d.read i).length c ∧ post = [RowO Kd.u8 5 q c (d.read i), DkX p d] ∧ (d.read i).length ≤ c) :=
 (Fn.exT (f' := DkF p d) (Ψ := fun r M => ∃ q c, r = .slice q (d.read i).length c ∧ M = [RowO Kd.u8 5 q c (d.read i)] ∧ (d.read i).length ≤ c) (dkI0 d) (fun z => (dk_ReadF p d i z hw).mono fun r post ⟨q, c, h1, h2, h3⟩ => ⟨z, [RowO Kd.u8 5 q c (d.read i)], ⟨q, c, h1, rfl, h3⟩, h2⟩)).mono fun r post ⟨M, ⟨q, c, h1, h2, h4⟩, h3⟩ => ⟨q, c, h1, by rw [h3, h2]; rfl, h4⟩
theorem dk_Write (A : HP) (p : Nat) (d : Dk) (i : Int) (qb : Option Addr) (cb : Nat) (b : Sec) (hA : IsRow A Kd.u8 qb b) (hw : d.wf) (hc : d.cnt ≤ 100000000) : Fn Tryz.prog 15 [.pointer (some ⟨p, 0, none⟩), .int .i64 i, .slice qb b.length cb].toArray [A, DkX p d]
  (fun r post => r = .bool (d.write i b).1 ∧ post = [A, DkX p (d.write i b).2]) :=
 (Fn.exM (M0 := [A]) (f' := DkF p (d.write i b).2) (Ψ := fun r M => r = .bool (d.write i b).1 ∧ M = [A]) (dkI0 d) (fun z => (dk_WriteF A p d i qb cb b z hA hw hc).mono fun r post ⟨z', h1, h2⟩ => ⟨z', [A], ⟨h1, rfl⟩, h2⟩)).mono fun r post ⟨M, ⟨h1, h2⟩, h3⟩ => ⟨h1, by rw [h3, h2]; rfl⟩
theorem dk_Crash (A : HP) (p : Nat) (d : Dk) (qk : Option Addr) (ck : Nat) (keep : List Bool) (hA : IsRow A Kd.boolK qk keep) (hw : d.wf) (hc : d.cnt ≤ 100000000) : Fn Tryz.prog 29 [.pointer (some ⟨p, 0, none⟩), .slice qk keep.length ck].toArray [A, DkX p d]
  (fun r post => r = .tuple #[] ∧ post = [A, DkX p (d.crash keep)]) :=
 (Fn.exM (M0 := [A]) (f' := DkF p (d.crash keep)) (Ψ := fun r M => r = .tuple #[] ∧ M = [A]) (dkI0 d) (fun z => (dk_CrashF A p d qk ck keep z hA hw hc).mono fun r post ⟨z', h1, h2⟩ => ⟨z', [A], ⟨h1, rfl⟩, h2⟩)).mono fun r post ⟨M, ⟨h1, h2⟩, h3⟩ => ⟨h1, by rw [h3, h2]; rfl⟩
theorem dk_New (n : Int) : Fn Tryz.prog 11 [.int .i64 n].toArray [] (fun r post => ∃ p, r = .pointer (some ⟨p, 0, none⟩) ∧ post = [DkX p (Dk.new n)]) :=
 ⟨(dk_NewF n).1, fun ρ L w hs => ((dk_NewF n).2 ρ L w hs).mono fun e w' ⟨v, post, he, ⟨p, z, h1, h2⟩, hst⟩ => ⟨v, [DkX p (Dk.new n)], he, ⟨p, h1, rfl⟩, by subst h2; exact St.exI z hst⟩⟩
theorem eq_u8 (A B : HP) (qa qb : Option Addr) (ca cb : Nat) (xs ys : List UInt8) (hA : IsRow A Kd.u8 qa xs) (hB : IsRow B Kd.u8 qb ys) (hl : xs.length ≤ 1000000000) : Fn Tryz.prog 161 [.slice qa xs.length ca, .slice qb ys.length cb].toArray [A, B]
  (fun r post => r = .bool (decide (xs = ys)) ∧ post = [A, B]) := by
 refine Fn.enter (N := 26) func161 rfl ntmps161 tK rfl (fun ρ L => ?_)
 refine ky<|ka rfl<|zm<|ke<|ky<|km rfl<|kq (qG underlying23 rfl)<|km rfl<|kq (qG underlying23 rfl)<|kq (q_ne rfl rfl)<|zm ?_
 refine kD (s := 10) rfl (fun g10 => ?_) (fun g10 => ?_)
 ·have hne : decide (xs = ys) = false := decide_eq_false fun e => g10 (by rw [e])
  refine ky<|ka rfl<|zm ?_
  refine kr1 func161 results161 rfl (fun w hs => ?_)
  exact ⟨_, [A, B], rfl, ⟨by rw [hne], rfl⟩, hs.fitD⟩
 ·have hll : xs.length = ys.length := by omega
  refine za<|ke<|ky<|km rfl<|kq (qG underlying23 rfl)<|km rfl<|zm<|kB ?_
  refine kX (ι := { x : Nat // x ≤ xs.length ∧ xs.take x = ys.take x }) (fun x => [(13, .int .i64 x.1), (12, .int .i64 xs.length), (0, .slice qa xs.length ca), (1, .slice qb ys.length cb)]) (fun x => [A, B] ++ L) (fun x => xs.length - x.1) ⟨0, Nat.zero_le _, rfl⟩ tS (fun w h => h.fitD) (fun x ih => ?_)
  obtain ⟨i, hi, ht⟩ := x
  dsimp only at hi ht ⊢
  refine ky<|kq (q_lt rfl rfl)<|zm<|ke ?_
  refine kD (s := 14) rfl (fun g14 => ?_) (fun g14 => ?_)
  ·obtain ⟨a, ha⟩ : ∃ a, xs[i]? = some a := ⟨_, List.getElem?_eq_getElem tO⟩
   obtain ⟨b, hb⟩ : ∃ b, ys[i]? = some b := ⟨_, List.getElem?_eq_getElem tO⟩
   refine za<|ke<|kB<|ky<|km rfl<|ka rfl<|zm<|ke<|K.drawS [A, B] (fun _ h => h.subD) mixed<|dq 0 rfl (q_move rfl)<|dq 1 rfl (q_move rfl)<|dq 2 rfl (q_ix (xs := xs) i se_23 rfl rfl rfl hA tM rfl tO)<|dq 3 rfl (q_ldE ck_5 rfl hA tM ha rfl)<|dq 4 rfl (q_move rfl)<|dq 5 rfl (q_move rfl)<|dq 6 rfl (q_ix (xs := ys) i se_23 rfl rfl rfl hB tM rfl tO)<|dq 7 rfl (q_ldE ck_5 rfl hB tM hb rfl)<|dq 8 rfl (q_ne rfl rfl)<|D.done tK ?_
   refine kD (s := 24) rfl (fun g24 => ?_) (fun g24 => ?_)
   ·have hne : decide (xs = ys) = false := decide_eq_false fun e => by
     rw [e, hb] at ha; cases ha; exact g24 rfl
    refine ky<|ka rfl<|zm ?_
    refine kr1 func161 results161 rfl (fun w hs => ?_)
    exact ⟨_, [A, B], rfl, ⟨by rw [hne], rfl⟩, hs.fitD⟩
   ·have hab : a = b := UInt8.toNat_inj.1 tO
    have hnx : xs.take (i + 1) = ys.take (i + 1) := by rw [List.take_add_one, List.take_add_one, ht, ha, hb, hab]
    refine za<|zd<|kr<|kq (q_add rfl rfl tN tN)<|km rfl<|zm ?_
    exact K.weak tS (fun w h => h.fitD) (ih ⟨i + 1, by omega, hnx⟩ (by show xs.length - (i + 1) < xs.length - i; omega))
  ·obtain rfl : i = xs.length := by omega
   have hee : decide (xs = ys) = true := decide_eq_true (by rwa [List.take_length, hll, List.take_length] at ht)
   refine K.exit rfl<|ky<|ka rfl<|zm ?_
   refine kr1 func161 results161 rfl (fun w hs => ?_)
   exact ⟨_, [A, B], rfl, ⟨by rw [hee], rfl⟩, hs.fitD⟩
theorem sp_Need (n : Int) (h : n ≤ 9223372036854775807) : Fn Tryz.prog 150 [.int .i64 n].toArray [] (fun r post => r = .int .i64 (need n) ∧ post = []) := by
 refine Fn.enter (N := 9) func150 rfl ntmps150 tK rfl (fun ρ L => ?_)
 refine ky<|ka rfl<|zm<|ke<|ky<|km rfl<|kq (q_lt rfl rfl)<|zm ?_
 refine kD (s := 4) rfl (fun g4 => ?_) (fun g4 => ?_)
 ·have hr : need n = 0 := by unfold need; rw [if_pos g4]
  refine ky<|ka rfl<|zm ?_
  refine kr1 func150 results150 rfl (fun w hs => ?_)
  exact ⟨_, [], rfl, ⟨by rw [hr], rfl⟩, hs.fitD⟩
 ·have hr : (n - 1).tdiv 64 + 1 = need n := by unfold need; rw [if_neg g4]
  have h2 : 0 ≤ (n - 1).tdiv 64 ∧ (n - 1).tdiv 64 ≤ n - 1 := by rw [Int.tdiv_eq_ediv_of_nonneg tO]; omega
  refine za<|ky<|km rfl<|kq (q_sub rfl rfl tN tN)<|kq (q_is (q_div rfl rfl tD) (congrArg (Value.int .i64) (wrap_i64 tO tO)))<|kq (q_add rfl rfl tN tN)<|ka rfl<|zm ?_
  refine kr1 func150 results150 rfl (fun w hs => ?_)
  exact ⟨_, [], rfl, ⟨by rw [hr], rfl⟩, hs.fitD⟩
theorem sp_Is (p : Nat) (d : Dk) (at_ n : Int) (h4 : d.len ≤ 4096) : Fn Tryz.prog 121 [.pointer (some ⟨p, 0, none⟩), .int .i64 at_, .int .i64 n].toArray [DkX p d] (fun r post => r = .bool (d.lies at_ n) ∧ post = [DkX p d]) := by
 refine Fn.enter (N := 23) func121 rfl ntmps121 tK rfl (fun ρ L => ?_)
 refine ky<|ka rfl<|kz<|km rfl<|kq (q_ge rfl rfl)<|km rfl ?_
 refine KO.dsplit 9 rfl (fun g9 => ?_) (fun g9 => ?_)
 ·refine km rfl<|km rfl<|kl (kc rfl (h := dk_Len _ _)) ?_
  rintro _ _ ⟨_, ⟨rfl, rfl⟩, rfl⟩
  refine kq (q_le rfl rfl)<|kq (qT rfl rfl)<|km rfl ?_
  refine KO.dsplit 15 rfl (fun g15 => ?_) (fun g15 => ?_)
  ·refine km rfl<|km rfl<|kl (kc rfl (h := dk_Len _ _)) ?_
   rintro _ _ ⟨_, ⟨rfl, rfl⟩, rfl⟩
   refine km rfl<|kq (q_sub rfl rfl tN tN)<|kq (q_le rfl rfl)<|kq (qT rfl rfl)<|ka rfl<|zm ?_
   refine kr1 func121 results121 rfl (fun w hs => ?_)
   exact ⟨_, [DkX p d], rfl, ⟨congrArg Value.bool (by unfold Dk.lies; simp [*]), rfl⟩, hs.fitD⟩
  ·refine zq<|zq<|zq<|zq<|zq<|zq<|kq (qF rfl rfl)<|ka rfl<|zm ?_
   refine kr1 func121 results121 rfl (fun w hs => ?_)
   exact ⟨_, [DkX p d], rfl, ⟨congrArg Value.bool (by unfold Dk.lies; simp [*]), rfl⟩, hs.fitD⟩
 ·refine zq<|zq<|zq<|zq<|kq (qF rfl rfl)<|km rfl<|zq<|zq<|zq<|zq<|zq<|zq<|kq (qF rfl rfl)<|ka rfl<|zm ?_
  refine kr1 func121 results121 rfl (fun w hs => ?_)
  exact ⟨_, [DkX p d], rfl, ⟨congrArg Value.bool (by unfold Dk.lies; simp [*]), rfl⟩, hs.fitD⟩
theorem sp_Fill (A : HP) (q : Option Addr) (c : Nat) (b : List UInt8) (hA : IsRow A Kd.u8 q b) (h0 : 0 < b.length) (hb : b.length ≤ 1000000) : Fn Tryz.prog 197 [.slice q b.length c].toArray [A]
  (fun r post => ∃ q', r = .slice q' (fillB b).length (fillB b).length ∧ post = [RowO Kd.u8 5 q' (fillB b).length (fillB b), A]) := by
 have hfl := fillB_len b
 have hnf := need_fit (n := (b.length : Int)) (Int.natCast_nonneg _)
 have hnn := need_nn (b.length : Int)
 have hfb : (List.replicate (fillB b).length (0 : UInt8)).take 0 ++ b.take b.length ++ (List.replicate (fillB b).length (0 : UInt8)).drop (0 + b.length) = fillB b := by
  rw [List.take_zero, List.nil_append, List.take_length, List.drop_replicate, hfl, Nat.zero_add]; rfl
 refine Fn.enter (N := 13) func197 rfl ntmps197 tK rfl (fun ρ L => ?_)
 refine ky<|ka rfl<|kz<|km rfl<|kq (qG underlying23 rfl)<|kl (kc rfl (h := sp_Need _ tO)) ?_
 rintro _ _ ⟨_, ⟨rfl, rfl⟩, rfl⟩
 refine kq (q_mul rfl rfl tN tN)<|kl (l_make (m := (fillB b).length) Kd.u8 0 se_23 ze_5 rfl (fun _ => rfl) rfl (by rw [hfl]; omega) (by rw [hfl]; omega) (by rw [hfl]; omega)) ?_
 rintro _ _ ⟨q', rfl, rfl⟩
 refine ka rfl<|kz<|km rfl<|km rfl<|kl (l_copyA (i := 0) (m := b.length) (p := q') (cap := (fillB b).length) Kd.u8 se_23 (by rw [cutAddr_zero]; rfl) rfl tP hA tM rfl (Nat.min_eq_left (by rw [hfl]; omega)) (Nat.zero_le _) (by rw [hfl]; omega) (by rw [hfl]; omega)) ?_
 rintro _ _ ⟨rfl, rfl⟩
 refine zm ?_
 rw [hfb]
 refine ky<|km rfl<|ka rfl<|zm ?_
 refine kr1 func197 results197 rfl (fun w hs => ?_)
 exact ⟨_, [RowO Kd.u8 5 q' (fillB b).length (fillB b), A], rfl, ⟨q', rfl, rfl⟩, hs.fitD⟩
set_option maxHeartbeats 1600000 in
theorem sp_Put (A : HP) (p : Nat) (d : Dk) (at_ : Int) (q : Option Addr) (c : Nat) (b : List UInt8) (hA : IsRow A Kd.u8 q b) (hw : d.wf) (hc : d.cnt ≤ 90000000) (hb : b.length ≤ 1000000) : Fn Tryz.prog 142 [.pointer (some ⟨p, 0, none⟩), .int .i64 at_, .slice q b.length c].toArray [A, DkX p d]
  (fun r post => r = .bool (d.spanPut at_ b).1 ∧ post = [A, DkX p (d.spanPut at_ b).2]) := by
 have h4 := hw.len
 have hfl := fillB_len b
 have hnf := need_fit (n := (b.length : Int)) (Int.natCast_nonneg _)
 have hnn := need_nn (b.length : Int)
 refine Fn.enter (N := 33) func142 rfl ntmps142 tK rfl (fun ρ L => ?_)
 refine ky<|ka rfl<|zm<|ke<|ky<|km rfl<|kq (qG underlying23 rfl)<|kq (q_eq rfl rfl)<|zm ?_
 refine kD (s := 10) rfl (fun g10 => ?_) (fun g10 => ?_)
 ·have hr : d.spanPut at_ b = (true, d) := by unfold Dk.spanPut; rw [if_pos g10]
  refine ky<|ka rfl<|zm ?_
  refine kr1 func142 results142 rfl (fun w hs => ?_)
  rw [hr]
  exact ⟨_, [A, DkX p d], rfl, ⟨rfl, rfl⟩, hs.fitD⟩
 ·refine za<|ke<|ky<|km rfl<|km rfl<|km rfl<|kq (qG underlying23 rfl)<|kl (kc rfl (h := sp_Need _ tO)) ?_
  rintro _ _ ⟨_, ⟨rfl, rfl⟩, rfl⟩
  refine kl (kc rfl (h := sp_Is _ _ _ _ (by assumption))) ?_
  rintro _ _ ⟨_, ⟨rfl, rfl⟩, rfl⟩
  refine kq (q_not rfl)<|zm ?_
  refine kT (s := 17) rfl (fun g17 => ?_) (fun g17 => ?_)
  ·have hr : d.spanPut at_ b = (false, d) := by unfold Dk.spanPut; rw [if_neg g10, if_neg (by simpa using g17)]
   refine ky<|ka rfl<|zm ?_
   refine kr1 func142 results142 rfl (fun w hs => ?_)
   rw [hr]
   exact ⟨_, [A, DkX p d], rfl, ⟨rfl, rfl⟩, hs.fitD⟩
  ·have hly : d.lies at_ (need b.length) = true := by simpa using g17
   have hr : d.spanPut at_ b = d.puts at_ (secsOf b) := by unfold Dk.spanPut; rw [if_neg g10, if_pos hly]
   have hly2 : 0 ≤ at_ ∧ at_ ≤ (d.len : Int) ∧ need b.length ≤ (d.len : Int) - at_ := by
    unfold Dk.lies at hly
    simp only [Bool.and_eq_true, decide_eq_true_eq] at hly
    exact ⟨hly.1.1, hly.1.2, hly.2⟩
   obtain ⟨m, hm⟩ : ∃ m : Nat, need b.length = (m : Int) := ⟨_, (Int.toNat_of_nonneg hnn).symm⟩
   rw [hm] at hfl hnf hly2
   rw [Int.toNat_natCast] at hfl
   have hse : secsOf b = secs m (fillB b) := by unfold secsOf; rw [hm]; rfl
   refine za<|ke<|ky<|km rfl<|kl (kc rfl (h := sp_Fill A q c b hA tO hb)) ?_
   rintro _ _ ⟨_, ⟨q', rfl, rfl⟩, rfl⟩
   refine KO.st (fun w h => rO (h.pick tP))<|ka rfl<|zm<|kB ?_
   refine kX (ι := { x : Nat × (Option Addr × Nat) × List UInt8 × Dk // x.1 ≤ m ∧ x.2.2.1.length = (m - x.1) * 64 ∧ x.2.2.1.length ≤ x.2.1.2 ∧ d.puts at_ (secs m (fillB b)) = x.2.2.2.puts (at_ + x.1) (secs (m - x.1) x.2.2.1) ∧ x.2.2.2.wf ∧ x.2.2.2.cnt ≤ d.cnt + x.1 ∧ x.2.2.2.len = d.len }) (fun x => [(7, .slice x.1.2.1.1 x.1.2.2.1.length x.1.2.1.2), (1, .int .i64 (at_ + x.1.1)), (0, .pointer (some ⟨p, 0, none⟩))]) (fun x => [A, DkX p x.1.2.2.2, RowF Kd.u8 x.1.2.1.1 x.1.2.2.1] ++ L) (fun x => m - x.1.1) ⟨(0, (q', (fillB b).length), fillB b, d), Nat.zero_le _, by show _ = (m - 0) * 64; omega, Nat.le_refl _, by show _ = d.puts (at_ + (0 : Nat)) (secs (m - 0) (fillB b)); rw [Nat.sub_zero]; congr 1; omega, hw, Nat.le_refl _, rfl⟩ (eC rfl (eC (by show _ = some (Value.int .i64 (at_ + (0 : Nat))); refine congrArg (fun z => some (Value.int .i64 z)) ?_; omega) (eC rfl (Env.sub_nil _)))) (fun w h => h.fitD) (fun x ih => ?_)
   obtain ⟨⟨j, ⟨q1, c1⟩, rest, d1⟩, hj, hrl, hrc, hpt, hw1, hc1, hl1⟩ := x
   dsimp only at hj hrl hrc hpt hw1 hc1 hl1 ⊢
   refine ke<|ky<|km rfl<|kq (qG underlying23 rfl)<|kq (q_gt rfl rfl)<|zm ?_
   refine kD (s := 22) rfl (fun g22 => ?_) (fun g22 => ?_)
   ·have hjm : j < m := by
     rcases Nat.lt_or_ge j m with h | h
     ·exact h
     ·exfalso
      have : m - j = 0 := by omega
      rw [this] at hrl; omega
    have h64 : (rest.take 64).length = 64 := by rw [List.length_take]; omega
    have hss : secs (m - j) rest = rest.take 64 :: secs (m - (j + 1)) (rest.drop 64) := by
     obtain ⟨k, hk⟩ : ∃ k, m - j = k + 1 := ⟨m - j - 1, by omega⟩
     rw [hk, show m - (j + 1) = k by omega]; rfl
    rw [hss, Dk.puts_cons] at hpt
    refine K.st (fun w h => rowF_take (k := Kd.u8) (p := q1) (xs := rest) 64 tM h)<|za<|ke<|kB<|ke<|ky<|km rfl<|km rfl<|km rfl<|kq (q_is (q_cutH se_23 rfl rfl tD tO) (show Value.slice q1 (64 : Int).toNat c1 = Value.slice q1 (rest.take 64).length c1 by rw [h64]; rfl))<|kl (kc rfl (h := dk_Write (RowF Kd.u8 q1 (rest.take 64)) p d1 (at_ + j) q1 c1 (rest.take 64) isF hw1 tO)) ?_
    rintro _ _ ⟨_, ⟨rfl, rfl⟩, rfl⟩
    refine kq (q_not rfl)<|zm ?_
    refine kT (s := 30) rfl (fun g30 => ?_) (fun g30 => ?_)
    ·have hwf : (d1.write (at_ + j) (rest.take 64)).1 = false := by simpa using g30
     rw [if_neg (by rw [hwf]; decide)] at hpt
     refine ky<|ka rfl<|zm ?_
     refine kr1 func142 results142 rfl (fun w hs => ?_)
     rw [hr, hse, hpt]
     exact ⟨_, [A, DkX p (d1.write (at_ + j) (rest.take 64)).2], rfl, ⟨rfl, rfl⟩, hs.fitD⟩
    ·have hwt : (d1.write (at_ + j) (rest.take 64)).1 = true := by simpa using g30
     rw [if_pos hwt] at hpt
     have hc2 := d1.write_cnt (at_ + j) (rest.take 64)
     have hd2 : (rest.drop 64).length = (m - (j + 1)) * 64 := by rw [List.length_drop]; omega
     have hd3 : rest.length - 64 = (rest.drop 64).length := by rw [List.length_drop]
     refine za<|kr<|km rfl<|kq (q_add rfl rfl tN tN)<|ka rfl<|zm<|zd<|kr<|km rfl<|kq (q_is (q_cutL se_23 rfl rfl tD tO tO) (show Value.slice (cutAddr q1 c1 (64 : Int).toNat 1) (rest.length - (64 : Int).toNat) (c1 - (64 : Int).toNat) = Value.slice (cutAddr q1 c1 64 1) (rest.drop 64).length (c1 - 64) by rw [← hd3]; rfl))<|ka rfl<|zm<|K.st (fun w h => rowF_cut (k := Kd.u8) (p := q1) (xs := rest) (cap := c1) 64 hrc tM h) ?_
     exact K.weak (eC rfl (eC (by show _ = some (Value.int .i64 (at_ + ((j + 1 : Nat) : Int))); refine congrArg (fun z => some (Value.int .i64 z)) ?_; omega) (eC rfl (Env.sub_nil _)))) (fun w h => h.fitD) (ih ⟨(j + 1, (cutAddr q1 c1 64 1, c1 - 64), rest.drop 64, (d1.write (at_ + j) (rest.take 64)).2), by show j + 1 ≤ m; omega, hd2, by show (rest.drop 64).length ≤ c1 - 64; omega, by show _ = Dk.puts _ (at_ + ((j + 1 : Nat) : Int)) _; rw [hpt]; congr 1; omega, hw1.write _ _, by show (d1.write (at_ + j) (rest.take 64)).2.cnt ≤ d.cnt + (j + 1); omega, by show (Dk.write _ _ _).2.len = _; rw [Dk.write_len, hl1]⟩ (by show m - (j + 1) < m - j; omega))
   ·have hjm : j = m := by omega
    subst hjm
    rw [Nat.sub_self] at hpt
    have hpt : d.puts at_ (secs j (fillB b)) = (true, d1) := hpt
    clear ih
    refine K.exit rfl<|ky<|ka rfl<|zm ?_
    refine kr1 func142 results142 rfl (fun w hs => ?_)
    rw [hr, hse, hpt]
    exact ⟨_, [A, DkX p d1], rfl, ⟨rfl, rfl⟩, hs.fitD⟩
set_option maxHeartbeats 1600000 in
theorem sp_Get (p : Nat) (d : Dk) (at_ n : Int) (hw : d.wf) : Fn Tryz.prog 162 [.pointer (some ⟨p, 0, none⟩), .int .i64 at_, .int .i64 n].toArray [DkX p d]
  (fun r post => ∃ q c, r = .slice q (d.spanGet at_ n).length c ∧ post = [RowF Kd.u8 q (d.spanGet at_ n), DkX p d] ∧ (d.spanGet at_ n).length ≤ c) := by
 have h4 := hw.len
 obtain ⟨k, hk, hk2⟩ : ∃ k : Nat, max 0 (if (262144 : Int) < n then (262144 : Int) else n) = (k : Int) ∧ Dk.cutN n = (k : Int) := ⟨(Dk.cutN n).toNat, by unfold Dk.cutN; split <;> omega, by unfold Dk.cutN; omega⟩
 have hkl : k ≤ 262144 := by unfold Dk.cutN at hk2; omega
 have hnn := need_nn (k : Int)
 have hnf := need_fit (n := (k : Int)) (Int.natCast_nonneg _)
 refine Fn.enter (N := 34) func162 rfl ntmps162 tK rfl (fun ρ L => ?_)
 refine ky<|ka rfl<|kz<|km rfl<|kq (q_min rfl rfl)<|kq (q_max rfl rfl)<|ka rfl<|zm ?_
 rw [hk]
 refine ke<|ky<|km rfl<|km rfl<|km rfl<|kl (kc rfl (h := sp_Need _ tO)) ?_
 rintro _ _ ⟨_, ⟨rfl, rfl⟩, rfl⟩
 refine kl (kc rfl (h := sp_Is _ _ _ _ (by assumption))) ?_
 rintro _ _ ⟨_, ⟨rfl, rfl⟩, rfl⟩
 refine kq (q_not rfl)<|zm ?_
 refine kT (s := 17) rfl (fun g17 => ?_) (fun g17 => ?_)
 ·have hr : d.spanGet at_ n = [] := by unfold Dk.spanGet; rw [hk2, if_neg (by simpa using g17)]
  refine ky<|ka rfl<|zm ?_
  refine kr1 func162 results162 rfl (fun w hs => ?_)
  rw [hr]
  exact ⟨_, [RowF Kd.u8 none [], DkX p d], rfl, ⟨none, 0, rfl, rfl, Nat.le_refl _⟩, (rowF_nil (k := Kd.u8) none hs).fitD⟩
 ·have hly : d.lies at_ (need k) = true := by simpa using g17
  have hly2 : 0 ≤ at_ ∧ at_ ≤ (d.len : Int) ∧ need k ≤ (d.len : Int) - at_ := by
   unfold Dk.lies at hly
   simp only [Bool.and_eq_true, decide_eq_true_eq] at hly
   exact ⟨hly.1.1, hly.1.2, hly.2⟩
  obtain ⟨m, hm⟩ : ∃ m : Nat, need k = (m : Int) := ⟨_, (Int.toNat_of_nonneg hnn).symm⟩
  rw [hm] at hnf hly2
  have hr : d.spanGet at_ n = (d.reads at_ m).take k := by unfold Dk.spanGet; rw [hk2, if_pos hly, hm]; rfl
  have hrl := Dk.reads_len hw m hly2.1 tO
  refine za<|ky<|ka rfl<|zm<|ke<|ky<|km rfl<|kl (kc rfl (h := sp_Need _ tO)) ?_
  rintro _ _ ⟨_, ⟨rfl, rfl⟩, rfl⟩
  refine km rfl<|zm ?_
  rw [hm]
  refine kB ?_
  refine kX (ι := { x : Nat × Option Addr × Nat // x.1 ≤ m }) (fun x => [(20, .int .i64 x.1.1), (19, .int .i64 m), (7, .slice x.1.2.1 (d.reads at_ x.1.1).length x.1.2.2), (0, .pointer (some ⟨p, 0, none⟩)), (1, .int .i64 at_), (2, .int .i64 k)]) (fun x => [DkX p d, RowO Kd.u8 5 x.1.2.1 x.1.2.2 (d.reads at_ x.1.1)] ++ L) (fun x => m - x.1.1) ⟨(0, none, 0), Nat.zero_le _⟩ tS (fun w h => (rowO_nil (k := Kd.u8) 5 h).fitD) (fun x ih => ?_)
  obtain ⟨⟨i, q1, c1⟩, hi⟩ := x
  dsimp only at hi ⊢
  refine ky<|kq (q_lt rfl rfl)<|zm<|ke ?_
  refine kD (s := 21) rfl (fun g21 => ?_) (fun g21 => ?_)
  ·have hle := Dk.reads_le hw at_ i
   have hle2 := Dk.read_le hw (at_ + i)
   have hsu := d.reads_succ at_ i
   refine za<|ke<|kB<|ky<|km rfl<|ka rfl<|zm<|kr<|km rfl<|km rfl<|km rfl<|km rfl<|kq (q_add rfl rfl tN tN)<|kl (kc rfl (h := dk_Read p d (at_ + i) hw)) ?_
   rintro _ _ ⟨_, ⟨qr, cr, rfl, rfl, hqr⟩, rfl⟩
   refine kl (lX Kd.u8 (ys := d.read (at_ + i)) se_23 underlying23 ⟨_, ze_5, rfl⟩ tD rfl rfl tP isO tM rfl rfl (by show (2 * ((d.reads at_ i).length + (d.read (at_ + i)).length) + 768) * _ ≤ _; omega)) ?_
   rintro _ _ ⟨q2, c2, rfl, rfl⟩
   refine ka rfl<|zm<|zd<|kr<|kq (q_add rfl rfl tN tN)<|km rfl<|zm ?_
   rw [← hsu]
   exact K.weak tS (fun w h => h.fitD) (ih ⟨(i + 1, q2, c2), by show i + 1 ≤ _; omega⟩ (by show m - (i + 1) < m - i; omega))
  ·obtain rfl : i = m := by omega
   have htl : ((d.reads at_ i).take k).length = k := by rw [List.length_take, hrl]; omega
   refine K.fact (rC (k := Kd.u8) (e := 5) (p := q1) (cap := c1) (xs := d.reads at_ i) tM) (fun hcp => ?_)
   refine K.st (fun w h => rO (k := Kd.u8) (e := 5) (p := q1) (cap := c1) (xs := d.reads at_ i) (h.pick tP))<|K.st (fun w h => rowF_take (k := Kd.u8) (p := q1) (xs := d.reads at_ i) k tM h) ?_
   clear ih
   refine K.exit rfl<|ky<|km rfl<|km rfl<|kq (q_is (q_cutH se_23 rfl rfl tO tO) (show Value.slice q1 (k : Int).toNat c1 = Value.slice q1 ((d.reads at_ i).take k).length c1 by rw [htl]; rfl))<|ka rfl<|zm ?_
   refine kr1 func162 results162 rfl (fun w hs => ?_)
   rw [hr]
   exact ⟨_, [RowF Kd.u8 q1 ((d.reads at_ i).take k), DkX p d], rfl, ⟨q1, c1, rfl, rfl, by omega⟩, hs.fitD⟩
end Go.Proofs.YtkbhldicnamcdaaGreat.L
namespace Go.Proofs.YtkbhldicnamcdaaGreat.L
open Go Go.Proofs
attribute [local irreducible] pv fv pt fz RowF RowO rowP old pure_ elA Rd.int Rd.text Rd.flag Rd.msg Rd.rint Rd.rtext Rd.rflag Rd.rmsg
theorem DM.also_no {f g : DM} {d : Dk} (h : (f d).1 = false) : f.also g d = (false, (f d).2) := by unfold DM.also; rw [if_neg (by rw [h]; decide)]
theorem DM.also_yes {f g : DM} {d : Dk} (h : (f d).1 = true) : f.also g d = g (f d).2 := by unfold DM.also; rw [if_pos h]
theorem bit0_cases (n : Int) : bit0 n = 0 ∨ bit0 n = 1 := by unfold bit0; omega
theorem bit0_and (a : Int) : IntKind.i64.wrap ((BitVec.ofInt IntKind.i64.bits a &&& BitVec.ofInt IntKind.i64.bits 1).toNat) = bit0 a := by
 have h1 : (BitVec.ofInt IntKind.i64.bits a &&& BitVec.ofInt IntKind.i64.bits 1).toNat = (a % 18446744073709551616).toNat % 2 := by
  rw [BitVec.toNat_and, BitVec.toNat_ofInt]
  show (a % 18446744073709551616).toNat &&& 1 = _
  exact Nat.and_one_is_mod _
 rw [h1, wrap_i64 tO tO]
 unfold bit0; omega
section
variable {X : Fx} {E : Env} {L : List HP} {d : Option Tmp} {ty : TypeId} {pos : String} {af : Array Edge} {gd : Option (Nat × Bool)} {t u : TypeId} {x y : Operand}
theorem q_bit {a : Int} (hx : Env.ev E x = some (.int .i64 a)) (hy : Env.ev E y = some (.int .i64 1)) : OpQ X ⟨d, .binOp .and t x y u, ty, pos, af, gd⟩ E L (.int .i64 (bit0 a)) :=
 q_is (q_and hx hy) (congrArg (Value.int .i64) (bit0_and a))
end
def rtE (o : Option (Int × List UInt8)) : Int := (o.map (·.1)).getD 0
def rtB (o : Option (Int × List UInt8)) : List UInt8 := (o.map (·.2)).getD []
theorem rtOne_none {d : Dk} {w e n : Int} (h : rtSize (d.read w) = (e, n)) (hc : e < 1 ∨ ¬ bit0 e = w ∨ n < 0 ∨ 6144 < n ∨ ¬ d.read w = rootS e n ∨ d.lies (rtPlace e) (need n) = false) : rtOne d w = none := by
 unfold rtOne
 rw [h]
 dsimp only
 rw [if_pos]
 rcases hc with h | h | h | h | h | h <;> simp [h]
theorem rtOne_some {d : Dk} {w e n : Int} (h : rtSize (d.read w) = (e, n)) (h1 : ¬ e < 1) (h2 : bit0 e = w) (h3 : ¬ n < 0) (h4 : ¬ 6144 < n) (h5 : d.read w = rootS e n) (h6 : d.lies (rtPlace e) (need n) = true) : rtOne d w = some (e, d.spanGet (rtPlace e) n) := by
 unfold rtOne
 rw [h]
 dsimp only
 rw [if_neg]
 simp [h1, h2, h3, h4, h5, h6]
theorem rt_cut : Fn Tryz.prog 95 [.int .i64 96].toArray [] (fun r post => r = .int .i64 96 ∧ post = []) := by
 refine Fn.enter (N := 6) func95 rfl ntmps95 tK rfl (fun ρ L => ?_)
 refine ky<|ka rfl<|kz<|km rfl<|kq (q_min rfl rfl)<|kq (q_max rfl rfl)<|ka rfl<|zm ?_
 refine kr1 func95 results95 rfl (fun w hs => ?_)
 exact ⟨_, [], rfl, ⟨rfl, rfl⟩, hs.fitD⟩
theorem rt_Need : Fn Tryz.prog 53 [.int .i64 96].toArray [] (fun r post => r = .int .i64 194 ∧ post = []) := by
 refine Fn.enter (N := 7) func53 rfl ntmps53 tK rfl (fun ρ L => ?_)
 refine ky<|ka rfl<|kz<|km rfl<|kl (kc rfl (h := rt_cut)) ?_
 rintro _ _ ⟨_, ⟨rfl, rfl⟩, rfl⟩
 refine kq (q_mul rfl rfl tN tN)<|kq (q_add rfl rfl tN tN)<|ka rfl<|zm ?_
 refine kr1 func53 results53 rfl (fun w hs => ?_)
 exact ⟨_, [], rfl, ⟨rfl, rfl⟩, hs.fitD⟩
theorem rt_place (e : Int) : Fn Tryz.prog 141 [.int .i64 0, .int .i64 96, .int .i64 e].toArray [] (fun r post => r = .int .i64 (rtPlace e) ∧ post = []) := by
 have hb := bit0_cases e
 refine Fn.enter (N := 14) func141 rfl ntmps141 tK rfl (fun ρ L => ?_)
 refine ky<|ka rfl<|kz<|km rfl<|kq (q_add rfl rfl tN tN)<|km rfl<|kq (q_bit rfl rfl)<|km rfl<|kq (q_mul rfl rfl tN tN)<|kq (q_add rfl rfl tN tN)<|ka rfl<|zm ?_
 refine kr1 func141 results141 rfl (fun w hs => ?_)
 exact ⟨_, [], rfl, ⟨congrArg (Value.int .i64) (by unfold rtPlace; omega), rfl⟩, hs.fitD⟩
theorem rt_root (e n : Int) : Fn Tryz.prog 144 [.int .i64 e, .int .i64 n].toArray [] (fun r post => ∃ q, r = .slice q (rootS e n).length 64 ∧ post = [RowF Kd.u8 q (rootS e n)]) := by
 have hrl := rootS_len e n
 have hraw := root_raw e n
 have hx : [] ++ wText rootT ++ wInt e ++ wInt n = wText rootT ++ wInt e ++ wInt n := by simp
 refine Fn.enter (N := 19) func144 rfl ntmps144 tK rfl (fun ρ L => ?_)
 refine ky<|ka rfl<|kz<|kq (q_build st_150 rfl tF)<|kl (l_box rfl rfl) ?_
 rintro _ _ ⟨b7, rfl, rfl⟩
 refine ka rfl<|zm<|K.st (fun w h => rowO_nil (k := Kd.u8) 5 h)<|ky<|km rfl<|kl (kc rfl (h := wr_TextA b7 none 0 [] rootT tD)) ?_
 rintro _ _ ⟨_, ⟨q1, c1, rfl, rfl⟩, rfl⟩
 refine kz<|km rfl<|km rfl ?_
 refine kl (kc rfl (h := wr_Int _ _ _ _ _ (by first | omega | (simp [wI, wF, wT]; omega)))) ?_
 rintro _ _ ⟨_, ⟨q1, c1, rfl, rfl⟩, rfl⟩
 refine kz<|km rfl<|km rfl ?_
 refine kl (kc rfl (h := wr_Int _ _ _ _ _ (by first | omega | (simp [wI, wF, wT]; omega)))) ?_
 rintro _ _ ⟨_, ⟨q2, c2, rfl, rfl⟩, rfl⟩
 refine zm ?_
 rw [hx]
 refine ky<|km rfl<|kl (kc rfl (h := wr_Bytes _ _ _ (wText rootT ++ wInt e ++ wInt n) (by rw [hraw]; decide))) ?_
 rintro _ _ ⟨_, ⟨q5, c5, rfl, rfl, hc5⟩, rfl⟩
 refine kl (kc rfl (h := sp_Fill (RowF Kd.u8 q5 (wText rootT ++ wInt e ++ wInt n)) q5 c5 (wText rootT ++ wInt e ++ wInt n) isF (by rw [hraw]; decide) (by rw [hraw]; decide))) ?_
 rintro _ _ ⟨_, ⟨q6, rfl, rfl⟩, rfl⟩
 refine ka rfl<|zm<|K.st (fun w h => rO (h.pick tP)) ?_
 refine kr1 func144 results144 rfl (fun w hs => ?_)
 exact ⟨_, [RowF Kd.u8 q6 (rootS e n)], rfl, ⟨q6, by show Value.slice q6 (rootS e n).length (rootS e n).length = _; rw [hrl], rfl⟩, hs.fit (M := [RowF Kd.u8 q6 (fillB (wText rootT ++ wInt e ++ wInt n))]) tG (by repeat (first | exact Drop.refl | apply Drop.skip))⟩
set_option maxHeartbeats 1600000 in
theorem rt_read (p : Nat) (d : Dk) (wi : Int) (hw : d.wf) (hw2 : wi = 0 ∨ wi = 1) : Fn Tryz.prog 122 [.pointer (some ⟨p, 0, none⟩), .int .i64 0, .int .i64 96, .int .i64 wi].toArray [DkX p d]
  (fun r post => ∃ q c, r = .tuple #[.int .i64 (rtE (rtOne d wi)), .slice q (rtB (rtOne d wi)).length c, .bool (rtOne d wi).isSome] ∧ post = [RowF Kd.u8 q (rtB (rtOne d wi)), DkX p d] ∧ (rtB (rtOne d wi)).length ≤ c) := by
 have h4 := hw.len
 have hrd := Dk.read_le hw wi
 refine Fn.enter (N := 73) func122 rfl ntmps122 tK rfl (fun ρ L => ?_)
 refine ky<|ka rfl<|ka rfl<|ka rfl<|kz<|km rfl<|km rfl<|km rfl<|kq (q_add rfl rfl tN tN)<|kl (kc rfl (h := dk_Read p d (0 + wi) hw)) ?_
 rintro _ _ ⟨_, ⟨qr, cr, rfl, rfl, hqr⟩, rfl⟩
 rw [Int.zero_add] at hqr ⊢
 refine KO.st (fun w h => rO (h.pick tP))<|ka rfl<|kz<|km rfl<|kl (kc rfl (h := rd_New _ _ _ tN)) ?_
 rintro _ _ ⟨_, ⟨p1, q1, c1, rfl, rfl, hc1⟩, rfl⟩
 refine ka rfl<|kz<|km rfl<|kl (kc rfl (h := rd_Text _ _ _ _ (by assumption))) ?_
 rintro _ _ ⟨_, ⟨q2, c2, rfl, rfl, hc2⟩, rfl⟩
 refine kz<|km rfl<|kl (kc rfl (h := rd_Int _ _ _ _ (by assumption))) ?_
 rintro _ _ ⟨_, ⟨q3, c3, rfl, rfl, hc3⟩, rfl⟩
 refine km rfl<|kl (kc rfl (h := rd_Int _ _ _ _ (by assumption))) ?_
 rintro _ _ ⟨_, ⟨q4, c4, rfl, rfl, hc4⟩, rfl⟩
 refine ka rfl<|ka rfl<|zm ?_
 generalize hE : (Rd.int (Rd.text ⟨d.read wi, false⟩).2).1 = e
 generalize hN : (Rd.int (Rd.int (Rd.text ⟨d.read wi, false⟩).2).2).1 = n
 have hb1 := Rd.int_bounds (Rd.text ⟨d.read wi, false⟩).2
 have hb2 := Rd.int_bounds (Rd.int (Rd.text ⟨d.read wi, false⟩).2).2
 rw [hE] at hb1
 rw [hN] at hb2
 have hsz : rtSize (d.read wi) = (e, n) := by unfold rtSize; rw [hE, hN]
 refine ke<|ky<|km rfl<|kq (q_lt rfl rfl)<|km rfl ?_
 refine KO.dsplit 30 rfl (fun g30 => ?_) (fun g30 => ?_)
 ·have hn := rtOne_none hsz (.inl g30)
  refine zq<|zq<|zq<|zq<|kq (qT rfl rfl)<|km rfl<|zq<|zq<|kq (qT rfl rfl)<|km rfl<|zq<|zq<|zq<|zq<|kq (qT rfl rfl)<|km rfl<|zq<|zq<|zq<|zq<|zq<|zq<|kq (qT rfl rfl)<|km rfl<|zq<|zq<|zq<|zq<|zq<|zq<|zq<|zq<|zq<|kq (qT rfl rfl)<|zm<|K.yes rfl<|ky<|ka rfl<|ka rfl ?_
  refine ka rfl<|zm ?_
  refine kr3 func122 results122 rfl rfl rfl (fun w hs => ?_)
  rw [hn]
  exact ⟨_, [RowF Kd.u8 none [], DkX p d], rfl, ⟨none, 0, rfl, rfl, Nat.le_refl _⟩, (rowF_nil (k := Kd.u8) none hs).fitD⟩
 ·refine km rfl<|kq (q_bit rfl rfl)<|km rfl<|kq (q_ne rfl rfl)<|kq (qF rfl rfl)<|km rfl ?_
  refine KO.dsplit 36 rfl (fun g36 => ?_) (fun g36 => ?_)
  ·have hn := rtOne_none hsz (.inr (.inl g36))
   refine zq<|zq<|kq (qT rfl rfl)<|km rfl<|zq<|zq<|zq<|zq<|kq (qT rfl rfl)<|km rfl<|zq<|zq<|zq<|zq<|zq<|zq<|kq (qT rfl rfl)<|km rfl<|zq<|zq<|zq<|zq<|zq<|zq<|zq<|zq<|zq<|kq (qT rfl rfl)<|zm<|K.yes rfl<|ky<|ka rfl<|ka rfl<|ka rfl<|zm ?_
   refine kr3 func122 results122 rfl rfl rfl (fun w hs => ?_)
   rw [hn]
   exact ⟨_, [RowF Kd.u8 none [], DkX p d], rfl, ⟨none, 0, rfl, rfl, Nat.le_refl _⟩, (rowF_nil (k := Kd.u8) none hs).fitD⟩
  ·refine km rfl<|kq (q_lt rfl rfl)<|kq (qF rfl rfl)<|km rfl ?_
   refine KO.dsplit 40 rfl (fun g40 => ?_) (fun g40 => ?_)
   ·have hn := rtOne_none hsz (.inr (.inr (.inl g40)))
    refine zq<|zq<|zq<|zq<|kq (qT rfl rfl)<|km rfl<|zq<|zq<|zq<|zq<|zq<|zq<|kq (qT rfl rfl)<|km rfl<|zq<|zq<|zq<|zq<|zq<|zq<|zq<|zq<|zq<|kq (qT rfl rfl)<|zm<|K.yes rfl<|ky<|ka rfl<|ka rfl<|ka rfl<|zm ?_
    refine kr3 func122 results122 rfl rfl rfl (fun w hs => ?_)
    rw [hn]
    exact ⟨_, [RowF Kd.u8 none [], DkX p d], rfl, ⟨none, 0, rfl, rfl, Nat.le_refl _⟩, (rowF_nil (k := Kd.u8) none hs).fitD⟩
   ·refine km rfl<|km rfl<|kq (q_mul rfl rfl tN tN)<|kq (q_gt rfl rfl)<|kq (qF rfl rfl)<|km rfl ?_
    refine KO.dsplit 46 rfl (fun g46 => ?_) (fun g46 => ?_)
    ·have hn := rtOne_none hsz (.inr (.inr (.inr (.inl tO))))
     refine zq<|zq<|zq<|zq<|zq<|zq<|kq (qT rfl rfl)<|km rfl<|zq<|zq<|zq<|zq<|zq<|zq<|zq<|zq<|zq<|kq (qT rfl rfl)<|zm<|K.yes rfl<|ky<|ka rfl<|ka rfl<|ka rfl<|zm ?_
     refine kr3 func122 results122 rfl rfl rfl (fun w hs => ?_)
     rw [hn]
     exact ⟨_, [RowF Kd.u8 none [], DkX p d], rfl, ⟨none, 0, rfl, rfl, Nat.le_refl _⟩, (rowF_nil (k := Kd.u8) none hs).fitD⟩
    ·refine km rfl<|km rfl<|km rfl<|kl (kc rfl (h := rt_root _ _)) ?_
     rintro _ _ ⟨_, ⟨qr5, rfl, rfl⟩, rfl⟩
     refine kl (kc rfl (h := eq_u8 (RowF Kd.u8 qr (d.read wi)) (RowF Kd.u8 _ (rootS e n)) qr _ cr 64 (d.read wi) (rootS e n) isF isF tO)) ?_
     rintro _ _ ⟨_, ⟨rfl, rfl⟩, rfl⟩
     refine kq (q_not rfl)<|kq (qF rfl rfl)<|km rfl ?_
     refine KO.split 54 rfl (fun g54 => ?_) (fun g54 => ?_)
     ·have hn := rtOne_none hsz (.inr (.inr (.inr (.inr (.inl (by simpa using g54))))))
      refine zq<|zq<|zq<|zq<|zq<|zq<|zq<|zq<|zq<|kq (qT rfl rfl)<|zm<|K.yes rfl<|ky<|ka rfl<|ka rfl<|ka rfl<|zm ?_
      refine kr3 func122 results122 rfl rfl rfl (fun w hs => ?_)
      rw [hn]
      exact ⟨_, [RowF Kd.u8 none [], DkX p d], rfl, ⟨none, 0, rfl, rfl, Nat.le_refl _⟩, (rowF_nil (k := Kd.u8) none hs).fitD⟩
     ·refine km rfl<|km rfl<|km rfl<|km rfl<|kl (kc rfl (h := rt_place _)) ?_
      rintro _ _ ⟨_, ⟨rfl, rfl⟩, rfl⟩
      refine km rfl<|kl (kc rfl (h := sp_Need _ tO)) ?_
      rintro _ _ ⟨_, ⟨rfl, rfl⟩, rfl⟩
      refine kl (kc rfl (h := sp_Is _ _ _ _ (by assumption))) ?_
      rintro _ _ ⟨_, ⟨rfl, rfl⟩, rfl⟩
      refine kq (q_not rfl)<|kq (qF rfl rfl)<|zm ?_
      refine kT (s := 64) rfl (fun g64 => ?_) (fun g64 => ?_)
      ·have hn := rtOne_none hsz (.inr (.inr (.inr (.inr (.inr (by simpa using g64))))))
       refine ky<|ka rfl<|ka rfl<|ka rfl<|zm ?_
       refine kr3 func122 results122 rfl rfl rfl (fun w hs => ?_)
       rw [hn]
       exact ⟨_, [RowF Kd.u8 none [], DkX p d], rfl, ⟨none, 0, rfl, rfl, Nat.le_refl _⟩, (rowF_nil (k := Kd.u8) none hs).fitD⟩
      ·have hn := rtOne_some hsz g30 tO g40 tO (by simpa using g54) (by simpa using g64)
       refine za<|ky<|km rfl<|km rfl<|km rfl<|km rfl<|km rfl<|kl (kc rfl (h := rt_place _)) ?_
       rintro _ _ ⟨_, ⟨rfl, rfl⟩, rfl⟩
       refine km rfl<|kl (kc rfl (h := sp_Get p d (rtPlace e) n hw)) ?_
       rintro _ _ ⟨_, ⟨qg, cg, rfl, rfl, hcg⟩, rfl⟩
       refine ka rfl<|ka rfl<|ka rfl<|zm ?_
       refine kr3 func122 results122 rfl rfl rfl (fun w hs => ?_)
       rw [hn]
       exact ⟨_, [RowF Kd.u8 qg (d.spanGet (rtPlace e) n), DkX p d], rfl, ⟨qg, cg, rfl, rfl, hcg⟩, hs.fitD⟩
theorem lies0 {d : Dk} (h : d.len ≤ 4096) : d.lies 0 0 = true := by unfold Dk.lies; simp
theorem rt_Read (p : Nat) (d : Dk) (hw : d.wf) : Fn Tryz.prog 66 [.pointer (some ⟨p, 0, none⟩), .int .i64 0, .int .i64 96].toArray [DkX p d]
  (fun r post => ∃ q c, r = .tuple #[.int .i64 (rtE (rtRead d)), .slice q (rtB (rtRead d)).length c, .bool (rtRead d).isSome] ∧ post = [RowF Kd.u8 q (rtB (rtRead d)), DkX p d] ∧ (rtB (rtRead d)).length ≤ c) := by
 have h4 := hw.len
 have hl0 := lies0 h4
 have hr1 : ∀ {x : Int × List UInt8}, rtOne d 1 = some x → rtE (rtOne d 0) < x.1 → rtRead d = rtOne d 1 := fun {x} h h2 => by
  unfold rtRead; rw [h]; show (if rtE (rtOne d 0) < x.1 then some x else _) = _; rw [if_pos h2]
 have hr0 : ¬ ((rtOne d 1).isSome = true ∧ rtE (rtOne d 0) < rtE (rtOne d 1)) → rtRead d = rtOne d 0 := fun h => by
  unfold rtRead
  rcases h1 : rtOne d 1 with _ | x
  ·rfl
  ·show (if rtE (rtOne d 0) < x.1 then some x else _) = _
   rw [if_neg (fun h2 => h (by rw [h1]; exact ⟨rfl, h2⟩))]
 refine Fn.enter (N := 48) func66 rfl ntmps66 tK rfl (fun ρ L => ?_)
 refine ky<|ka rfl<|ka rfl<|ka rfl<|zm<|ke<|ky<|km rfl<|km rfl<|kl (kc rfl (h := sp_Is _ _ _ _ (by assumption))) ?_
 rintro _ _ ⟨_, ⟨rfl, rfl⟩, rfl⟩
 refine kq (q_not rfl)<|zm ?_
 refine kT (s := 18) rfl (fun g18 => ?_) (fun g18 => ?_)
 ·rw [hl0] at g18; cases g18
 ·refine za<|ky<|km rfl<|kl (kc rfl (h := rt_cut)) ?_
  rintro _ _ ⟨_, ⟨rfl, rfl⟩, rfl⟩
  refine ka rfl<|kz<|km rfl<|km rfl<|km rfl<|kl (kc rfl (h := rt_read p d 0 hw (.inl rfl))) ?_
  rintro _ _ ⟨_, ⟨q0, c0, rfl, rfl, hc0⟩, rfl⟩
  refine km rfl<|kq (qX rfl rfl)<|kq (qX rfl rfl)<|kq (qX rfl rfl)<|ka rfl<|ka rfl<|ka rfl<|kz<|km rfl<|km rfl<|km rfl<|kl (kc rfl (h := rt_read p d 1 hw (.inr rfl))) ?_
  rintro _ _ ⟨_, ⟨q1, c1, rfl, rfl, hc1⟩, rfl⟩
  refine km rfl<|kq (qX rfl rfl)<|kq (qX rfl rfl)<|kq (qX rfl rfl)<|ka rfl<|ka rfl<|ka rfl<|zm<|ke<|ky<|km rfl<|km rfl ?_
  first | refine KO.dsplit 38 rfl (fun g38 => ?_) (fun g38 => ?_) | refine KO.split 38 rfl (fun g38 => ?_) (fun g38 => ?_)
  ·refine km rfl<|km rfl<|kq (q_gt rfl rfl)<|kq (qT rfl rfl)<|zm ?_
   refine kD (s := 42) rfl (fun g42 => ?_) (fun g42 => ?_)
   ·have hfin : rtRead d = rtOne d 1 := by
     rcases h1 : rtOne d 1 with _ | x
     ·rw [h1] at g38; cases g38
     ·rw [h1] at g42; rw [hr1 h1 g42, h1]
    refine ky<|km rfl<|km rfl<|ka rfl<|ka rfl<|ka rfl<|zm ?_
    refine kr3 func66 results66 rfl rfl rfl (fun w hs => ?_)
    have hso : (rtOne d 1).isSome = true := g38
    rw [hfin]
    exact ⟨_, [RowF Kd.u8 q1 (rtB (rtOne d 1)), DkX p d], rfl, ⟨q1, c1, by rw [hso], rfl, hc1⟩, hs.fitD⟩
   ·have hfin : rtRead d = rtOne d 0 := hr0 (fun h => g42 h.2)
    refine za<|ky<|km rfl<|km rfl<|km rfl<|ka rfl<|ka rfl<|ka rfl<|zm ?_
    refine kr3 func66 results66 rfl rfl rfl (fun w hs => ?_)
    rw [hfin]
    exact ⟨_, [RowF Kd.u8 q0 (rtB (rtOne d 0)), DkX p d], rfl, ⟨q0, c0, rfl, rfl, hc0⟩, hs.fitD⟩
  ·have hfin : rtRead d = rtOne d 0 := hr0 (fun h => by rw [g38] at h; cases h.1)
   refine zq<|zq<|zq<|kq (qF rfl rfl)<|zm<|K.no rfl<|za<|ky<|km rfl<|km rfl<|km rfl<|ka rfl<|ka rfl<|ka rfl<|zm ?_
   refine kr3 func66 results66 rfl rfl rfl (fun w hs => ?_)
   rw [hfin]
   exact ⟨_, [RowF Kd.u8 q0 (rtB (rtOne d 0)), DkX p d], rfl, ⟨q0, c0, rfl, rfl, hc0⟩, hs.fitD⟩
set_option maxHeartbeats 1600000 in
theorem rt_Write (A : HP) (p : Nat) (d : Dk) (epoch : Int) (q : Option Addr) (c : Nat) (b : List UInt8) (hA : IsRow A Kd.u8 q b) (hw : d.wf) (hc : d.cnt ≤ 80000000) : Fn Tryz.prog 73 [.pointer (some ⟨p, 0, none⟩), .int .i64 0, .int .i64 96, .int .i64 epoch, .slice q b.length c].toArray [A, DkX p d]
  (fun r post => r = .int .i64 (rtWrite epoch b d).1 ∧ post = [A, DkX p (rtWrite epoch b d).2]) := by
 have h4 := hw.len
 have hl0 := lies0 h4
 have hpc := d.spanPut_cnt (rtPlace epoch) b
 have hw1 := hw.spanPut (rtPlace epoch) b
 have hw2 := hw1.sync
 have hsc := Dk.sync_cnt (d.spanPut (rtPlace epoch) b).2
 have hw3 := hw2.write (bit0 epoch) (rootS epoch b.length)
 have hrl := rootS_len epoch b.length
 have hbc := bit0_cases epoch
 refine Fn.enter (N := 61) func73 rfl ntmps73 tK rfl (fun ρ L => ?_)
 refine ky<|ka rfl<|kz<|km rfl<|kl (kc rfl (h := rt_cut)) ?_
 rintro _ _ ⟨_, ⟨rfl, rfl⟩, rfl⟩
 refine ka rfl<|zm<|ke<|kB<|ky<|km rfl<|kq (q_lt rfl rfl)<|ka rfl<|zm ?_
 refine kD (s := 15) rfl (fun g15 => ?_) (fun g15 => ?_)
 ·have hr : rtWrite epoch b d = (1, d) := by unfold rtWrite; rw [if_pos g15]
  refine ky<|ka rfl<|zm ?_
  refine kr1 func73 results73 rfl (fun w hs => ?_)
  rw [hr]
  exact ⟨_, [A, DkX p d], rfl, ⟨rfl, rfl⟩, hs.fitD⟩
 ·refine ky<|km rfl<|kq (qG underlying23 rfl)<|km rfl<|kq (q_mul rfl rfl tN tN)<|kq (q_gt rfl rfl)<|ka rfl<|zm ?_
  refine kD (s := 18) rfl (fun g18 => ?_) (fun g18 => ?_)
  ·have hr : rtWrite epoch b d = (6, d) := by unfold rtWrite; rw [if_neg g15, if_pos tO]
   refine ky<|ka rfl<|zm ?_
   refine kr1 func73 results73 rfl (fun w hs => ?_)
   rw [hr]
   exact ⟨_, [A, DkX p d], rfl, ⟨rfl, rfl⟩, hs.fitD⟩
  ·have hb : (b.length : Int) ≤ 6144 := by omega
   have hnl : need b.length ≤ 6144 := Int.le_trans (need_le (Int.natCast_nonneg _)) hb
   have hr : rtWrite epoch b d = if (rtLay epoch b d).1 = true then (0, (rtLay epoch b d).2) else (12, (rtLay epoch b d).2) := by unfold rtWrite; rw [if_neg g15, if_neg tO]
   refine za<|zd<|ky<|km rfl<|km rfl<|km rfl<|kl (kc rfl (h := rt_place _)) ?_
   rintro _ _ ⟨_, ⟨rfl, rfl⟩, rfl⟩
   refine km rfl<|km rfl<|kq (q_bit rfl rfl)<|kq (q_add rfl rfl tN tN)<|ka rfl<|ka rfl<|zm ?_
   rw [Int.zero_add]
   refine ke<|ky<|km rfl<|km rfl<|kl (kc rfl (h := sp_Is _ _ _ _ (by assumption))) ?_
   rintro _ _ ⟨_, ⟨rfl, rfl⟩, rfl⟩
   refine kq (q_not rfl)<|zm ?_
   refine kT (s := 35) rfl (fun g35 => ?_) (fun g35 => ?_)
   ·rw [hl0] at g35; cases g35
   ·refine za<|ke<|ky<|km rfl<|km rfl<|km rfl<|kl (kc rfl (h := sp_Put A p d (rtPlace epoch) q c b hA hw tO tO)) ?_
    rintro _ _ ⟨_, ⟨rfl, rfl⟩, rfl⟩
    refine kq (q_not rfl)<|km rfl ?_
    refine KO.split 41 rfl (fun g41 => ?_) (fun g41 => ?_)
    ·have g41 : (d.spanPut (rtPlace epoch) b).1 = false := by simpa using g41
     have hl : rtLay epoch b d = (false, (d.spanPut (rtPlace epoch) b).2) := DM.also_no g41
     refine zq<|zq<|zq<|kq (qT rfl rfl)<|km rfl<|zq<|zq<|zq<|zq<|zq<|zq<|zq<|zq<|kq (qT rfl rfl)<|km rfl<|zq<|zq<|zq<|kq (qT rfl rfl)<|zm<|K.yes rfl<|ky<|ka rfl<|zm ?_
     refine kr1 func73 results73 rfl (fun w hs => ?_)
     rw [hr, hl]
     exact ⟨_, [A, DkX p (d.spanPut (rtPlace epoch) b).2], rfl, ⟨rfl, rfl⟩, hs.fitD⟩
    ·have g41 : (d.spanPut (rtPlace epoch) b).1 = true := by simpa using g41
     refine km rfl<|kl (kc rfl (h := dk_Sync p _ hw1)) ?_
     rintro _ _ ⟨_, ⟨rfl, rfl⟩, rfl⟩
     refine kq (q_not rfl)<|kq (qF rfl rfl)<|km rfl ?_
     refine KO.split 46 rfl (fun g46 => ?_) (fun g46 => ?_)
     ·have g46 : (d.spanPut (rtPlace epoch) b).2.sync.1 = false := by simpa using g46
      have hl : rtLay epoch b d = (false, (d.spanPut (rtPlace epoch) b).2.sync.2) := (DM.also_yes g41).trans (DM.also_no g46)
      refine zq<|zq<|zq<|zq<|zq<|zq<|zq<|zq<|kq (qT rfl rfl)<|km rfl<|zq<|zq<|zq<|kq (qT rfl rfl)<|zm<|K.yes rfl<|ky<|ka rfl<|zm ?_
      refine kr1 func73 results73 rfl (fun w hs => ?_)
      rw [hr, hl]
      exact ⟨_, [A, DkX p (d.spanPut (rtPlace epoch) b).2.sync.2], rfl, ⟨rfl, rfl⟩, hs.fitD⟩
     ·have g46 : (d.spanPut (rtPlace epoch) b).2.sync.1 = true := by simpa using g46
      refine km rfl<|km rfl<|km rfl<|km rfl<|kq (qG underlying23 rfl)<|kl (kc rfl (h := rt_root epoch b.length)) ?_
      rintro _ _ ⟨_, ⟨qr, rfl, rfl⟩, rfl⟩
      refine kl (kc rfl (h := dk_Write (RowF Kd.u8 qr (rootS epoch b.length)) p _ (bit0 epoch) qr 64 (rootS epoch b.length) isF hw2 tO)) ?_
      rintro _ _ ⟨_, ⟨rfl, rfl⟩, rfl⟩
      refine kq (q_not rfl)<|kq (qF rfl rfl)<|km rfl ?_
      refine KO.split 56 rfl (fun g56 => ?_) (fun g56 => ?_)
      ·have g56 : ((d.spanPut (rtPlace epoch) b).2.sync.2.write (bit0 epoch) (rootS epoch b.length)).1 = false := by simpa using g56
       have hl : rtLay epoch b d = (false, ((d.spanPut (rtPlace epoch) b).2.sync.2.write (bit0 epoch) (rootS epoch b.length)).2) := (DM.also_yes g41).trans ((DM.also_yes g46).trans (DM.also_no g56))
       refine zq<|zq<|zq<|kq (qT rfl rfl)<|zm<|K.yes rfl<|ky<|ka rfl<|zm ?_
       refine kr1 func73 results73 rfl (fun w hs => ?_)
       rw [hr, hl]
       exact ⟨_, [A, DkX p ((d.spanPut (rtPlace epoch) b).2.sync.2.write (bit0 epoch) (rootS epoch b.length)).2], rfl, ⟨rfl, rfl⟩, hs.fitD⟩
      ·have g56 : ((d.spanPut (rtPlace epoch) b).2.sync.2.write (bit0 epoch) (rootS epoch b.length)).1 = true := by simpa using g56
       have hl : rtLay epoch b d = ((d.spanPut (rtPlace epoch) b).2.sync.2.write (bit0 epoch) (rootS epoch b.length)).2.sync := (DM.also_yes g41).trans ((DM.also_yes g46).trans (DM.also_yes g56))
       refine km rfl<|kl (kc rfl (h := dk_Sync p _ hw3)) ?_
       rintro _ _ ⟨_, ⟨rfl, rfl⟩, rfl⟩
       refine kq (q_not rfl)<|kq (qF rfl rfl)<|zm ?_
       refine kT (s := 60) rfl (fun g60 => ?_) (fun g60 => ?_)
       ·refine ky<|ka rfl<|zm ?_
        refine kr1 func73 results73 rfl (fun w hs => ?_)
        rw [hr, hl, if_neg (by simpa using g60)]
        exact ⟨_, [A, DkX p ((d.spanPut (rtPlace epoch) b).2.sync.2.write (bit0 epoch) (rootS epoch b.length)).2.sync.2], rfl, ⟨rfl, rfl⟩, hs.fitD⟩
       ·refine za<|ky<|ka rfl<|zm ?_
        refine kr1 func73 results73 rfl (fun w hs => ?_)
        rw [hr, hl, if_pos (by simpa using g60)]
        exact ⟨_, [A, DkX p ((d.spanPut (rtPlace epoch) b).2.sync.2.write (bit0 epoch) (rootS epoch b.length)).2.sync.2], rfl, ⟨rfl, rfl⟩, hs.fitD⟩
abbrev lgC (p : Nat) (g : Lg) (q : Option Addr) (n c : Nat) : List Value := [.pointer (some ⟨p, 0, none⟩), .int .i64 g.at_, .int .i64 g.end_, .int .i64 g.next, .int .i64 g.epoch, .slice q n c, .bool g.failed]
structure LgI (g : Lg) where
 q : Option Addr
 c : Nat
 R : List (Sl UInt8)
 hR : R.map (·.l) = g.recs
theorem LgI.len {g : Lg} (z : LgI g) : z.R.length = g.recs.length := by rw [← z.hR, List.length_map]
abbrev LgF (l p : Nat) (g : Lg) (z : LgI g) : List HP := [pv l 178 (lgC p g z.q z.R.length z.c), RowO Kd.sb 23 z.q z.c z.R, NestSl Kd.u8 z.R]
def lgI0 (g : Lg) : LgI g := ⟨none, 0, g.recs.map (fun s => ⟨none, 0, s⟩), by rw [List.map_map]; exact List.map_id' _⟩
theorem lg_fits (l p : Nat) (g : Lg) (q : Option Addr) (n c : Nat) (size : Int) (h : g.wf) (hn : size ≤ 9223372036854775807) : Fn Tryz.prog 148 [.pointer (some ⟨l, 0, none⟩), .int .i64 size].toArray [pv l 178 (lgC p g q n c)] (fun r post => r = .bool (g.fits size) ∧ post = [pv l 178 (lgC p g q n c)]) := by
 have hnx := h.nx
 have hpl := h.pl
 refine Fn.enter (N := 30) func148 rfl ntmps148 tK rfl (fun ρ L => ?_)
 refine ky<|ka rfl<|zm<|ke<|K.drawS [pv l 178 (lgC p g q n c)] (fun _ h => h.subD) mixed<|dq 0 rfl (q_move rfl)<|dq 1 rfl (qN rfl)<|dq 2 rfl (qO fo_178_2 rfl)<|dq 3 rfl (qD ck_3 rfl)<|dq 4 rfl (q_move rfl)<|dq 5 rfl (qN rfl)<|dq 6 rfl (qO fo_178_3 rfl)<|dq 7 rfl (qD ck_3 rfl)<|dq 8 rfl (q_sub rfl rfl tN tN)<|dq 9 rfl (q_ge rfl rfl)<|dq 10 rfl (q_move rfl) ?_
 refine D.dsplit 15 rfl (fun g15 => ?_) (fun g15 => ?_)
 ·refine dq 11 rfl (q_move rfl)<|dq 13 rfl (q_move rfl)<|dq 14 rfl (qN rfl)<|dq 15 rfl (qO fo_178_2 rfl)<|dq 16 rfl (qD ck_3 rfl)<|dq 17 rfl (q_move rfl)<|dq 18 rfl (qN rfl)<|dq 19 rfl (qO fo_178_3 rfl)<|dq 20 rfl (qD ck_3 rfl)<|dq 21 rfl (q_sub rfl rfl tN tN)<|dq 22 rfl (q_sub rfl rfl tN tN)<|dq1 12 rfl (kc rfl (h := sp_Need _ tO)) (.inr (by rintro _ _ ⟨_, ⟨rfl, rfl⟩, rfl⟩ w h; exact h.subD)) ?_
  rintro _ _ ⟨_, ⟨rfl, rfl⟩, rfl⟩
  refine dq 23 rfl (q_le rfl rfl)<|dq 24 rfl (qT rfl rfl)<|dq 25 rfl (q_assign rfl)<|D.done tK ?_
  refine kr1 func148 results148 rfl (fun w hs => ?_)
  exact ⟨_, [pv l 178 (lgC p g q n c)], rfl, ⟨congrArg Value.bool (by unfold Lg.fits; simp [*]), rfl⟩, hs.fitD⟩
 ·refine dk 11 rfl<|dk 12 rfl<|dk 13 rfl<|dk 14 rfl<|dk 15 rfl<|dk 16 rfl<|dk 17 rfl<|dk 18 rfl<|dk 19 rfl<|dk 20 rfl<|dk 21 rfl<|dk 22 rfl<|dk 23 rfl<|dq 24 rfl (qF rfl rfl)<|dq 25 rfl (q_assign rfl)<|D.done tK ?_
  refine kr1 func148 results148 rfl (fun w hs => ?_)
  exact ⟨_, [pv l 178 (lgC p g q n c)], rfl, ⟨congrArg Value.bool (by unfold Lg.fits; simp [*]), rfl⟩, hs.fitD⟩
theorem lg_Room (l p : Nat) (g : Lg) (q : Option Addr) (n c : Nat) (h : g.wf) : Fn Tryz.prog 97 [.pointer (some ⟨l, 0, none⟩)].toArray [pv l 178 (lgC p g q n c)] (fun r post => r = .int .i64 g.room ∧ post = [pv l 178 (lgC p g q n c)]) := by
 have hnx := h.nx
 have hpl := h.pl
 refine Fn.enter (N := 17) func97 rfl ntmps97 tK rfl (fun ρ L => ?_)
 refine ky<|ka rfl<|zm<|ke<|ky<|km rfl<|kq (q_pnil underlying95 rfl rfl)<|zm<|K.no rfl<|za<|ke<|K.drawS [pv l 178 (lgC p g q n c)] (fun _ h => h.subD) mixed<|dq 0 rfl (q_move rfl)<|dq 1 rfl (qN rfl)<|dq 2 rfl (qO fo_178_2 rfl)<|dq 3 rfl (qD ck_3 rfl)<|dq 4 rfl (q_move rfl)<|dq 5 rfl (qN rfl)<|dq 6 rfl (qO fo_178_3 rfl)<|dq 7 rfl (qD ck_3 rfl)<|dq 8 rfl (q_sub rfl rfl tN tN)<|dq 9 rfl (q_sub rfl rfl tN tN)<|dq 10 rfl (q_max rfl rfl)<|dq 11 rfl (q_mul rfl rfl tN tN)<|dq 12 rfl (q_assign rfl)<|D.done tK ?_
 refine kr1 func97 results97 rfl (fun w hs => ?_)
 exact ⟨_, [pv l 178 (lgC p g q n c)], rfl, ⟨rfl, rfl⟩, hs.fitD⟩
theorem lg_head (l p : Nat) (g : Lg) (q : Option Addr) (n c : Nat) (k size : Int) : Fn Tryz.prog 198 [.pointer (some ⟨l, 0, none⟩), .int .i64 k, .int .i64 size].toArray [pv l 178 (lgC p g q n c)] (fun r post => ∃ q', r = .slice q' (lgHead g.epoch k size).length 64 ∧ post = [RowF Kd.u8 q' (lgHead g.epoch k size), pv l 178 (lgC p g q n c)]) := by
 have hrl := lgHead_len g.epoch k size
 have hraw := head_raw g.epoch k size
 have hx : [] ++ wText recT ++ wInt g.epoch ++ wInt k ++ wInt size = wText recT ++ wInt g.epoch ++ wInt k ++ wInt size := by simp
 refine Fn.enter (N := 27) func198 rfl ntmps198 tK rfl (fun ρ L => ?_)
 refine ky<|ka rfl<|kz<|kq (q_build st_150 rfl tF)<|kl (l_box rfl rfl) ?_
 rintro _ _ ⟨b9, rfl, rfl⟩
 refine ka rfl<|zm<|K.st (fun w h => rowO_nil (k := Kd.u8) 5 h)<|ky<|km rfl<|kl (kc rfl (h := wr_TextA b9 none 0 [] recT tD)) ?_
 rintro _ _ ⟨_, ⟨q1, c1, rfl, rfl⟩, rfl⟩
 refine kz<|km rfl<|km rfl<|kq (qN rfl)<|kq (qO fo_178_4 rfl)<|kq (qD ck_3 rfl) ?_
 refine kl (kc rfl (h := wr_Int _ _ _ _ _ (by first | omega | (simp [wI, wF, wT]; omega)))) ?_
 rintro _ _ ⟨_, ⟨q1, c1, rfl, rfl⟩, rfl⟩
 refine kz<|km rfl<|km rfl ?_
 refine kl (kc rfl (h := wr_Int _ _ _ _ _ (by first | omega | (simp [wI, wF, wT]; omega)))) ?_
 rintro _ _ ⟨_, ⟨q2, c2, rfl, rfl⟩, rfl⟩
 refine kz<|km rfl<|km rfl ?_
 refine kl (kc rfl (h := wr_Int _ _ _ _ _ (by first | omega | (simp [wI, wF, wT]; omega)))) ?_
 rintro _ _ ⟨_, ⟨q3, c3, rfl, rfl⟩, rfl⟩
 refine zm ?_
 rw [hx]
 refine ky<|km rfl<|kl (kc rfl (h := wr_Bytes _ _ _ (wText recT ++ wInt g.epoch ++ wInt k ++ wInt size) (by rw [hraw]; decide))) ?_
 rintro _ _ ⟨_, ⟨q5, c5, rfl, rfl, hc5⟩, rfl⟩
 refine kl (kc rfl (h := sp_Fill (RowF Kd.u8 q5 (wText recT ++ wInt g.epoch ++ wInt k ++ wInt size)) q5 c5 (wText recT ++ wInt g.epoch ++ wInt k ++ wInt size) isF (by rw [hraw]; decide) (by rw [hraw]; decide))) ?_
 rintro _ _ ⟨_, ⟨q6, rfl, rfl⟩, rfl⟩
 refine ka rfl<|zm<|K.st (fun w h => rO (h.pick tP)) ?_
 refine kr1 func198 results198 rfl (fun w hs => ?_)
 exact ⟨_, [RowF Kd.u8 q6 (lgHead g.epoch k size), pv l 178 (lgC p g q n c)], rfl, ⟨q6, by show Value.slice q6 (lgHead g.epoch k size).length (lgHead g.epoch k size).length = _; rw [hrl], rfl⟩, hs.fit (M := [RowF Kd.u8 q6 (fillB (wText recT ++ wInt g.epoch ++ wInt k ++ wInt size)), pv l 178 (lgC p g q n c)]) tG (by repeat (first | exact Drop.refl | apply Drop.skip))⟩
theorem Lg.step_no {d : Dk} {g : Lg} (h : Lg.size (d.read g.next) < 0 ∨ g.fits (Lg.size (d.read g.next)) = false ∨ ¬ d.read g.next = lgHead g.epoch (g.recs.length + 1) (Lg.size (d.read g.next))) : Lg.step d g = (false, g) := by
 unfold Lg.step
 rw [if_pos]
 rcases h with h | h | h <;> simp [h]
theorem Lg.step_yes {d : Dk} {g : Lg} (h1 : ¬ Lg.size (d.read g.next) < 0) (h2 : g.fits (Lg.size (d.read g.next)) = true) (h3 : d.read g.next = lgHead g.epoch (g.recs.length + 1) (Lg.size (d.read g.next))) :
  Lg.step d g = (true, { g with recs := g.recs ++ [d.spanGet (g.next + 1) (Lg.size (d.read g.next))], next := g.next + 1 + need (Lg.size (d.read g.next)) }) := by
 unfold Lg.step
 rw [if_neg]
 rw [decide_eq_true h3]
 simp [h1, h2]
set_option maxHeartbeats 1600000 in
theorem lg_read (l p : Nat) (d : Dk) (g : Lg) (z : LgI g) (h : g.wf) (hw : d.wf) : Fn Tryz.prog 167 [.pointer (some ⟨l, 0, none⟩)].toArray (LgF l p g z ++ [DkX p d]) (fun r post => ∃ z' : LgI (Lg.step d g).2, r = .bool (Lg.step d g).1 ∧ post = LgF l p (Lg.step d g).2 z' ++ [DkX p d]) := by
 have hnx := h.nx
 have hpl := h.pl
 have hzl := z.len
 have hgl := h.len
 have hrd := Dk.read_le hw g.next
 refine Fn.enter (N := 77) func167 rfl ntmps167 tK rfl (fun ρ L => ?_)
 refine ky<|ka rfl<|zm<|ke<|K.drawS [pv l 178 (lgC p g z.q z.R.length z.c)] (fun _ h => h.subD) mixed<|dq 0 rfl (q_move rfl)<|dq 1 rfl (qN rfl)<|dq 2 rfl (qO fo_178_0 rfl)<|dq 3 rfl (qD ck_25 rfl)<|dq 4 rfl (q_move rfl)<|dq 5 rfl (qN rfl)<|dq 6 rfl (qO fo_178_3 rfl)<|dq 7 rfl (qD ck_3 rfl)<|dq1 8 rfl (kc rfl (h := dk_Read p d g.next hw)) (.inr (by rintro _ _ ⟨_, ⟨qr, cr, rfl, rfl, hqr⟩, rfl⟩ w h; exact h.subD)) ?_
 rintro _ _ ⟨_, ⟨qr, cr, rfl, rfl, hqr⟩, rfl⟩
 refine D.st (fun w h => rO (h.pick tP))<|dq 9 rfl (q_assign rfl)<|D.done tK<|ky<|km rfl<|kl (kc rfl (h := rd_New _ _ _ tN)) ?_
 rintro _ _ ⟨_, ⟨p1, q1, c1, rfl, rfl, hc1⟩, rfl⟩
 refine ka rfl<|kz<|km rfl<|kl (kc rfl (h := rd_Text _ _ _ _ (by assumption))) ?_
 rintro _ _ ⟨_, ⟨q2, c2, rfl, rfl, hc2⟩, rfl⟩
 refine kz<|km rfl<|kl (kc rfl (h := rd_Int _ _ _ _ (by assumption))) ?_
 rintro _ _ ⟨_, ⟨q3, c3, rfl, rfl, hc3⟩, rfl⟩
 refine kz<|km rfl<|kl (kc rfl (h := rd_Int _ _ _ _ (by assumption))) ?_
 rintro _ _ ⟨_, ⟨q4, c4, rfl, rfl, hc4⟩, rfl⟩
 refine kz<|km rfl<|kl (kc rfl (h := rd_Int _ _ _ _ (by assumption))) ?_
 rintro _ _ ⟨_, ⟨q5, c5, rfl, rfl, hc5⟩, rfl⟩
 refine ka rfl<|zm ?_
 have hb := Rd.int_bounds (Rd.int (Rd.int (Rd.text ⟨d.read g.next, false⟩).2).2).2
 have hsz : (Rd.int (Rd.int (Rd.int (Rd.text ⟨d.read g.next, false⟩).2).2).2).1 = Lg.size (d.read g.next) := rfl
 rw [hsz] at hb ⊢
 have hno := Lg.step_no (d := d) (g := g)
 have hyes := Lg.step_yes (d := d) (g := g)
 generalize Lg.size (d.read g.next) = n at hb hno hyes ⊢
 refine ke<|ky<|km rfl<|kq (q_lt rfl rfl)<|km rfl ?_
 refine KO.dsplit 27 rfl (fun g27 => ?_) (fun g27 => ?_)
 ·have hst := hno (.inl g27)
  refine zq<|zq<|zq<|zq<|kq (qT rfl rfl)<|km rfl<|zq<|zq<|zq<|zq<|zq<|zq<|zq<|zq<|zq<|zq<|zq<|zq<|kq (qT rfl rfl)<|zm<|K.yes rfl<|ky<|ka rfl<|zm ?_
  refine kr1 func167 results167 rfl (fun w hs => ?_)
  rw [hst]
  exact ⟨_, LgF l p g z ++ [DkX p d], rfl, ⟨z, rfl, rfl⟩, hs.fitD⟩
 ·refine km rfl<|km rfl<|kl (kc rfl (h := lg_fits l p g z.q z.R.length z.c n h hb.2)) ?_
  rintro _ _ ⟨_, ⟨rfl, rfl⟩, rfl⟩
  refine kq (q_not rfl)<|kq (qF rfl rfl)<|km rfl ?_
  refine KO.split 33 rfl (fun g33 => ?_) (fun g33 => ?_)
  ·have hst := hno (.inr (.inl (by simpa using g33)))
   refine zq<|zq<|zq<|zq<|zq<|zq<|zq<|zq<|zq<|zq<|zq<|zq<|kq (qT rfl rfl)<|zm<|K.yes rfl<|ky<|ka rfl<|zm ?_
   refine kr1 func167 results167 rfl (fun w hs => ?_)
   rw [hst]
   exact ⟨_, LgF l p g z ++ [DkX p d], rfl, ⟨z, rfl, rfl⟩, hs.fitD⟩
  ·have hfi : g.fits n = true := by simpa using g33
   have hsn := Lg.fits_size h tO hfi
   have hfi2 := Lg.fits_iff.1 hfi
   have hnn := need_nn n
   refine km rfl<|km rfl<|km rfl<|kq (qN rfl)<|kq (qO fo_178_5 rfl)<|kq (qD ck_80 rfl)<|kq (qG underlying80 rfl)<|kq (q_add rfl rfl tN tN)<|km rfl<|kl (kc rfl (h := lg_head l p g z.q z.R.length z.c ((z.R.length : Int) + 1) n)) ?_
   rintro _ _ ⟨_, ⟨qh, rfl, rfl⟩, rfl⟩
   refine kl (kc rfl (h := eq_u8 (RowF Kd.u8 qr (d.read g.next)) (RowF Kd.u8 qh (lgHead g.epoch ((z.R.length : Int) + 1) n)) qr qh cr 64 (d.read g.next) (lgHead g.epoch ((z.R.length : Int) + 1) n) isF isF tO)) ?_
   rintro _ _ ⟨_, ⟨rfl, rfl⟩, rfl⟩
   refine kq (q_not rfl)<|kq (qF rfl rfl)<|zm ?_
   refine kT (s := 46) rfl (fun g46 => ?_) (fun g46 => ?_)
   ·have hst := hno (.inr (.inr (by rw [← hzl]; simpa using g46)))
    refine ky<|ka rfl<|zm ?_
    refine kr1 func167 results167 rfl (fun w hs => ?_)
    rw [hst]
    exact ⟨_, LgF l p g z ++ [DkX p d], rfl, ⟨z, rfl, rfl⟩, hs.fitD⟩
   ·have hst := hyes g27 hfi (by rw [← hzl]; simpa using g46)
    have hgl := Dk.spanGet_le hw (g.next + 1) n
    refine za<|ke<|K.drawS [pv l 178 (lgC p g z.q z.R.length z.c)] (fun _ h => h.subD) mixed<|dq 0 rfl (q_move rfl)<|dq 1 rfl (q_move rfl)<|dq 2 rfl (qN rfl)<|dq 3 rfl (qO fo_178_5 rfl)<|dq 4 rfl (qD ck_80 rfl)<|dq 5 rfl (q_move rfl)<|dq 6 rfl (qN rfl)<|dq 7 rfl (qO fo_178_0 rfl)<|dq 8 rfl (qD ck_25 rfl)<|dq 9 rfl (q_move rfl)<|dq 10 rfl (qN rfl)<|dq 11 rfl (qO fo_178_3 rfl)<|dq 12 rfl (qD ck_3 rfl)<|dq 13 rfl (q_add rfl rfl tN tN)<|dq 14 rfl (q_move rfl)<|dq1 15 rfl (kc rfl (h := sp_Get p d (g.next + 1) n hw)) (.inr (by rintro _ _ ⟨_, ⟨qg, cg, rfl, rfl, hcg⟩, rfl⟩ w h; exact h.subD)) ?_
    rintro _ _ ⟨_, ⟨qg, cg, rfl, rfl, hcg⟩, rfl⟩
    refine dq1 16 rfl (l_slice sz_80_1 rfl tF) (.inr (by rintro _ _ ⟨b63, rfl, rfl⟩ w h; exact h.subD)) ?_
    rintro _ _ ⟨b63, rfl, rfl⟩
    refine D.st (fun w h => pv_sl1 (l := d.spanGet (g.next + 1) n) rfl h)<|dq1 17 rfl (lX Kd.sb (ys := [⟨qg, cg, d.spanGet (g.next + 1) n⟩]) se_80 underlying80 ⟨_, ze_sb, rfl⟩ tD rfl rfl tP isP tM rfl rfl (by show (2 * (z.R.length + 1) + 768) * _ ≤ _; omega)) (.inr (by rintro _ _ ⟨q', c', rfl, rfl⟩ w h; exact h.subD)) ?_
    rintro _ _ ⟨q', c', rfl, rfl⟩
    refine dq1 18 rfl (OpQ.loud (qN rfl)) (.inl tK) ?_
    rintro _ _ ⟨rfl, rfl⟩
    refine dq1 19 rfl (OpQ.loud (qO fo_178_5 rfl)) (.inl tK) ?_
    rintro _ _ ⟨rfl, rfl⟩
    refine dq1N 20 rfl (lA ck_80 rfl rfl rfl tP tA) (.inl tK) ?_
    rintro _ _ ⟨rfl, rfl⟩
    refine D.done tK<|ke<|K.drawS [pv l 178 (lgC p g q' (z.R ++ [(⟨qg, cg, d.spanGet (g.next + 1) n⟩ : Sl UInt8)]).length c')] (fun _ h => h.subD) mixed<|dq 0 rfl (q_move rfl)<|dq 1 rfl (qN rfl)<|dq 2 rfl (qO fo_178_3 rfl)<|dq 3 rfl (qD ck_3 rfl)<|dq 4 rfl (q_move rfl)<|dq1 5 rfl (kc rfl (h := sp_Need _ tO)) (.inr (by rintro _ _ ⟨_, ⟨rfl, rfl⟩, rfl⟩ w h; exact h.subD)) ?_
    rintro _ _ ⟨_, ⟨rfl, rfl⟩, rfl⟩
    refine dq 6 rfl (q_add rfl rfl tN tN)<|dq 7 rfl (q_add rfl rfl tN tN)<|dq1 8 rfl (OpQ.loud (qN rfl)) (.inl tK) ?_
    rintro _ _ ⟨rfl, rfl⟩
    refine dq1 9 rfl (OpQ.loud (qO fo_178_3 rfl)) (.inl tK) ?_
    rintro _ _ ⟨rfl, rfl⟩
    refine dq1N 10 rfl (lA ck_3 rfl rfl rfl tP tA) (.inl tK) ?_
    rintro _ _ ⟨rfl, rfl⟩
    refine D.done tK ?_
    rw [show g.next + (1 + need n) = g.next + 1 + need n by omega]
    refine K.st (fun w h => nestSl_add (l' := z.R ++ [⟨qg, cg, d.spanGet (g.next + 1) n⟩]) ⟨qg, cg, d.spanGet (g.next + 1) n⟩ (l := z.R) tM tM (fun x hx => (List.mem_append.1 hx).imp id List.mem_singleton.1) h)<|ky<|ka rfl<|zm ?_
    refine kr1 func167 results167 rfl (fun w hs => ?_)
    rw [hst]
    exact ⟨_, LgF l p _ ⟨q', c', z.R ++ [⟨qg, cg, d.spanGet (g.next + 1) n⟩], by rw [List.map_append, z.hR]; rfl⟩ ++ [DkX p d], rfl, ⟨_, rfl, rfl⟩, hs.fitD⟩
theorem Lg.scan_stop {d : Dk} {n : Nat} {g : Lg} (h : g.fits 0 = false ∨ (Lg.step d g).1 = false) : Lg.scan d n g = g := by
 cases n with
 | zero => rfl
 | succ n =>
  unfold Lg.scan
  rcases h with h | h
  ·rw [if_neg (by rw [h]; decide)]
  ·split
   ·rw [if_neg (by rw [h]; decide)]
   ·rfl
theorem Lg.scan_go {d : Dk} {n : Nat} {g : Lg} (h1 : g.fits 0 = true) (h2 : (Lg.step d g).1 = true) : Lg.scan d (n + 1) g = Lg.scan d n (Lg.step d g).2 := by
 show (if g.fits 0 = true then _ else _) = _
 rw [if_pos h1, if_pos h2]
set_option maxHeartbeats 1600000 in
theorem lg_Open (p : Nat) (d : Dk) (at_ n epoch : Int) (hw : d.wf) (h0 : 0 ≤ at_) (hn : 0 ≤ n) (h1 : at_ + n ≤ (d.len : Int)) : Fn Tryz.prog 129 [.pointer (some ⟨p, 0, none⟩), .int .i64 at_, .int .i64 n, .int .i64 epoch].toArray [DkX p d]
  (fun r post => ∃ l, ∃ z : LgI (Lg.opened d at_ n epoch), r = .pointer (some ⟨l, 0, none⟩) ∧ post = LgF l p (Lg.opened d at_ n epoch) z ++ [DkX p d]) := by
 have h4 := hw.len
 have hly : d.lies at_ 0 = true := by unfold Dk.lies; simp; omega
 obtain ⟨m, rfl⟩ : ∃ m : Nat, n = (m : Int) := ⟨n.toNat, by omega⟩
 have hmx : at_ + max 0 (if (d.len : Int) - at_ < (m : Int) then (d.len : Int) - at_ else (m : Int)) = at_ + (m : Int) := by rw [if_neg tO]; omega
 have hg0 : Lg.wf ⟨at_, at_ + m, at_, epoch, [], false⟩ := ⟨⟨Int.le_refl _, by show at_ ≤ at_ + m; omega⟩, ⟨h0, by show at_ + (m : Int) ≤ 4096; omega⟩, by show (0 : Int) ≤ at_ - at_; omega, (fun b hb => by cases hb), by show (0 : Int) ≤ 64 * (at_ - at_); omega⟩
 refine Fn.enter (N := 39) func129 rfl ntmps129 tK rfl (fun ρ L => ?_)
 refine ky<|ka rfl<|kz<|km rfl<|km rfl<|km rfl<|km rfl<|km rfl<|kq (q_build st_178 rfl tF)<|kl (l_box rfl rfl) ?_
 rintro _ _ ⟨b16, rfl, rfl⟩
 refine ka rfl<|zm<|ke<|ky<|km rfl<|km rfl<|kl (kc rfl (h := sp_Is _ _ _ _ (by assumption))) ?_
 rintro _ _ ⟨_, ⟨rfl, rfl⟩, rfl⟩
 refine zm ?_
 refine kT (s := 19) rfl (fun g19 => ?_) (fun g19 => ?_)
 ·refine kr<|km rfl<|km rfl<|km rfl<|km rfl<|kl (kc rfl (h := dk_Len _ _)) ?_
  rintro _ _ ⟨_, ⟨rfl, rfl⟩, rfl⟩
  refine km rfl<|kq (q_sub rfl rfl tN tN)<|kq (q_min rfl rfl)<|kq (q_max rfl rfl)<|kq (q_add rfl rfl tN tN)<|kq (qN rfl)<|kq (qO fo_178_2 rfl)<|kN rfl (lA ck_3 rfl rfl rfl tP tA) ?_
  rintro _ _ ⟨rfl, rfl⟩
  refine zm ?_
  rw [hmx]
  refine ke<|kB ?_
  refine kX (ι := { x : Nat × (Σ g : Lg, LgI g) // Lg.scan d m ⟨at_, at_ + m, at_, epoch, [], false⟩ = Lg.scan d x.1 x.2.1 ∧ x.2.1.wf ∧ x.2.1.end_ - x.2.1.next ≤ (x.1 : Int) }) (fun x => [(9, .pointer (some ⟨b16, 0, none⟩))]) (fun x => LgF b16 p x.1.2.1 x.1.2.2 ++ [DkX p d] ++ L) (fun x => x.1.1) ⟨(m, ⟨⟨at_, at_ + m, at_, epoch, [], false⟩, ⟨none, 0, [], rfl⟩⟩), rfl, hg0, by show at_ + (m : Int) - at_ ≤ m; omega⟩ tS (fun w h => (nestSl_nil (k := Kd.u8) (rowO_nil (k := Kd.sb) 23 h)).fitD) (fun x ih => ?_)
  obtain ⟨⟨j, ⟨g, z⟩⟩, hsc, hg, hj⟩ := x
  dsimp only at hsc hg hj ⊢
  refine ke<|ky<|km rfl<|kl (kc rfl (h := lg_fits b16 p g z.q z.R.length z.c 0 hg tD)) ?_
  rintro _ _ ⟨_, ⟨rfl, rfl⟩, rfl⟩
  refine km rfl ?_
  refine KO.split 34 rfl (fun g34 => ?_) (fun g34 => ?_)
  ·refine km rfl<|kl (kc rfl (h := lg_read b16 p d g z hg hw)) ?_
   rintro _ _ ⟨_, ⟨z2, rfl, rfl⟩, rfl⟩
   refine kq (qT rfl rfl)<|zm ?_
   refine kT (s := 37) rfl (fun g37 => ?_) (fun g37 => ?_)
   ·refine za<|kB<|za<|zd ?_
    obtain ⟨i, rfl⟩ : ∃ i, j = i + 1 := ⟨j - 1, by have := (Lg.fits_iff.1 g34).1; omega⟩
    have hdn := Lg.step_down g37
    exact K.weak tS (fun w h => h.fitD) (ih ⟨(i, ⟨(Lg.step d g).2, z2⟩), by rw [hsc]; exact Lg.scan_go g34 g37, Lg.step_wf hw hg, by show (Lg.step d g).2.end_ - (Lg.step d g).2.next ≤ (i : Int); rw [Lg.step_end]; omega⟩ (by show i < i + 1; omega))
   ·have hfin : Lg.opened d at_ m epoch = g := by unfold Lg.opened; rw [Int.toNat_natCast, hsc]; exact Lg.scan_stop (.inr g37)
    have hstp : (Lg.step d g).2 = g := by
     unfold Lg.step at g37 ⊢
     split
     ·rfl
     ·rename_i hc; rw [if_neg hc] at g37; cases g37
    clear ih
    refine K.exit rfl<|ky<|km rfl<|ka rfl<|zm ?_
    refine kr1 func129 results129 rfl (fun w hs => ?_)
    rw [hfin, ← hstp]
    exact ⟨_, LgF b16 p (Lg.step d g).2 z2 ++ [DkX p d], rfl, ⟨b16, z2, rfl, rfl⟩, hs.fitD⟩
  ·have hfin : Lg.opened d at_ m epoch = g := by unfold Lg.opened; rw [Int.toNat_natCast, hsc]; exact Lg.scan_stop (.inl g34)
   clear ih
   refine zq<|zq<|kq (qF rfl rfl)<|zm<|K.no rfl<|K.exit rfl<|ky<|km rfl<|ka rfl<|zm ?_
   refine kr1 func129 results129 rfl (fun w hs => ?_)
   rw [hfin]
   exact ⟨_, LgF b16 p g z ++ [DkX p d], rfl, ⟨b16, z, rfl, rfl⟩, hs.fitD⟩
 ·rw [hly] at g19; cases g19
theorem lg_Records (l p : Nat) (g : Lg) (z : LgI g) (h : g.wf) : Fn Tryz.prog 69 [.pointer (some ⟨l, 0, none⟩)].toArray (LgF l p g z) (fun r post => ∃ q c, ∃ R : List (Sl UInt8), r = .slice q R.length c ∧ R.map (·.l) = g.recs ∧ (∀ x ∈ R, x.l.length ≤ x.c) ∧ post = RowO Kd.sb 23 q c R :: NestSl Kd.u8 R :: LgF l p g z) := by
 have hzl := z.len
 have hgl := h.len
 refine Fn.enter (N := 24) func69 rfl ntmps69 tK rfl (fun ρ L => ?_)
 refine ky<|ka rfl<|zm<|ke<|ky<|km rfl<|kq (q_pnil underlying95 rfl rfl)<|zm<|K.no rfl<|za<|ky<|ka rfl<|zm<|ke<|ky<|km rfl<|kq (qN rfl)<|kq (qO fo_178_5 rfl)<|kq (qD ck_80 rfl)<|kq (qG underlying80 rfl)<|km rfl<|zm<|kB ?_
 refine kX (ι := { x : Nat × Option Addr × Nat × List (Sl UInt8) // x.1 ≤ z.R.length ∧ x.2.2.2.map (·.l) = (z.R.take x.1).map (·.l) ∧ ∀ y ∈ x.2.2.2, y.l.length ≤ y.c }) (fun x => [(13, .int .i64 x.1.1), (12, .int .i64 z.R.length), (11, .slice z.q z.R.length z.c), (3, .slice x.1.2.1 x.1.2.2.2.length x.1.2.2.1)]) (fun x => RowO Kd.sb 23 x.1.2.1 x.1.2.2.1 x.1.2.2.2 :: NestSl Kd.u8 x.1.2.2.2 :: LgF l p g z ++ L) (fun x => z.R.length - x.1.1) ⟨(0, none, 0, []), Nat.zero_le _, rfl, fun y hy => by cases hy⟩ tS (fun w h => (nestSl_nil (k := Kd.u8) (rowO_nil (k := Kd.sb) 23 h)).fitD) (fun x ih => ?_)
 obtain ⟨⟨i, q, c, R⟩, hi, hR, hcp⟩ := x
 dsimp only at hi hR hcp ⊢
 have hRl : R.length = i := by have := congrArg List.length hR; simp at this; omega
 refine ky<|kq (q_lt rfl rfl)<|zm<|ke ?_
 refine kD (s := 14) rfl (fun g14 => ?_) (fun g14 => ?_)
 ·obtain ⟨s, hsR⟩ : ∃ s, z.R[i]? = some s := ⟨_, List.getElem?_eq_getElem tO⟩
  have hsg : s.l ∈ g.recs := by rw [← z.hR]; exact List.mem_map_of_mem (List.mem_of_getElem? hsR)
  have hs64 := h.sz _ hsg
  refine K.st (fun w h => nestSl_at (l := z.R) (s := s) tM (List.mem_of_getElem? hsR) h) ?_
  refine za<|ke<|kB<|ky<|kq (q_ix (xs := z.R) i se_80 rfl rfl rfl isO tM rfl tO)<|kq (q_ldE (xs := z.R) (el := s) ck_23 rfl isO tM hsR rfl)<|ka rfl<|zm<|kr<|km rfl<|km rfl<|kl (kc rfl (h := clone_u8 (RowF Kd.u8 s.q s.l) s.q s.c s.l isF tO)) ?_
  rintro _ _ ⟨_, ⟨q', c', rfl, rfl, hqc⟩, rfl⟩
  refine kl (l_slice sz_80_1 rfl tF) ?_
  rintro _ _ ⟨b20, rfl, rfl⟩
  refine KO.st (fun w h => pv_sl1 (l := s.l) rfl h)<|kl (lX Kd.sb (ys := [⟨q', c', s.l⟩]) se_80 underlying80 ⟨_, ze_sb, rfl⟩ tD rfl rfl tP isP tM rfl rfl (by show (2 * (R.length + 1) + 768) * _ ≤ _; omega)) ?_
  rintro _ _ ⟨q2, c2, rfl, rfl⟩
  refine ka rfl<|zm<|zd<|kr<|kq (q_add rfl rfl tN tN)<|km rfl<|zm<|K.st (fun w h => rO (k := Kd.u8) (e := 5) (p := q') (cap := c') (xs := s.l) (h.pick tP))<|K.st (fun w h => nestSl_add (l' := R ++ [⟨q', c', s.l⟩]) ⟨q', c', s.l⟩ (l := R) tM tM (fun x hx => (List.mem_append.1 hx).imp id List.mem_singleton.1) h) ?_
  exact K.weak tS (fun w h => h.fitD) (ih ⟨(i + 1, q2, c2, R ++ [⟨q', c', s.l⟩]), by show i + 1 ≤ _; omega, by show (R ++ [_]).map _ = _; rw [List.map_append, hR, List.take_add_one, hsR, List.map_append]; rfl, fun y hy => by
   rcases List.mem_append.1 hy with hy | hy
   ·exact hcp y hy
   ·rw [List.mem_singleton.1 hy]; exact hqc⟩ (by show z.R.length - (i + 1) < z.R.length - i; omega))
 ·obtain rfl : i = z.R.length := by omega
  rw [List.take_length, z.hR] at hR
  clear ih
  refine K.exit rfl<|ky<|km rfl<|ka rfl<|zm ?_
  refine kr1 func69 results69 rfl (fun w hs => ?_)
  exact ⟨_, RowO Kd.sb 23 q c R :: NestSl Kd.u8 R :: LgF l p g z, rfl, ⟨q, c, R, rfl, hR, hcp, rfl⟩, hs.fitD⟩
set_option maxHeartbeats 3200000 in
theorem lg_put (A : HP) (l p : Nat) (d : Dk) (g : Lg) (q : Option Addr) (n c : Nat) (qb : Option Addr) (cb : Nat) (b : List UInt8) (hA : IsRow A Kd.u8 qb b) (h : g.wf) (hn : n = g.recs.length) (hw : d.wf) (hc : d.cnt ≤ 80000000) (hb : b.length ≤ 1000000) : Fn Tryz.prog 149 [.pointer (some ⟨l, 0, none⟩), .slice qb b.length cb].toArray [A, pv l 178 (lgC p g q n c), DkX p d]
  (fun r post => r = .bool (g.lay b d).1 ∧ post = [A, pv l 178 (lgC p g q n c), DkX p (g.lay b d).2]) := by
 have hnx := h.nx
 have hpl := h.pl
 have hgl := h.len
 have hnl := need_le (n := (b.length : Int)) (Int.natCast_nonneg _)
 have hnn := need_nn (b.length : Int)
 have hw1 := hw.spanPut (g.next + 1) b
 have hc1 := d.spanPut_cnt (g.next + 1) b
 have hz64 := zSec_len
 have hl1 := lgHead_len g.epoch (g.recs.length + 1) b.length
 have hbe : g.next + 1 + need b.length = g.behind b := rfl
 subst hn
 refine Fn.enter (N := 76) func149 rfl ntmps149 tK rfl (fun ρ L => ?_)
 refine ky<|ka rfl<|zm<|ke<|K.drawS [pv l 178 (lgC p g q g.recs.length c)] (fun _ h => h.subD) mixed<|dq 0 rfl (q_move rfl)<|dq 1 rfl (qN rfl)<|dq 2 rfl (qO fo_178_3 rfl)<|dq 3 rfl (qD ck_3 rfl)<|dq 4 rfl (q_add rfl rfl tN tN)<|dq 5 rfl (q_move rfl)<|dq 6 rfl (qG underlying23 rfl)<|dq1 7 rfl (kc rfl (h := sp_Need _ tO)) (.inr (by rintro _ _ ⟨_, ⟨rfl, rfl⟩, rfl⟩ w h; exact h.subD)) ?_
 rintro _ _ ⟨_, ⟨rfl, rfl⟩, rfl⟩
 refine dq 8 rfl (q_add rfl rfl tN tN)<|dq 9 rfl (q_assign rfl)<|D.done tK ?_
 rw [hbe]
 refine ke<|ke<|K.drawS [pv l 178 (lgC p g q g.recs.length c)] (fun _ h => h.subD) mixed<|dq 0 rfl (q_move rfl)<|dq 1 rfl (qN rfl)<|dq 2 rfl (qO fo_178_0 rfl)<|dq 3 rfl (qD ck_25 rfl)<|dq 4 rfl (q_move rfl)<|dq 5 rfl (qN rfl)<|dq 6 rfl (qO fo_178_3 rfl)<|dq 7 rfl (qD ck_3 rfl)<|dq 8 rfl (q_add rfl rfl tN tN)<|dq 9 rfl (q_move rfl)<|dq1 10 rfl (kc rfl (h := sp_Put A p d (g.next + 1) qb cb b hA hw tO hb)) (.inr (by rintro _ _ ⟨_, ⟨rfl, rfl⟩, rfl⟩ w h; exact h.subD)) ?_
 rintro _ _ ⟨_, ⟨rfl, rfl⟩, rfl⟩
 refine dq 11 rfl (q_not rfl)<|D.done tK ?_
 refine kT (s := 26) rfl (fun g26 => ?_) (fun g26 => ?_)
 ·have g26 : (d.spanPut (g.next + 1) b).1 = false := by simpa using g26
  have hl : g.lay b d = (false, (d.spanPut (g.next + 1) b).2) := DM.also_no g26
  refine ky<|ka rfl<|zm ?_
  refine kr1 func149 results149 rfl (fun w hs => ?_)
  rw [hl]
  exact ⟨_, [A, pv l 178 (lgC p g q g.recs.length c), DkX p (d.spanPut (g.next + 1) b).2], rfl, ⟨rfl, rfl⟩, hs.fitD⟩
 ·have g26 : (d.spanPut (g.next + 1) b).1 = true := by simpa using g26
  obtain ⟨d1, hd1⟩ : ∃ d1, d1 = (d.spanPut (g.next + 1) b).2 := ⟨_, rfl⟩
  have hl : g.lay b d = _ := DM.also_yes g26
  rw [← hd1] at hw1 hc1 hl ⊢
  have hwz := hw1.write (g.behind b) zSec
  have hcz := d1.write_cnt (g.behind b) zSec
  refine za<|ke<|ke<|K.drawS [pv l 178 (lgC p g q g.recs.length c)] (fun _ h => h.subD) mixed<|dq 0 rfl (q_move rfl)<|dq 1 rfl (q_move rfl)<|dq 2 rfl (qN rfl)<|dq 3 rfl (qO fo_178_2 rfl)<|dq 4 rfl (qD ck_3 rfl)<|dq 5 rfl (q_lt rfl rfl)<|dq 6 rfl (q_move rfl) ?_
  refine D.dsplit 33 rfl (fun g33 => ?_) (fun g33 => ?_)
  ·refine dq 7 rfl (q_move rfl)<|dq 8 rfl (qN rfl)<|dq 9 rfl (qO fo_178_0 rfl)<|dq 10 rfl (qD ck_25 rfl)<|dq 11 rfl (q_move rfl)<|dq1 12 rfl (l_make Kd.u8 0 (m := 64) se_23 ze_5 rfl (fun _ => rfl) rfl rfl tD tD) (.inr (by rintro _ _ ⟨pm, rfl, rfl⟩ w h; exact h.subD)) ?_
   rintro _ _ ⟨pm, rfl, rfl⟩
   refine dq1 13 rfl (kc rfl (h := dk_Write (RowO Kd.u8 5 pm 64 (List.replicate 64 0)) p d1 (g.behind b) pm 64 zSec isO hw1 tO)) (.inr (by rintro _ _ ⟨_, ⟨rfl, rfl⟩, rfl⟩ w h; exact h.subD)) ?_
   rintro _ _ ⟨_, ⟨rfl, rfl⟩, rfl⟩
   refine dq 14 rfl (q_not rfl)<|dq 15 rfl (qT rfl rfl)<|D.done tK ?_
   refine kT (s := 42) rfl (fun g42 => ?_) (fun g42 => ?_)
   ·have g42 : (d1.write (g.behind b) zSec).1 = false := by simpa using g42
    have hl2 : g.lay b d = (false, (d1.write (g.behind b) zSec).2) := by
     rw [hl]; refine (DM.also_no ?_).trans ?_
     ·show (if g.behind b < g.end_ then d1.write (g.behind b) zSec else (true, d1)).1 = false; rw [if_pos g33]; exact g42
     ·show (false, (if g.behind b < g.end_ then d1.write (g.behind b) zSec else (true, d1)).2) = _; rw [if_pos g33]
    refine ky<|ka rfl<|zm ?_
    refine kr1 func149 results149 rfl (fun w hs => ?_)
    rw [hl2]
    exact ⟨_, [A, pv l 178 (lgC p g q g.recs.length c), DkX p (d1.write (g.behind b) zSec).2], rfl, ⟨rfl, rfl⟩, hs.fitD⟩
   ·refine za<|ke ?_
    have g42 : (d1.write (g.behind b) zSec).1 = true := by simpa using g42
    obtain ⟨d2, hd2⟩ : ∃ d2, d2 = (d1.write (g.behind b) zSec).2 := ⟨_, rfl⟩
    have hl2 : g.lay b d = DM.also Dk.sync (DM.also (fun d => d.write g.next (lgHead g.epoch (g.recs.length + 1) b.length)) Dk.sync) d2 := by
     rw [hl, hd2]; refine (DM.also_yes ?_).trans ?_
     ·show (if g.behind b < g.end_ then d1.write (g.behind b) zSec else (true, d1)).1 = true; rw [if_pos g33]; exact g42
     ·show DM.also _ _ (if g.behind b < g.end_ then d1.write (g.behind b) zSec else (true, d1)).2 = _; rw [if_pos g33]
    rw [← hd2] at hwz hcz ⊢
    refine K.drawS [pv l 178 (lgC p g q g.recs.length c)] (fun _ h => h.subD) mixed<|dq 0 rfl (q_move rfl)<|dq 1 rfl (qN rfl)<|dq 2 rfl (qO fo_178_0 rfl)<|dq 3 rfl (qD ck_25 rfl)<|dq1 4 rfl (kc rfl (h := dk_Sync p d2 hwz)) (.inr (by rintro _ _ ⟨_, ⟨rfl, rfl⟩, rfl⟩ w h; exact h.subD)) ?_
    rintro _ _ ⟨_, ⟨rfl, rfl⟩, rfl⟩
    refine dq 5 rfl (q_move rfl) ?_
    refine D.split 48 rfl (fun g48 => ?_) (fun g48 => ?_)
    ·have hl3 := hl2.trans (DM.also_yes g48)
     have hw3 := hwz.sync
     have hc3 := Dk.sync_cnt d2
     have hw4 := hw3.write g.next (lgHead g.epoch (g.recs.length + 1) b.length)
     refine dq 6 rfl (q_move rfl)<|dq 7 rfl (qN rfl)<|dq 8 rfl (qO fo_178_0 rfl)<|dq 9 rfl (qD ck_25 rfl)<|dq 10 rfl (q_move rfl)<|dq 11 rfl (qN rfl)<|dq 12 rfl (qO fo_178_3 rfl)<|dq 13 rfl (qD ck_3 rfl)<|dq 14 rfl (q_move rfl)<|dq 15 rfl (q_move rfl)<|dq 16 rfl (qN rfl)<|dq 17 rfl (qO fo_178_5 rfl)<|dq 18 rfl (qD ck_80 rfl)<|dq 19 rfl (qG underlying80 rfl)<|dq 20 rfl (q_add rfl rfl tN tN)<|dq 21 rfl (q_move rfl)<|dq 22 rfl (qG underlying23 rfl)<|dq1 23 rfl (kc rfl (h := lg_head l p g q g.recs.length c ((g.recs.length : Int) + 1) b.length)) (.inr (by rintro _ _ ⟨_, ⟨qh, rfl, rfl⟩, rfl⟩ w h; exact h.subD)) ?_
     rintro _ _ ⟨_, ⟨qh, rfl, rfl⟩, rfl⟩
     refine dq1 24 rfl (kc rfl (h := dk_Write (RowF Kd.u8 qh (lgHead g.epoch ((g.recs.length : Int) + 1) b.length)) p d2.sync.2 g.next qh 64 (lgHead g.epoch ((g.recs.length : Int) + 1) b.length) isF hw3 tO)) (.inr (by rintro _ _ ⟨_, ⟨rfl, rfl⟩, rfl⟩ w h; exact h.subD)) ?_
     rintro _ _ ⟨_, ⟨rfl, rfl⟩, rfl⟩
     refine dq 25 rfl (qT rfl rfl)<|dq 26 rfl (q_move rfl) ?_
     refine D.split 69 rfl (fun g69 => ?_) (fun g69 => ?_)
     ·have hl4 := hl3.trans (DM.also_yes g69)
      refine dq 27 rfl (q_move rfl)<|dq 28 rfl (qN rfl)<|dq 29 rfl (qO fo_178_0 rfl)<|dq 30 rfl (qD ck_25 rfl)<|dq1 31 rfl (kc rfl (h := dk_Sync p _ hw4)) (.inr (by rintro _ _ ⟨_, ⟨rfl, rfl⟩, rfl⟩ w h; exact h.subD)) ?_
      rintro _ _ ⟨_, ⟨rfl, rfl⟩, rfl⟩
      refine dq 32 rfl (qT rfl rfl)<|dq 33 rfl (q_assign rfl)<|D.done tK ?_
      refine kr1 func149 results149 rfl (fun w hs => ?_)
      rw [hl4]
      exact ⟨_, [A, pv l 178 (lgC p g q g.recs.length c), DkX p (d2.sync.2.write g.next (lgHead g.epoch ((g.recs.length : Int) + 1) b.length)).2.sync.2], rfl, ⟨rfl, rfl⟩, hs.fitD⟩
     ·have hl4 := hl3.trans (DM.also_no g69)
      refine dk 27 rfl<|dk 28 rfl<|dk 29 rfl<|dk 30 rfl<|dk 31 rfl<|dq 32 rfl (qF rfl rfl)<|dq 33 rfl (q_assign rfl)<|D.done tK ?_
      refine kr1 func149 results149 rfl (fun w hs => ?_)
      rw [hl4]
      exact ⟨_, [A, pv l 178 (lgC p g q g.recs.length c), DkX p (d2.sync.2.write g.next (lgHead g.epoch ((g.recs.length : Int) + 1) b.length)).2], rfl, ⟨rfl, rfl⟩, hs.fitD⟩
    ·have hl3 := hl2.trans (DM.also_no g48)
     refine dk 6 rfl<|dk 7 rfl<|dk 8 rfl<|dk 9 rfl<|dk 10 rfl<|dk 11 rfl<|dk 12 rfl<|dk 13 rfl<|dk 14 rfl<|dk 15 rfl<|dk 16 rfl<|dk 17 rfl<|dk 18 rfl<|dk 19 rfl<|dk 20 rfl<|dk 21 rfl<|dk 22 rfl<|dk 23 rfl<|dk 24 rfl<|dq 25 rfl (qF rfl rfl)<|dq 26 rfl (q_move rfl)<|dk 27 rfl<|dk 28 rfl<|dk 29 rfl<|dk 30 rfl<|dk 31 rfl<|dq 32 rfl (qF rfl rfl)<|dq 33 rfl (q_assign rfl)<|D.done tK ?_
     refine kr1 func149 results149 rfl (fun w hs => ?_)
     rw [hl3]
     exact ⟨_, [A, pv l 178 (lgC p g q g.recs.length c), DkX p d2.sync.2], rfl, ⟨rfl, rfl⟩, hs.fitD⟩
  ·refine dk 7 rfl<|dk 8 rfl<|dk 9 rfl<|dk 10 rfl<|dk 11 rfl<|dk 12 rfl<|dk 13 rfl<|dk 14 rfl<|dq 15 rfl (qF rfl rfl)<|D.done tK<|K.no rfl<|za<|ke ?_
   obtain ⟨d2, hd2⟩ : ∃ d2, d2 = d1 := ⟨_, rfl⟩
   have hl2 : g.lay b d = DM.also Dk.sync (DM.also (fun d => d.write g.next (lgHead g.epoch (g.recs.length + 1) b.length)) Dk.sync) d2 := by
    rw [hl, hd2]; refine (DM.also_yes ?_).trans ?_
    ·show (if g.behind b < g.end_ then d1.write (g.behind b) zSec else (true, d1)).1 = true; rw [if_neg g33]
    ·show DM.also _ _ (if g.behind b < g.end_ then d1.write (g.behind b) zSec else (true, d1)).2 = _; rw [if_neg g33]
   have hwz := hw1
   have hcz : d1.cnt ≤ d1.cnt ∧ d1.cnt ≤ d1.cnt + 1 := ⟨Nat.le_refl _, Nat.le_succ _⟩
   rw [← hd2] at hwz hcz hc1 ⊢
   refine K.drawS [pv l 178 (lgC p g q g.recs.length c)] (fun _ h => h.subD) mixed<|dq 0 rfl (q_move rfl)<|dq 1 rfl (qN rfl)<|dq 2 rfl (qO fo_178_0 rfl)<|dq 3 rfl (qD ck_25 rfl)<|dq1 4 rfl (kc rfl (h := dk_Sync p d2 hwz)) (.inr (by rintro _ _ ⟨_, ⟨rfl, rfl⟩, rfl⟩ w h; exact h.subD)) ?_
   rintro _ _ ⟨_, ⟨rfl, rfl⟩, rfl⟩
   refine dq 5 rfl (q_move rfl) ?_
   refine D.split 48 rfl (fun g48 => ?_) (fun g48 => ?_)
   ·have hl3 := hl2.trans (DM.also_yes g48)
    have hw3 := hwz.sync
    have hc3 := Dk.sync_cnt d2
    have hw4 := hw3.write g.next (lgHead g.epoch (g.recs.length + 1) b.length)
    refine dq 6 rfl (q_move rfl)<|dq 7 rfl (qN rfl)<|dq 8 rfl (qO fo_178_0 rfl)<|dq 9 rfl (qD ck_25 rfl)<|dq 10 rfl (q_move rfl)<|dq 11 rfl (qN rfl)<|dq 12 rfl (qO fo_178_3 rfl)<|dq 13 rfl (qD ck_3 rfl)<|dq 14 rfl (q_move rfl)<|dq 15 rfl (q_move rfl)<|dq 16 rfl (qN rfl)<|dq 17 rfl (qO fo_178_5 rfl)<|dq 18 rfl (qD ck_80 rfl)<|dq 19 rfl (qG underlying80 rfl)<|dq 20 rfl (q_add rfl rfl tN tN)<|dq 21 rfl (q_move rfl)<|dq 22 rfl (qG underlying23 rfl)<|dq1 23 rfl (kc rfl (h := lg_head l p g q g.recs.length c ((g.recs.length : Int) + 1) b.length)) (.inr (by rintro _ _ ⟨_, ⟨qh, rfl, rfl⟩, rfl⟩ w h; exact h.subD)) ?_
    rintro _ _ ⟨_, ⟨qh, rfl, rfl⟩, rfl⟩
    refine dq1 24 rfl (kc rfl (h := dk_Write (RowF Kd.u8 qh (lgHead g.epoch ((g.recs.length : Int) + 1) b.length)) p d2.sync.2 g.next qh 64 (lgHead g.epoch ((g.recs.length : Int) + 1) b.length) isF hw3 tO)) (.inr (by rintro _ _ ⟨_, ⟨rfl, rfl⟩, rfl⟩ w h; exact h.subD)) ?_
    rintro _ _ ⟨_, ⟨rfl, rfl⟩, rfl⟩
    refine dq 25 rfl (qT rfl rfl)<|dq 26 rfl (q_move rfl) ?_
    refine D.split 69 rfl (fun g69 => ?_) (fun g69 => ?_)
    ·have hl4 := hl3.trans (DM.also_yes g69)
     refine dq 27 rfl (q_move rfl)<|dq 28 rfl (qN rfl)<|dq 29 rfl (qO fo_178_0 rfl)<|dq 30 rfl (qD ck_25 rfl)<|dq1 31 rfl (kc rfl (h := dk_Sync p _ hw4)) (.inr (by rintro _ _ ⟨_, ⟨rfl, rfl⟩, rfl⟩ w h; exact h.subD)) ?_
     rintro _ _ ⟨_, ⟨rfl, rfl⟩, rfl⟩
     refine dq 32 rfl (qT rfl rfl)<|dq 33 rfl (q_assign rfl)<|D.done tK ?_
     refine kr1 func149 results149 rfl (fun w hs => ?_)
     rw [hl4]
     exact ⟨_, [A, pv l 178 (lgC p g q g.recs.length c), DkX p (d2.sync.2.write g.next (lgHead g.epoch ((g.recs.length : Int) + 1) b.length)).2.sync.2], rfl, ⟨rfl, rfl⟩, hs.fitD⟩
    ·have hl4 := hl3.trans (DM.also_no g69)
     refine dk 27 rfl<|dk 28 rfl<|dk 29 rfl<|dk 30 rfl<|dk 31 rfl<|dq 32 rfl (qF rfl rfl)<|dq 33 rfl (q_assign rfl)<|D.done tK ?_
     refine kr1 func149 results149 rfl (fun w hs => ?_)
     rw [hl4]
     exact ⟨_, [A, pv l 178 (lgC p g q g.recs.length c), DkX p (d2.sync.2.write g.next (lgHead g.epoch ((g.recs.length : Int) + 1) b.length)).2], rfl, ⟨rfl, rfl⟩, hs.fitD⟩
   ·have hl3 := hl2.trans (DM.also_no g48)
    refine dk 6 rfl<|dk 7 rfl<|dk 8 rfl<|dk 9 rfl<|dk 10 rfl<|dk 11 rfl<|dk 12 rfl<|dk 13 rfl<|dk 14 rfl<|dk 15 rfl<|dk 16 rfl<|dk 17 rfl<|dk 18 rfl<|dk 19 rfl<|dk 20 rfl<|dk 21 rfl<|dk 22 rfl<|dk 23 rfl<|dk 24 rfl<|dq 25 rfl (qF rfl rfl)<|dq 26 rfl (q_move rfl)<|dk 27 rfl<|dk 28 rfl<|dk 29 rfl<|dk 30 rfl<|dk 31 rfl<|dq 32 rfl (qF rfl rfl)<|dq 33 rfl (q_assign rfl)<|D.done tK ?_
    refine kr1 func149 results149 rfl (fun w hs => ?_)
    rw [hl3]
    exact ⟨_, [A, pv l 178 (lgC p g q g.recs.length c), DkX p d2.sync.2], rfl, ⟨rfl, rfl⟩, hs.fitD⟩
set_option maxHeartbeats 1600000 in
theorem lg_Append (A : HP) (l p : Nat) (d : Dk) (g : Lg) (z : LgI g) (qb : Option Addr) (cb : Nat) (b : List UInt8) (hA : IsRow A Kd.u8 qb b) (h : g.wf) (hw : d.wf) (hc : d.cnt ≤ 80000000) (hb : b.length ≤ 1000000) : Fn Tryz.prog 98 [.pointer (some ⟨l, 0, none⟩), .slice qb b.length cb].toArray (A :: LgF l p g z ++ [DkX p d])
  (fun r post => ∃ z' : LgI (g.append b d).2.1, r = .int .i64 (g.append b d).1 ∧ post = A :: LgF l p (g.append b d).2.1 z' ++ [DkX p (g.append b d).2.2]) := by
 have hnx := h.nx
 have hpl := h.pl
 have hzl := z.len
 have hgl := h.len
 have hnl := need_le (n := (b.length : Int)) (Int.natCast_nonneg _)
 have hnn := need_nn (b.length : Int)
 refine Fn.enter (N := 56) func98 rfl ntmps98 tK rfl (fun ρ L => ?_)
 refine ky<|ka rfl<|zm<|ke<|kB<|ky<|km rfl<|kq (q_pnil underlying95 rfl rfl)<|km rfl<|km rfl<|kq (qN rfl)<|kq (qO fo_178_0 rfl)<|kq (qD ck_25 rfl)<|kq (q_pnil underlying25 rfl rfl)<|kq (qF rfl rfl)<|km rfl<|km rfl<|kq (qN rfl)<|kq (qO fo_178_6 rfl)<|kq (qD ck_4 rfl)<|kq (qF rfl rfl)<|ka rfl<|zm ?_
 first | refine kD (s := 5) rfl (fun g5 => ?_) (fun g5 => ?_) | refine kT (s := 5) rfl (fun g5 => ?_) (fun g5 => ?_)
 ·have hr : g.append b d = (12, g, d) := by unfold Lg.append; rw [if_pos g5]
  refine ky<|ka rfl<|zm ?_
  refine kr1 func98 results98 rfl (fun w hs => ?_)
  rw [hr]
  exact ⟨_, A :: LgF l p g z ++ [DkX p d], rfl, ⟨z, rfl, rfl⟩, hs.fitD⟩
 ·refine ky<|km rfl<|km rfl<|kq (qG underlying23 rfl)<|kl (kc rfl (h := lg_fits l p g z.q z.R.length z.c b.length h tO)) ?_
  rintro _ _ ⟨_, ⟨rfl, rfl⟩, rfl⟩
  refine kq (q_not rfl)<|ka rfl<|zm ?_
  refine kT (s := 21) rfl (fun g21 => ?_) (fun g21 => ?_)
  ·have hr : g.append b d = (6, g, d) := by unfold Lg.append; rw [if_neg (by simpa using g5), if_pos (by simpa using g21)]
   refine ky<|ka rfl<|zm ?_
   refine kr1 func98 results98 rfl (fun w hs => ?_)
   rw [hr]
   exact ⟨_, A :: LgF l p g z ++ [DkX p d], rfl, ⟨z, rfl, rfl⟩, hs.fitD⟩
  ·have hfi : g.fits b.length = true := by simpa using g21
   have hfi2 := Lg.fits_iff.1 hfi
   have hr : g.append b d = if (g.lay b d).1 = true then (0, { g with recs := g.recs ++ [b], next := g.next + 1 + need b.length }, (g.lay b d).2) else (12, { g with failed := true }, (g.lay b d).2) := by
    unfold Lg.append; rw [if_neg (by simpa using g5), if_neg (by rw [hfi]; decide)]
   refine za<|zd<|ke<|ky<|km rfl<|km rfl<|kl (kc rfl (h := lg_put A l p d g z.q z.R.length z.c qb cb b hA h hzl hw hc hb)) ?_
   rintro _ _ ⟨_, ⟨rfl, rfl⟩, rfl⟩
   refine kq (q_not rfl)<|zm ?_
   refine kT (s := 30) rfl (fun g30 => ?_) (fun g30 => ?_)
   ·have hr2 : g.append b d = (12, { g with failed := true }, (g.lay b d).2) := by rw [hr, if_neg (by simpa using g30)]
    refine ky<|km rfl<|kq (qN rfl)<|kq (qO fo_178_6 rfl)<|kN rfl (lA ck_4 rfl rfl rfl tP tA) ?_
    rintro _ _ ⟨rfl, rfl⟩
    refine kz<|ka rfl<|zm ?_
    refine kr1 func98 results98 rfl (fun w hs => ?_)
    rw [hr2]
    exact ⟨_, A :: LgF l p { g with failed := true } ⟨z.q, z.c, z.R, z.hR⟩ ++ [DkX p (g.lay b d).2], rfl, ⟨⟨z.q, z.c, z.R, z.hR⟩, rfl, rfl⟩, hs.fitD⟩
   ·have hr2 : g.append b d = (0, { g with recs := g.recs ++ [b], next := g.next + 1 + need b.length }, (g.lay b d).2) := by rw [hr, if_pos (by simpa using g30)]
    refine za<|ke<|K.drawS [pv l 178 (lgC p g z.q z.R.length z.c)] (fun _ h => h.subD) mixed<|dq 0 rfl (q_move rfl)<|dq 1 rfl (q_move rfl)<|dq 2 rfl (qN rfl)<|dq 3 rfl (qO fo_178_5 rfl)<|dq 4 rfl (qD ck_80 rfl)<|dq 5 rfl (q_move rfl)<|dq1 6 rfl (kc rfl (h := clone_u8 A qb cb b hA tO)) (.inr (by rintro _ _ ⟨_, ⟨q', c', rfl, rfl, hqc⟩, rfl⟩ w h; exact h.subD)) ?_
    rintro _ _ ⟨_, ⟨q', c', rfl, rfl, hqc⟩, rfl⟩
    refine dq1 7 rfl (l_slice sz_80_1 rfl tF) (.inr (by rintro _ _ ⟨b41, rfl, rfl⟩ w h; exact h.subD)) ?_
    rintro _ _ ⟨b41, rfl, rfl⟩
    refine D.st (fun w h => pv_sl1 (l := b) rfl h)<|dq1 8 rfl (lX Kd.sb (ys := [⟨q', c', b⟩]) se_80 underlying80 ⟨_, ze_sb, rfl⟩ tD rfl rfl tP isP tM rfl rfl (by show (2 * (z.R.length + 1) + 768) * _ ≤ _; omega)) (.inr (by rintro _ _ ⟨q2, c2, rfl, rfl⟩ w h; exact h.subD)) ?_
    rintro _ _ ⟨q2, c2, rfl, rfl⟩
    refine dq1 9 rfl (OpQ.loud (qN rfl)) (.inl tK) ?_
    rintro _ _ ⟨rfl, rfl⟩
    refine dq1 10 rfl (OpQ.loud (qO fo_178_5 rfl)) (.inl tK) ?_
    rintro _ _ ⟨rfl, rfl⟩
    refine dq1N 11 rfl (lA ck_80 rfl rfl rfl tP tA) (.inl tK) ?_
    rintro _ _ ⟨rfl, rfl⟩
    refine D.done tK<|ke<|K.drawS [pv l 178 (lgC p g q2 (z.R ++ [(⟨q', c', b⟩ : Sl UInt8)]).length c2)] (fun _ h => h.subD) mixed<|dq 0 rfl (q_move rfl)<|dq 1 rfl (qN rfl)<|dq 2 rfl (qO fo_178_3 rfl)<|dq 3 rfl (qD ck_3 rfl)<|dq 4 rfl (q_move rfl)<|dq 5 rfl (qG underlying23 rfl)<|dq1 6 rfl (kc rfl (h := sp_Need _ tO)) (.inr (by rintro _ _ ⟨_, ⟨rfl, rfl⟩, rfl⟩ w h; exact h.subD)) ?_
    rintro _ _ ⟨_, ⟨rfl, rfl⟩, rfl⟩
    refine dq 7 rfl (q_add rfl rfl tN tN)<|dq 8 rfl (q_add rfl rfl tN tN)<|dq1 9 rfl (OpQ.loud (qN rfl)) (.inl tK) ?_
    rintro _ _ ⟨rfl, rfl⟩
    refine dq1 10 rfl (OpQ.loud (qO fo_178_3 rfl)) (.inl tK) ?_
    rintro _ _ ⟨rfl, rfl⟩
    refine dq1N 11 rfl (lA ck_3 rfl rfl rfl tP tA) (.inl tK) ?_
    rintro _ _ ⟨rfl, rfl⟩
    refine D.done tK ?_
    rw [show g.next + (1 + need b.length) = g.next + 1 + need b.length by omega]
    refine K.st (fun w h => rO (k := Kd.u8) (e := 5) (p := q') (cap := c') (xs := b) (h.pick tP))<|K.st (fun w h => nestSl_add (l' := z.R ++ [⟨q', c', b⟩]) ⟨q', c', b⟩ (l := z.R) tM tM (fun x hx => (List.mem_append.1 hx).imp id List.mem_singleton.1) h)<|ky<|ka rfl<|zm ?_
    refine kr1 func98 results98 rfl (fun w hs => ?_)
    rw [hr2]
    exact ⟨_, A :: LgF l p { g with recs := g.recs ++ [b], next := g.next + 1 + need b.length } ⟨q2, c2, z.R ++ [⟨q', c', b⟩], by rw [List.map_append, z.hR]; rfl⟩ ++ [DkX p (g.lay b d).2], rfl, ⟨_, rfl, rfl⟩, hs.fitD⟩
end Go.Proofs.YtkbhldicnamcdaaGreat.L
namespace Go.Proofs.YtkbhldicnamcdaaGreat.L
open Go Go.Proofs
attribute [local irreducible] pv fv pt fz RowF RowO rowP old pure_ elA Rd.int Rd.text Rd.flag Rd.msg Rd.rint Rd.rtext Rd.rflag Rd.rmsg
attribute [local irreducible] Rd.eff
theorem St.exG {ι : Type} {f : ι → List HP} {ρ : World} {L L' : List HP} {w : World} (i : ι) (g : Give L (f i) L') (h : St ρ L w) : St ρ (HP.ex f :: L') w := St.exI i (h.give g)
abbrev IR (p rb : Nat) (w : Bool) (q : Option Addr) (cap : Nat) (s : Rd) : List HP := pv p 173 [.pointer (some ⟨rb, 0, none⟩), .bool w] :: RdL rb q cap s
set_option maxHeartbeats 1600000 in
theorem im_list {α : Type} (R : List α → HP) (one : RwM α) (P : α → Prop) (N : Nat) (f : FuncId) (cs : List Value) (p rb : Nat) (hp : Prog one) (hP : ∀ s : RdW, s.1.bs.length ≤ N → P (one s).1)
  (hf : ∀ (q : Option Addr) (cap : Nat) (s : Rd) (w : Bool) (acc : List α), s.bs.length ≤ cap → s.f = false → Gs P N acc (s, w) → Fn Tryz.prog f cs.toArray (R acc :: IR p rb w q cap s) (fun v post => ∃ q' cap', v = .tuple #[] ∧ post = R (acc ++ [(one (s, w)).1]) :: IR p rb (one (s, w)).2.2 q' cap' (one (s, w)).2.1 ∧ (one (s, w)).2.1.bs.length ≤ cap'))
  (q : Option Addr) (cap : Nat) (s0 : Rd) (w0 : Bool) (hc : s0.bs.length ≤ cap) (hN : s0.bs.length ≤ N) :
  Fn Tryz.prog 125 [.pointer (some ⟨p, 0, none⟩), .func (.func f) #[] cs.toArray].toArray (R [] :: IR p rb w0 q cap s0)
   (fun v post => ∃ q' cap', v = .tuple #[] ∧ post = R (lsM one (s0, w0)).1 :: IR p rb (lsM one (s0, w0)).2.2 q' cap' (lsM one (s0, w0)).2.1 ∧ (lsM one (s0, w0)).2.1.bs.length ≤ cap') := by
 have hg0 := Gs.nil (P := P) (N := N) (s := (s0, w0)) hN
 have hrng := s0.int_rng
 have hls := lsM_eq one (s0, w0)
 dsimp only at hg0 hls
 refine Fn.enter (N := 37) func125 rfl ntmps125 tK rfl (fun ρ L => ?_)
 refine ky<|km rfl<|kq (qN rfl)<|kq (qO fo_173_0 rfl)<|kq (qD ck_170 rfl)<|kl (kc rfl (h := rd_Int _ _ _ _ (by assumption))) ?_
 rintro _ _ ⟨_, ⟨q1, c1, rfl, rfl, hc1⟩, rfl⟩
 refine ka rfl<|kz<|km rfl<|km rfl<|kq (qN rfl)<|kq (qO fo_173_1 rfl)<|kq (qD ck_4 rfl)<|km rfl ?_
 first | refine KO.dsplit 16 rfl (fun g16 => ?_) (fun g16 => ?_) | refine KO.split 16 rfl (fun g16 => ?_) (fun g16 => ?_)
 ·obtain rfl : w0 = true := g16
  rw [Bool.true_or] at hls hg0
  refine zq<|zq<|kq (qT rfl rfl)<|kq (qN rfl)<|kq (qO fo_173_1 rfl)<|kN rfl (lA ck_4 rfl rfl rfl tP tA) ?_
  rintro _ _ ⟨rfl, rfl⟩
  refine kz<|ka rfl<|zm<|kB ?_
  refine kX (ι := { x : Nat × List α × Rd × Bool × Option Addr × Nat // x.1 ≤ s0.int.1.toNat ∧ x.2.2.1.bs.length ≤ x.2.2.2.2.2 ∧ Gs P N x.2.1 (x.2.2.1, x.2.2.2.1) ∧ lsM one (s0, _) = lsGo one (s0.int.1.toNat - x.1) x.2.1 (x.2.2.1, x.2.2.2.1) }) (fun x => [(5, .int .i64 x.1.1), (4, .int .i64 s0.int.1), (0, .pointer (some ⟨p, 0, none⟩)), (1, .func (.func f) #[] cs.toArray)]) (fun x => R x.1.2.1 :: IR p rb x.1.2.2.2.1 x.1.2.2.2.2.1 x.1.2.2.2.2.2 x.1.2.2.1 ++ L) (fun x => s0.int.1.toNat - x.1.1) ⟨(0, [], s0.int.2, _, q1, c1), Nat.zero_le _, hc1, hg0, hls⟩ tS (fun w h => h.fitD) (fun x ih => ?_)
  obtain ⟨⟨i, acc, s, wf, q', cap'⟩, hi, hcs, hgs, hinv⟩ := x
  dsimp only at hi hcs hgs hinv ⊢
  refine ke<|ky<|km rfl<|km rfl<|kq (q_lt rfl rfl)<|km rfl ?_
  refine KO.dsplit 25 rfl (fun g25 => ?_) (fun g25 => ?_)
  ·refine km rfl<|kq (qN rfl)<|kq (qO fo_173_0 rfl)<|kq (qD ck_170 rfl)<|kl (kc rfl (h := rd_Failed _ _ _ _)) ?_
   rintro _ _ ⟨_, ⟨rfl, rfl⟩, rfl⟩
   refine kq (q_not rfl)<|kq (qT rfl rfl)<|zm ?_
   refine kT (s := 32) rfl (fun g32 => ?_) (fun g32 => ?_)
   ·have hsf : s.f = false := by simpa using g32
    have hst := lsGo_succ one (s0.int.1.toNat - (i + 1)) acc (s, wf)
    rw [show s0.int.1.toNat - (i + 1) + 1 = s0.int.1.toNat - i by omega, if_neg (by simp [hsf])] at hst
    refine za<|ke<|kB<|kr<|km rfl<|kl (OpL.callCG (first := []) (captured := cs) rfl rfl tG (hf q' cap' s wf acc hcs hsf hgs)) ?_
    rintro _ _ ⟨_, ⟨q2, c2, rfl, rfl, hc2⟩, rfl⟩
    refine zm<|zd<|kr<|km rfl<|kq (q_add rfl rfl tN tN)<|ka rfl<|zm ?_
    refine K.weak ?_ ?_ (ih ⟨(i + 1, acc ++ [(one (s, wf)).1], (one (s, wf)).2.1, (one (s, wf)).2.2, q2, c2), ?_, hc2, hgs.step hp hP hsf, hinv.trans hst⟩ ?_)
    ·exact tS
    ·intro w h
     dsimp only
     exact h.fitD
    ·show i + 1 ≤ s0.int.1.toNat
     omega
    ·show s0.int.1.toNat - (i + 1) < s0.int.1.toNat - i
     omega
   ·refine K.exit rfl ?_
    refine K.fin (fn := Tryz.f125) func125 (fun a w hk hs => res0 results125) (fun w hs => ?_)
    have hz : lsGo one (s0.int.1.toNat - i) acc (s, wf) = (acc, (s, wf)) := by
     first
      | exact lsGo_f _ _ _ _ (by simpa using g32)
      | (rw [show s0.int.1.toNat - i = 0 by omega]; exact lsGo_zero _ _ _)
    rw [hz] at hinv
    rw [hinv]
    exact ⟨_, R acc :: IR p rb wf q' cap' s, rfl, ⟨q', cap', rfl, rfl, hcs⟩, hs.fitD⟩
  ·refine zq<|zq<|zq<|zq<|zq<|zq<|kq (qF rfl rfl)<|zm<|K.no rfl<|K.exit rfl ?_
   refine K.fin (fn := Tryz.f125) func125 (fun a w hk hs => res0 results125) (fun w hs => ?_)
   have hz : lsGo one (s0.int.1.toNat - i) acc (s, wf) = (acc, (s, wf)) := by
    first
     | exact lsGo_f _ _ _ _ (by simpa using g32)
     | (rw [show s0.int.1.toNat - i = 0 by omega]; exact lsGo_zero _ _ _)
   rw [hz] at hinv
   rw [hinv]
   exact ⟨_, R acc :: IR p rb wf q' cap' s, rfl, ⟨q', cap', rfl, rfl, hcs⟩, hs.fitD⟩
 ·obtain rfl : w0 = false := g16
  rw [Bool.false_or] at hls hg0
  refine km rfl<|kq (q_lt rfl rfl)<|kq (qF rfl rfl)<|kq (qN rfl)<|kq (qO fo_173_1 rfl)<|kN rfl (lA ck_4 rfl rfl rfl tP tA) ?_
  rintro _ _ ⟨rfl, rfl⟩
  refine kz<|ka rfl<|zm<|kB ?_
  refine kX (ι := { x : Nat × List α × Rd × Bool × Option Addr × Nat // x.1 ≤ s0.int.1.toNat ∧ x.2.2.1.bs.length ≤ x.2.2.2.2.2 ∧ Gs P N x.2.1 (x.2.2.1, x.2.2.2.1) ∧ lsM one (s0, _) = lsGo one (s0.int.1.toNat - x.1) x.2.1 (x.2.2.1, x.2.2.2.1) }) (fun x => [(5, .int .i64 x.1.1), (4, .int .i64 s0.int.1), (0, .pointer (some ⟨p, 0, none⟩)), (1, .func (.func f) #[] cs.toArray)]) (fun x => R x.1.2.1 :: IR p rb x.1.2.2.2.1 x.1.2.2.2.2.1 x.1.2.2.2.2.2 x.1.2.2.1 ++ L) (fun x => s0.int.1.toNat - x.1.1) ⟨(0, [], s0.int.2, _, q1, c1), Nat.zero_le _, hc1, hg0, hls⟩ tS (fun w h => h.fitD) (fun x ih => ?_)
  obtain ⟨⟨i, acc, s, wf, q', cap'⟩, hi, hcs, hgs, hinv⟩ := x
  dsimp only at hi hcs hgs hinv ⊢
  refine ke<|ky<|km rfl<|km rfl<|kq (q_lt rfl rfl)<|km rfl ?_
  refine KO.dsplit 25 rfl (fun g25 => ?_) (fun g25 => ?_)
  ·refine km rfl<|kq (qN rfl)<|kq (qO fo_173_0 rfl)<|kq (qD ck_170 rfl)<|kl (kc rfl (h := rd_Failed _ _ _ _)) ?_
   rintro _ _ ⟨_, ⟨rfl, rfl⟩, rfl⟩
   refine kq (q_not rfl)<|kq (qT rfl rfl)<|zm ?_
   refine kT (s := 32) rfl (fun g32 => ?_) (fun g32 => ?_)
   ·have hsf : s.f = false := by simpa using g32
    have hst := lsGo_succ one (s0.int.1.toNat - (i + 1)) acc (s, wf)
    rw [show s0.int.1.toNat - (i + 1) + 1 = s0.int.1.toNat - i by omega, if_neg (by simp [hsf])] at hst
    refine za<|ke<|kB<|kr<|km rfl<|kl (OpL.callCG (first := []) (captured := cs) rfl rfl tG (hf q' cap' s wf acc hcs hsf hgs)) ?_
    rintro _ _ ⟨_, ⟨q2, c2, rfl, rfl, hc2⟩, rfl⟩
    refine zm<|zd<|kr<|km rfl<|kq (q_add rfl rfl tN tN)<|ka rfl<|zm ?_
    refine K.weak ?_ ?_ (ih ⟨(i + 1, acc ++ [(one (s, wf)).1], (one (s, wf)).2.1, (one (s, wf)).2.2, q2, c2), ?_, hc2, hgs.step hp hP hsf, hinv.trans hst⟩ ?_)
    ·exact tS
    ·intro w h
     dsimp only
     exact h.fitD
    ·show i + 1 ≤ s0.int.1.toNat
     omega
    ·show s0.int.1.toNat - (i + 1) < s0.int.1.toNat - i
     omega
   ·refine K.exit rfl ?_
    refine K.fin (fn := Tryz.f125) func125 (fun a w hk hs => res0 results125) (fun w hs => ?_)
    have hz : lsGo one (s0.int.1.toNat - i) acc (s, wf) = (acc, (s, wf)) := by
     first
      | exact lsGo_f _ _ _ _ (by simpa using g32)
      | (rw [show s0.int.1.toNat - i = 0 by omega]; exact lsGo_zero _ _ _)
    rw [hz] at hinv
    rw [hinv]
    exact ⟨_, R acc :: IR p rb wf q' cap' s, rfl, ⟨q', cap', rfl, rfl, hcs⟩, hs.fitD⟩
  ·refine zq<|zq<|zq<|zq<|zq<|zq<|kq (qF rfl rfl)<|zm<|K.no rfl<|K.exit rfl ?_
   refine K.fin (fn := Tryz.f125) func125 (fun a w hk hs => res0 results125) (fun w hs => ?_)
   have hz : lsGo one (s0.int.1.toNat - i) acc (s, wf) = (acc, (s, wf)) := by
    first
     | exact lsGo_f _ _ _ _ (by simpa using g32)
     | (rw [show s0.int.1.toNat - i = 0 by omega]; exact lsGo_zero _ _ _)
   rw [hz] at hinv
   rw [hinv]
   exact ⟨_, R acc :: IR p rb wf q' cap' s, rfl, ⟨q', cap', rfl, rfl, hcs⟩, hs.fitD⟩
end Go.Proofs.YtkbhldicnamcdaaGreat.L
