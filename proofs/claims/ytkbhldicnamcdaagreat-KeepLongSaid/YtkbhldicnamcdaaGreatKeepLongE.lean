/- A store goes on over any number of changes, image by image, and is opened as it was; no condition. -/
import Derived.Test.YtkbhldicnamcdaaGreatKeepLongD
namespace Go.Proofs.YtkbhldicnamcdaaGreat.L
open Go Go.Proofs
attribute [local irreducible] pv fv pt fz RowF RowO rowP old pure_ elA Rd.int Rd.text Rd.flag Rd.msg Rd.rint Rd.rtext Rd.rflag Rd.rmsg
set_option maxRecDepth 100000
set_option linter.unusedSimpArgs false
set_option linter.unusedVariables false
def Rw.bytes (r : Rw) : List UInt8 := wText r.key ++ wText r.value
def msgsBytes (l : List Msg) : List UInt8 := wInt l.length ++ l.flatMap Msg.bytes
def Ob.bytes (o : Ob) : List UInt8 := wText o.name ++ (wInt o.kind ++ (wInt o.limit ++ (wInt o.rows.length ++ (o.rows.flatMap Rw.bytes ++ (msgsBytes o.msgs ++ msgsBytes o.dead)))))
def Stt.bytes (s : Stt) : List UInt8 := wInt s.next ++ (wInt s.objs.length ++ s.objs.flatMap Ob.bytes)
def imgBytes (s : Stt) : List UInt8 := if s.right = true then s.bytes else []
theorem flatB_succ {α : Type} {f : α → List UInt8} {l : List α} {i : Nat} {x : α} (A : List UInt8) (h : l[i]? = some x) : A ++ (l.take (i + 1)).flatMap f = A ++ (l.take i).flatMap f ++ f x := by
  rw [List.take_add_one, h, List.flatMap_append]; simp
theorem rowsB_succ {l : List Rw} {i : Nat} {r : Rw} (A : List UInt8) (h : l[i]? = some r) : A ++ (l.take (i + 1)).flatMap Rw.bytes = A ++ (l.take i).flatMap Rw.bytes ++ wText r.key ++ wText r.value := by
  rw [flatB_succ A h]; simp [Rw.bytes]
theorem flatB_le {α : Type} {f : α → List UInt8} {c : Nat} : ∀ (l : List α), (∀ x ∈ l, (f x).length ≤ c) → (l.flatMap f).length ≤ l.length * c
  | [], _ => by simp
  | x :: l, h => by
    have h1 := h x List.mem_cons_self
    have h2 := flatB_le l (fun y hy => h y (List.mem_cons_of_mem _ hy))
    simp only [List.flatMap_cons, List.length_append, List.length_cons, Nat.succ_mul]
    omega
theorem flatB_take {α : Type} {f : α → List UInt8} {c : Nat} (l : List α) (h : ∀ x, (f x).length ≤ c) (i : Nat) : ((l.take i).flatMap f).length ≤ l.length * c :=
  Nat.le_trans (flatB_le _ (fun x _ => h x)) (Nat.mul_le_mul_right _ (by rw [List.length_take]; omega))
theorem Rw.bytes_length (r : Rw) : r.bytes.length ≤ 131100 := by
  unfold Rw.bytes
  rw [List.length_append, wText_length, wText_length]
  omega
theorem msgsBytes_length (l : List Msg) : (msgsBytes l).length ≤ 8 + l.length * 131100 := by
  have := flatB_le (f := Msg.bytes) l (fun m _ => m.bytes_length)
  unfold msgsBytes
  rw [List.length_append, wInt_length]
  omega
theorem Ob.bytes_length (o : Ob) : o.bytes.length ≤ o.cnt * 131100 := by
  have h1 := flatB_le (f := Rw.bytes) o.rows (fun m _ => m.bytes_length)
  have h2 := msgsBytes_length o.msgs
  have h3 := msgsBytes_length o.dead
  unfold Ob.bytes Ob.cnt
  simp only [List.length_append, wInt_length, wText_length]
  omega
def preB (s : Sz) (i : Nat) : List UInt8 := wInt s.next ++ (wInt s.l.length ++ (s.l.take i).flatMap (fun o => o.x.bytes))
theorem preB_zero (s : Sz) : [] ++ wInt s.next ++ wInt s.l.length = preB s 0 := by simp [preB]
theorem preB_all (s : Sz) : preB s s.l.length = s.st.bytes := by
  unfold preB Stt.bytes Sz.st
  rw [List.take_length, List.length_map, List.flatMap_map]
theorem preB_succ {s : Sz} {i : Nat} {o : Oz} (h : s.l[i]? = some o) : preB s i ++ wText o.x.name ++ wInt o.x.kind ++ wInt o.x.limit ++ wInt o.x.rows.length ++ o.x.rows.flatMap Rw.bytes ++ msgsBytes o.x.msgs ++ msgsBytes o.x.dead = preB s (i + 1) := by
  unfold preB
  rw [List.take_add_one, h, List.flatMap_append]
  simp [Ob.bytes]
theorem preB_len (s : Sz) (i : Nat) : (preB s i).length ≤ 16 + s.cnt i * 131100 := by
  have key : ∀ l : List Oz, (l.flatMap (fun o => o.x.bytes)).length ≤ (l.map (fun o => o.x.cnt)).sum * 131100 := fun l => by
    induction l with
    | nil => simp
    | cons o l ih =>
      have h1 := o.x.bytes_length
      simp only [List.flatMap_cons, List.length_append, List.map_cons, List.sum_cons, Nat.add_mul]
      omega
  have := key (s.l.take i)
  unfold preB Sz.cnt
  rw [List.length_append, List.length_append, wInt_length, wInt_length]
  omega
theorem few_of {s : Sz} (h : s.cnt s.l.length ≤ 40000) : s.few := fun o ho => by
  obtain ⟨i, hi⟩ := List.mem_iff_getElem?.1 ho
  have h1 := cnt_succ hi
  have h2 := cnt_mono s (i + 1)
  unfold Ob.cnt at h1
  omega
set_option maxHeartbeats 800000 in
theorem im_messages (p : Nat) (q : Option Addr) (cap : Nat) (xs : List UInt8) (mq : Option Addr) (mc : Nat) (l : List Msg) (hl : l.length ≤ 40000) (hb : xs.length ≤ 100000000000) : Fn Tryz.prog 145 [.pointer (some ⟨p, 0, none⟩), .slice mq l.length mc].toArray (WrL p q cap xs ++ [RowF Kd.msg mq l])
    (fun r post => ∃ q' cap', r = .tuple #[] ∧ post = WrL p q' cap' (xs ++ msgsBytes l)) := by
  have hfl := flatB_take (f := Msg.bytes) l (fun m => m.bytes_length)
  refine Fn.enter (N := 20) Tryz.func145 rfl Tryz.ntmps145 tK rfl (fun ρ L => ?_)
  refine K.seq <| K.region <| KO.q rfl (q_move rfl) <| KO.q rfl (q_move rfl) <| KO.q rfl (q_len Tryz.underlying60 rfl) ?_
  refine KO.loud rfl (OpL.callD rfl (h := wr_Int _ _ _ _ _ (by first | omega | (simp [wInt_length, wFlag_length, wText_length]; omega)))) ?_
  rintro _ _ ⟨_, ⟨q1, c1, rfl, rfl⟩, rfl⟩
  refine KO.done <| K.seq <| K.region <| KO.q rfl (q_move rfl) <| KO.q rfl (q_len Tryz.underlying60 rfl) <| KO.q rfl (q_move rfl) <| KO.done <| K.block ?_
  obtain ⟨A, hA⟩ : ∃ A, A = xs ++ wInt l.length := ⟨_, rfl⟩
  have hAl : A.length ≤ 100000000008 := by rw [hA, List.length_append, wInt_length]; omega
  rw [← hA]
  refine K.rounds2 (ι := { x : Nat × Option Addr × Nat // x.1 ≤ l.length }) (fun x => [(12, .int .i64 x.1.1), (11, .int .i64 l.length), (10, .slice mq l.length mc), (0, .pointer (some ⟨p, 0, none⟩))]) (fun x => WrL p x.1.2.1 x.1.2.2 (A ++ (l.take x.1.1).flatMap Msg.bytes) ++ (RowF Kd.msg mq l :: L)) (fun x => l.length - x.1.1) ⟨(0, q1, c1), Nat.zero_le _⟩ tS (fun w h => by rw [show A ++ (l.take 0).flatMap Msg.bytes = A by simp]; exact h.fitD) (fun x ih => ?_)
  obtain ⟨⟨i, q', cap'⟩, hi⟩ := x
  dsimp only at hi ⊢
  obtain ⟨B, hB⟩ : ∃ B, B = A ++ (l.take i).flatMap Msg.bytes := ⟨_, rfl⟩
  have hBl : B.length ≤ 106000000000 := by have := hfl i; rw [hB, List.length_append]; omega
  rw [← hB]
  refine K.seq <| K.region <| KO.q rfl (q_lt rfl rfl) <| KO.done <| K.seq ?_
  refine K.dcond (s := 13) rfl (fun g13 => ?_) (fun g13 => ?_)
  · obtain ⟨m, hm⟩ : ∃ e, l[i]? = some e := ⟨_, List.getElem?_eq_getElem tO⟩
    refine K.skip <| K.seq <| K.block <| K.seq <| K.region ?_
    first | refine KO.q rfl (q_ix _ se_60 rfl rfl rfl isF tM rfl tL) ?_ | refine KO.q rfl (q_ix _ se_60 rfl rfl rfl isO tM rfl tL) ?_
    first | refine KO.q rfl (q_ldEN ck_56 rfl isF tM tE) ?_ | refine KO.q rfl (q_ldEN ck_56 rfl isO tM tE) ?_
    refine KO.loud rfl (l_alloc zo_56) ?_
    rintro _ _ ⟨b5, rfl, rfl⟩
    refine KO.loudN rfl (l_storeAll ck_56 rfl rfl ⟨rfl, rfl⟩ (msg_one _) tP) ?_
    rintro _ _ ⟨rfl, rfl⟩
    refine KO.done <| K.region <| KO.q rfl (q_move rfl) <| KO.q rfl (q_loadN ck_56 rfl rfl tC) ?_
    refine KO.loud rfl (OpL.callD rfl (h := msg_WriteA _ _ _ _ _ (by first | omega | (simp [wInt_length, wFlag_length, wText_length]; omega)))) ?_
    rintro _ _ ⟨_, ⟨q2, c2, rfl, rfl⟩, rfl⟩
    refine KO.done <| K.inBlock <| K.region <| KO.q rfl (q_add rfl rfl tN tN) <| KO.q rfl (q_move rfl) <| KO.done ?_
    rw [hB, ← flatB_succ A hm]
    exact K.weak tS (fun w h => h.fitD) (ih ⟨(i + 1, q2, c2), by show i + 1 ≤ l.length; omega⟩ (by show l.length - (i + 1) < l.length - i; omega))
  · obtain rfl : i = l.length := by omega
    rw [hB, List.take_length, hA, show xs ++ wInt l.length ++ l.flatMap Msg.bytes = xs ++ msgsBytes l by simp [msgsBytes]]
    refine K.exit rfl ?_
    refine K.fin (fn := Tryz.f145) Tryz.func145 (fun a w hk hs => res0 Tryz.results145) (fun w hs => ?_)
    exact ⟨_, WrL p q' cap' (xs ++ msgsBytes l), rfl, ⟨q', cap', rfl, rfl⟩, hs.fitD⟩
set_option maxHeartbeats 1600000 in
theorem im_Bytes (s : Sz) (hok : s.ok) (hcnt : s.cnt s.l.length ≤ 40000) : Fn Tryz.prog 74 [.agg s.cells.toArray].toArray (StL s)
    (fun r post => ∃ q cap, r = .slice q (imgBytes s.st).length cap ∧ post = [RowF Kd.u8 q (imgBytes s.st)] ∧ (imgBytes s.st).length ≤ cap) := by
  have hfew := few_of hcnt
  have hpre := preB_len s
  have hcm := cnt_mono s
  have hlc0 : s.l.length ≤ 40000 := by
    have : s.l.length ≤ s.cnt s.l.length := by
      unfold Sz.cnt
      rw [List.take_length]
      clear hcnt hfew hpre hcm hok
      generalize s.l = l
      induction l with
      | nil => simp
      | cons o l ih =>
        have : 1 ≤ o.x.cnt := by unfold Ob.cnt; omega
        simp only [List.length_cons, List.map_cons, List.sum_cons]; omega
    omega
  refine Fn.enter (N := 73) Tryz.func74 rfl Tryz.ntmps74 tK rfl (fun ρ L => ?_)
  refine K.seq <| K.region <| KO.loud rfl (l_box rfl rfl) ?_
  rintro _ _ ⟨b1, rfl, rfl⟩
  refine KO.q rfl (q_assign rfl) <| KO.done <| K.seq <| K.seq <| K.region <| KO.q rfl (q_loadN ck_47 rfl rfl tC) <| KO.loud rfl (OpL.callD rfl (h := st_Right _ (by assumption) (by assumption))) ?_
  rintro _ _ ⟨_, ⟨rfl, rfl⟩, rfl⟩
  refine KO.q rfl (q_not rfl) <| KO.done ?_
  refine K.bcond (s := 10) rfl (fun g10 => ?_) (fun g10 => ?_)
  · refine K.seq ?_
    have hr : imgBytes s.st = [] := if_neg (by simpa using g10)
    rw [hr]
    refine K.region <| KO.q rfl (q_assign rfl) <| KO.done ?_
    refine kr1 Tryz.func74 Tryz.results74 rfl (fun w hs => ?_)
    first
      | exact ⟨_, [RowF Kd.u8 none []], rfl, ⟨none, 0, rfl, rfl, Nat.le_refl _⟩, (rowF_nil (k := Kd.u8) none hs).fitD⟩
      | exact ⟨_, [RowF Kd.u8 q10 s.st.bytes], rfl, ⟨q10, c10, rfl, rfl, hc10⟩, hs.fitD⟩
  · refine K.skip <| K.seq ?_
    have hr : imgBytes s.st = s.st.bytes := if_pos (by simpa using g10)
    rw [hr]
    refine K.region <| KO.q rfl (q_build st_150 rfl tF) <| KO.loud rfl (l_box rfl rfl) ?_
    rintro _ _ ⟨b12, rfl, rfl⟩
    refine KO.q rfl (q_assign rfl) <| KO.done <| K.st (fun w h => rowO_nil (k := Kd.u8) 5 h) <| K.seq <| K.region <| KO.q rfl (q_move rfl) <| KO.q rfl (q_field fo_47_0 rfl) <| KO.q rfl (q_load1D ck_3 rfl) <| KO.loud rfl (OpL.callE rfl (wr_Int b12 none 0 [] _ (by simp))) ?_
    rintro _ _ ⟨_, ⟨q0, c0, rfl, rfl⟩, rfl⟩
    refine KO.done <| K.seq <| K.region <| KO.q rfl (q_move rfl) <| KO.q rfl (q_field fo_47_1 rfl) <| KO.q rfl (q_load1D ck_45 rfl) <| KO.q rfl (q_len Tryz.underlying45 rfl) <| KO.loud rfl (OpL.callD rfl (h := wr_Int _ _ _ _ _ (by simp [wInt_length]))) ?_
    rintro _ _ ⟨_, ⟨qa, ca, rfl, rfl⟩, rfl⟩
    refine KO.done <| K.seq <| K.seq <| K.region <| KO.q rfl (q_field fo_47_1 rfl) <| KO.q rfl (q_load1D ck_45 rfl) <| KO.q rfl (q_len Tryz.underlying45 rfl) <| KO.q rfl (q_move rfl) <| KO.done <| K.block ?_
    rw [preB_zero]
    refine K.rounds2 (ι := { x : Nat × Option Addr × Nat // x.1 ≤ s.l.length }) (fun x => [(25, .int .i64 x.1.1), (24, .int .i64 s.l.length), (23, .slice s.q s.l.length s.c), (3, .pointer (some ⟨b12, 0, none⟩))]) (fun x => WrL b12 x.1.2.1 x.1.2.2 (preB s x.1.1) ++ (StL s ++ L)) (fun x => s.l.length - x.1.1) ⟨(0, qa, ca), Nat.zero_le _⟩ tS (fun w h => h.fitD) (fun x ih => ?_)
    obtain ⟨⟨i, q', cap'⟩, hi⟩ := x
    have hpl := hpre i
    have hci := hcm i
    dsimp only at hi ⊢
    refine K.seq <| K.region <| KO.q rfl (q_lt rfl rfl) <| KO.done <| K.seq ?_
    refine K.dcond (s := 26) rfl (fun g26 => ?_) (fun g26 => ?_)
    · obtain ⟨o, ho⟩ : ∃ e, s.l[i]? = some e := ⟨_, List.getElem?_eq_getElem tO⟩
      have hmo := List.mem_of_getElem? ho
      have hcs := cnt_succ ho
      have hc1 := hcm (i + 1)
      unfold Ob.cnt at hcs
      refine K.st (fun w h => nestF_at (l := s.l) tM hmo h) <| K.skip <| K.seq <| K.block <| K.seq <| K.region ?_
      first | refine KO.q rfl (q_ix _ se_45 rfl rfl rfl isF tM rfl tL) ?_ | refine KO.q rfl (q_ix _ se_45 rfl rfl rfl isO tM rfl tL) ?_
      first | refine KO.q rfl (q_ldEN ck_62 rfl isF tM tE) ?_ | refine KO.q rfl (q_ldEN ck_62 rfl isO tM tE) ?_
      refine KO.loud rfl (l_alloc zo_62) ?_
      rintro _ _ ⟨b5, rfl, rfl⟩
      refine KO.loudN rfl (l_storeAll ck_62 rfl rfl ⟨rfl, rfl⟩ (oz_one _) tP) ?_
      rintro _ _ ⟨rfl, rfl⟩
      refine KO.done <| K.seq <| K.region <| KO.q rfl (q_move rfl) <| KO.q rfl (q_field fo_62_0 rfl) <| KO.q rfl (q_load1D ck_9 rfl) ?_
      refine KO.loud rfl (OpL.callD rfl (h := wr_TextA _ _ _ _ _ (by first | omega | (simp [wInt_length, wFlag_length, wText_length]; omega)))) ?_
      rintro _ _ ⟨_, ⟨q2, c2, rfl, rfl⟩, rfl⟩
      refine KO.done <| K.seq <| K.region <| KO.q rfl (q_move rfl) <| KO.q rfl (q_field fo_62_1 rfl) <| KO.q rfl (q_load1D ck_3 rfl) ?_
      refine KO.loud rfl (OpL.callD rfl (h := wr_Int _ _ _ _ _ (by first | omega | (simp [wInt_length, wFlag_length, wText_length]; omega)))) ?_
      rintro _ _ ⟨_, ⟨q3, c3, rfl, rfl⟩, rfl⟩
      refine KO.done <| K.seq <| K.region <| KO.q rfl (q_move rfl) <| KO.q rfl (q_field fo_62_2 rfl) <| KO.q rfl (q_load1D ck_3 rfl) ?_
      refine KO.loud rfl (OpL.callD rfl (h := wr_Int _ _ _ _ _ (by first | omega | (simp [wInt_length, wFlag_length, wText_length]; omega)))) ?_
      rintro _ _ ⟨_, ⟨q4, c4, rfl, rfl⟩, rfl⟩
      refine KO.done <| K.seq <| K.region <| KO.q rfl (q_move rfl) <| KO.q rfl (q_field fo_62_3 rfl) <| KO.q rfl (q_load1D ck_59 rfl) <| KO.q rfl (q_len Tryz.underlying59 rfl) ?_
      refine KO.loud rfl (OpL.callD rfl (h := wr_Int _ _ _ _ _ (by first | omega | (simp [wInt_length, wFlag_length, wText_length]; omega)))) ?_
      rintro _ _ ⟨_, ⟨q5, c5, rfl, rfl⟩, rfl⟩
      refine KO.done <| K.seq <| K.seq ?_
      obtain ⟨A, hA⟩ : ∃ A, A = preB s i ++ wText o.x.name ++ wInt o.x.kind ++ wInt o.x.limit ++ wInt o.x.rows.length := ⟨_, rfl⟩
      have hAl : A.length ≤ 6000000000 := by rw [hA]; simp only [List.length_append, wInt_length, wText_length]; omega
      rw [← hA]
      refine K.region <| KO.q rfl (q_field fo_62_3 rfl) <| KO.q rfl (q_load1D ck_59 rfl) <| KO.q rfl (q_len Tryz.underlying59 rfl) <| KO.q rfl (q_move rfl) <| KO.done <| K.block ?_
      refine K.rounds2 (ι := { x : Nat × Option Addr × Nat // x.1 ≤ o.x.rows.length }) (fun x => [(49, .int .i64 x.1.1), (48, .int .i64 o.x.rows.length), (47, .slice o.z.q1 o.x.rows.length o.z.c1), (5, .pointer (some ⟨b5, 0, none⟩)), (25, .int .i64 i), (24, .int .i64 s.l.length), (23, .slice s.q s.l.length s.c), (3, .pointer (some ⟨b12, 0, none⟩))]) (fun x => WrL b12 x.1.2.1 x.1.2.2 (A ++ (o.x.rows.take x.1.1).flatMap Rw.bytes) ++ (pv b5 62 o.cells :: ObL o ++ StL s ++ L)) (fun x => o.x.rows.length - x.1.1) ⟨(0, q5, c5), Nat.zero_le _⟩ tS (fun w h => by rw [show A ++ (o.x.rows.take 0).flatMap Rw.bytes = A by simp]; exact h.fitD) (fun x ih2 => ?_)
      obtain ⟨⟨k, q'', cap''⟩, hk⟩ := x
      dsimp only at hk ⊢
      obtain ⟨B, hB⟩ : ∃ B, B = A ++ (o.x.rows.take k).flatMap Rw.bytes := ⟨_, rfl⟩
      have hBl : B.length ≤ 12000000000 := by have := flatB_take (f := Rw.bytes) o.x.rows (fun r => r.bytes_length) k; rw [hB, List.length_append]; omega
      rw [← hB]
      refine K.seq <| K.region <| KO.q rfl (q_lt rfl rfl) <| KO.done <| K.seq ?_
      refine K.dcond (s := 50) rfl (fun g50 => ?_) (fun g50 => ?_)
      · obtain ⟨r, hr⟩ : ∃ e, o.x.rows[k]? = some e := ⟨_, List.getElem?_eq_getElem tO⟩
        refine K.skip <| K.seq <| K.block <| K.seq <| K.region ?_
        first | refine KO.q rfl (q_ix _ se_59 rfl rfl rfl isF tM rfl tL) ?_ | refine KO.q rfl (q_ix _ se_59 rfl rfl rfl isO tM rfl tL) ?_
        first | refine KO.q rfl (q_ldEN ck_136 rfl isF tM tE) ?_ | refine KO.q rfl (q_ldEN ck_136 rfl isO tM tE) ?_
        refine KO.loud rfl (l_alloc zo_136) ?_
        rintro _ _ ⟨b7, rfl, rfl⟩
        refine KO.loudN rfl (l_storeAll ck_136 rfl rfl ⟨rfl, rfl⟩ (rw_one _) tP) ?_
        rintro _ _ ⟨rfl, rfl⟩
        refine KO.done <| K.seq <| K.region <| KO.q rfl (q_move rfl) <| KO.q rfl (q_field fo_136_0 rfl) <| KO.q rfl (q_load1D ck_9 rfl) ?_
        refine KO.loud rfl (OpL.callD rfl (h := wr_TextA _ _ _ _ _ (by first | omega | (simp [wInt_length, wFlag_length, wText_length]; omega)))) ?_
        rintro _ _ ⟨_, ⟨q6, c6, rfl, rfl⟩, rfl⟩
        refine KO.done <| K.region <| KO.q rfl (q_move rfl) <| KO.q rfl (q_field fo_136_1 rfl) <| KO.q rfl (q_load1D ck_9 rfl) ?_
        refine KO.loud rfl (OpL.callD rfl (h := wr_TextA _ _ _ _ _ (by first | omega | (simp [wInt_length, wFlag_length, wText_length]; omega)))) ?_
        rintro _ _ ⟨_, ⟨q7, c7, rfl, rfl⟩, rfl⟩
        refine KO.done <| K.inBlock <| K.region <| KO.q rfl (q_add rfl rfl tN tN) <| KO.q rfl (q_move rfl) <| KO.done ?_
        rw [hB, ← rowsB_succ A hr]
        exact K.weak tS (fun w h => h.fitD) (ih2 ⟨(k + 1, q7, c7), by show k + 1 ≤ o.x.rows.length; omega⟩ (by show o.x.rows.length - (k + 1) < o.x.rows.length - k; omega))
      · obtain rfl : k = o.x.rows.length := by omega
        rw [List.take_length] at hB
        have hml := msgsBytes_length o.x.msgs
        refine K.exit rfl <| K.seq <| K.region <| KO.q rfl (q_move rfl) <| KO.q rfl (q_field fo_62_4 rfl) <| KO.q rfl (q_load1D ck_60 rfl) ?_
        refine KO.loud rfl (OpL.callD rfl (h := im_messages _ _ _ _ _ _ _ tN (by first | omega | (simp [wInt_length, wFlag_length, wText_length]; omega)))) ?_
        rintro _ _ ⟨_, ⟨q8, c8, rfl, rfl⟩, rfl⟩
        refine KO.done <| K.region <| KO.q rfl (q_move rfl) <| KO.q rfl (q_field fo_62_5 rfl) <| KO.q rfl (q_load1D ck_60 rfl) ?_
        refine KO.loud rfl (OpL.callD rfl (h := im_messages _ _ _ _ _ _ _ tN (by first | omega | (simp [wInt_length, wFlag_length, wText_length]; omega)))) ?_
        rintro _ _ ⟨_, ⟨q9, c9, rfl, rfl⟩, rfl⟩
        refine KO.done <| K.inBlock <| K.region <| KO.q rfl (q_add rfl rfl tN tN) <| KO.q rfl (q_move rfl) <| KO.done ?_
        rw [hB, hA, preB_succ ho]
        exact K.weak tS (fun w h => h.fitD) (ih ⟨(i + 1, q9, c9), by show i + 1 ≤ s.l.length; omega⟩ (by show s.l.length - (i + 1) < s.l.length - i; omega))
    · obtain rfl : i = s.l.length := by omega
      rw [preB_all] at hpl ⊢
      refine K.exit rfl <| K.seq <| K.region <| KO.q rfl (q_move rfl) ?_
      refine KO.loud rfl (OpL.callD rfl (h := wr_Bytes _ _ _ _ (by first | omega | (simp [wInt_length, wFlag_length, wText_length]; omega)))) ?_
      rintro _ _ ⟨_, ⟨q10, c10, rfl, rfl, hc10⟩, rfl⟩
      refine KO.q rfl (q_assign rfl) <| KO.done ?_
      refine kr1 Tryz.func74 Tryz.results74 rfl (fun w hs => ?_)
      first
        | exact ⟨_, [RowF Kd.u8 none []], rfl, ⟨none, 0, rfl, rfl, Nat.le_refl _⟩, (rowF_nil (k := Kd.u8) none hs).fitD⟩
        | exact ⟨_, [RowF Kd.u8 q10 s.st.bytes], rfl, ⟨q10, c10, rfl, rfl, hc10⟩, hs.fitD⟩
end Go.Proofs.YtkbhldicnamcdaaGreat.L
namespace Go.Proofs.YtkbhldicnamcdaaGreat.L
open Go Go.Proofs
set_option maxRecDepth 100000
set_option linter.unusedSimpArgs false
set_option linter.unusedVariables false
open Go
abbrev RdW := Rd × Bool
def RwM (α : Type) := RdW → α × RdW
def RwM.bind {α β : Type} (r : RwM α) (k : α → RwM β) : RwM β := fun s => k (r s).1 (r s).2
def RwM.ret {α : Type} (a : α) : RwM α := fun s => (a, s)
def RdM.lift {α : Type} (r : RdM α) : RwM α := fun s => ((r s.1).1, ((r s.1).2, s.2))
def lsGo {α : Type} (one : RwM α) : Nat → List α → RdW → List α × RdW
  | 0, acc, s => (acc, s)
  | n + 1, acc, s => if s.1.f = true then (acc, s) else lsGo one n (acc ++ [(one s).1]) (one s).2
theorem lsGo_zero {α : Type} (one : RwM α) (acc : List α) (s : RdW) : lsGo one 0 acc s = (acc, s) := rfl
theorem lsGo_succ {α : Type} (one : RwM α) (n : Nat) (acc : List α) (s : RdW) : lsGo one (n + 1) acc s = if s.1.f = true then (acc, s) else lsGo one n (acc ++ [(one s).1]) (one s).2 := rfl
theorem lsGo_f {α : Type} (one : RwM α) : ∀ (n : Nat) (acc : List α) (s : RdW), s.1.f = true → lsGo one n acc s = (acc, s)
  | 0, _, _, _ => rfl
  | _ + 1, _, _, h => by rw [lsGo_succ, if_pos h]
def cntM : RwM Int := fun s => (s.1.int.1, (s.1.int.2, s.2 || decide (s.1.int.1 < 0)))
def lsM {α : Type} (one : RwM α) : RwM (List α) := RwM.bind cntM fun n => lsGo one n.toNat []
theorem lsM_eq {α : Type} (one : RwM α) (s : RdW) : lsM one s = lsGo one s.1.int.1.toNat [] (s.1.int.2, s.2 || decide (s.1.int.1 < 0)) := rfl
def rwM : RwM Rw := RwM.bind (RdM.lift Rd.text) fun a => RwM.bind (RdM.lift Rd.text) fun b => RwM.ret ⟨a, b⟩
def msgM : RwM Msg := RdM.lift Rd.msg
def objM : RwM Ob := RwM.bind (RdM.lift Rd.text) fun a => RwM.bind (RdM.lift Rd.int) fun b => RwM.bind (RdM.lift Rd.int) fun c => RwM.bind (lsM rwM) fun d => RwM.bind (lsM msgM) fun e => RwM.bind (lsM msgM) fun f => RwM.ret ⟨a, b, c, d, e, f⟩
def sttM : RwM Stt := RwM.bind (RdM.lift Rd.int) fun a => RwM.bind (lsM objM) fun l => RwM.ret ⟨a, l⟩
def imgRead (b : List UInt8) : Option Stt := let s := sttM (⟨b, false⟩, false)
  if (!s.2.1.done || (s.2.2 || !s.1.right)) = true then none else some s.1
def PreW {α : Type} (r : RwM α) : Prop := (∀ s, s.1.f = true → (r s).2.1.f = true) ∧ ∀ s t, Pre s.1 t.1 → (r t).2.1.f = false → Pre (r s).2.1 (r t).2.1 ∧ ((r s).2.1.f = true ∨ (r s).1 = (r t).1)
theorem PreW.ret {α : Type} (a : α) : PreW (RwM.ret a) := ⟨fun _ h => h, fun _ _ h _ => ⟨h, .inr rfl⟩⟩
theorem PreW.lift {α : Type} {r : RdM α} (h : PreOK r) : PreW (RdM.lift r) := ⟨fun s hs => h.1 s.1 hs, fun s t hp ht => h.2 s.1 t.1 hp ht⟩
theorem PreW.bind {α β : Type} {r : RwM α} {k : α → RwM β} (h : PreW r) (hk : ∀ a, PreW (k a)) : PreW (RwM.bind r k) := by
  refine ⟨fun s hs => (hk _).1 _ (h.1 s hs), fun s t hp ht => ?_⟩
  have ht : (k (r t).1 (r t).2).2.1.f = false := ht
  have h1 : (r t).2.1.f = false := by
    cases hf : (r t).2.1.f with
    | false => rfl
    | true => rw [(hk _).1 _ hf] at ht; cases ht
  obtain ⟨p1, p2⟩ := h.2 s t hp h1
  show Pre (k (r s).1 (r s).2).2.1 (k (r t).1 (r t).2).2.1 ∧ _
  rcases p2 with hf | he
  · have : (k (r s).1 (r s).2).2.1.f = true := (hk _).1 _ hf
    exact ⟨.inl this, .inl this⟩
  · have := (hk (r t).1).2 _ _ p1 ht
    rw [← he] at this
    refine ⟨by rw [← he]; exact this.1, ?_⟩
    rcases this.2 with h | h
    · exact .inl h
    · exact .inr (by show (k (r s).1 (r s).2).1 = (k (r t).1 (r t).2).1; rw [← he]; exact h)
theorem PreW.go {α : Type} {one : RwM α} (h : PreW one) : ∀ (n : Nat) (acc : List α), PreW (lsGo one n acc)
  | 0, acc => PreW.ret acc
  | n + 1, acc => by
    have hb : PreW (RwM.bind one fun x => lsGo one n (acc ++ [x])) := h.bind fun x => PreW.go h n _
    refine ⟨fun s hs => by rw [lsGo_f _ _ _ _ hs]; exact hs, fun s t hp ht => ?_⟩
    have htf : ¬ t.1.f = true := fun hf => by rw [lsGo_f _ _ _ _ hf] at ht; rw [hf] at ht; cases ht
    by_cases hs : s.1.f = true
    · rw [lsGo_f _ _ _ s hs]
      exact ⟨.inl hs, .inl hs⟩
    · rw [lsGo_succ, if_neg htf] at ht
      rw [lsGo_succ, lsGo_succ, if_neg hs, if_neg htf]
      exact hb.2 s t hp ht
theorem PreW.cnt : PreW cntM := ⟨fun s hs => pre_int.1 s.1 hs, fun s t hp ht => pre_int.2 s.1 t.1 hp ht⟩
theorem PreW.ls {α : Type} {one : RwM α} (h : PreW one) : PreW (lsM one) := PreW.cnt.bind fun _ => h.go _ _
theorem preW_rw : PreW rwM := (PreW.lift pre_text).bind fun _ => (PreW.lift pre_text).bind fun _ => .ret _
theorem preW_msg : PreW msgM := PreW.lift pre_msg
theorem lsGo_app {α : Type} {one : RwM α} {enc : α → List UInt8} : ∀ (l : List α), (∀ x ∈ l, ∀ r w, one (⟨enc x ++ r, false⟩, w) = (x, (⟨r, false⟩, w))) → ∀ acc r w, lsGo one l.length acc (⟨l.flatMap enc ++ r, false⟩, w) = (acc ++ l, (⟨r, false⟩, w))
  | [], _, acc, r, w => by simp [lsGo_zero]
  | x :: l, h, acc, r, w => by
    have q : (x :: l).flatMap enc ++ r = enc x ++ (l.flatMap enc ++ r) := by simp
    rw [q, List.length_cons, lsGo_succ, if_neg (by simp), h x List.mem_cons_self]
    have := lsGo_app l (fun y hy => h y (List.mem_cons_of_mem _ hy)) (acc ++ [x]) r w
    rw [this]
    simp
theorem lsM_app {α : Type} {one : RwM α} {enc : α → List UInt8} (l : List α) (hl : (l.length : Int) ≤ 9223372036854775807) (h : ∀ x ∈ l, ∀ r w, one (⟨enc x ++ r, false⟩, w) = (x, (⟨r, false⟩, w))) (r : List UInt8) (w : Bool) : lsM one (⟨wInt l.length ++ (l.flatMap enc ++ r), false⟩, w) = (l, (⟨r, false⟩, w)) := by
  rw [lsM_eq]
  dsimp only
  rw [Rd.int_app tO hl]
  dsimp only
  rw [Int.toNat_natCast, show decide ((l.length : Int) < 0) = false from decide_eq_false tO, Bool.or_false, lsGo_app l h]
  rfl
theorem rwM_app (x : Rw) (h1 : x.key.size ≤ 65535) (h2 : x.value.size ≤ 65535) (r : List UInt8) (w : Bool) : rwM (⟨x.bytes ++ r, false⟩, w) = (x, (⟨r, false⟩, w)) := by
  unfold rwM Rw.bytes RwM.bind RdM.lift RwM.ret
  rw [List.append_assoc]
  simp only [Rd.text_app' _ h1, Rd.text_app' _ h2]
theorem msgM_app (x : Msg) (hs : x.sm) (h1 : x.corr.size ≤ 65535) (h2 : x.body.size ≤ 65535) (r : List UInt8) (w : Bool) : msgM (⟨x.bytes ++ r, false⟩, w) = (x, (⟨r, false⟩, w)) := by
  obtain ⟨a, b, c, d, e⟩ := hs
  have := Rd.msg_appC x ⟨a, b, c, trivial, by omega, by omega⟩ r
  have e : x.tcut = x := by rw [msg_ext]; exact ⟨rfl, rfl, rfl, rfl, tcut_eq h1, tcut_eq h2⟩
  unfold msgM RdM.lift
  simp only [this, e]
theorem mright_small {m : Msg} (h : m.right = true) : m.corr.size ≤ 100 ∧ m.body.size ≤ 100 := by
  simp [Msg.right] at h; omega
theorem rright_small {r : Rw} (h : r.right = true) : r.key.size ≤ 100 ∧ r.value.size ≤ 100 := by
  simp [Rw.right, rwKey] at h; omega
theorem ob_small {o : Ob} (h : o.right = true) : o.name.size ≤ 100 ∧ (∀ r ∈ o.rows, r.key.size ≤ 100 ∧ r.value.size ≤ 100) ∧ (∀ m ∈ o.msgs, m.corr.size ≤ 100 ∧ m.body.size ≤ 100) ∧ (∀ m ∈ o.dead, m.corr.size ≤ 100 ∧ m.body.size ≤ 100) := by
  unfold Ob.right at h
  by_cases hk : o.kind = 1
  · rw [if_pos hk] at h
    simp only [Bool.and_eq_true, decide_eq_true_eq, List.all_eq_true] at h
    obtain ⟨⟨a, b⟩, ⟨⟨c, d⟩, e⟩, f⟩ := h
    have hm : o.msgs = [] := List.length_eq_zero_iff.1 tO
    have hd : o.dead = [] := List.length_eq_zero_iff.1 tO
    have := effName_size a
    exact ⟨by omega, fun r hr => rright_small (f r hr), by simp [hm], by simp [hd]⟩
  · rw [if_neg hk] at h
    simp only [Bool.and_eq_true, decide_eq_true_eq, List.all_eq_true] at h
    obtain ⟨⟨a, b⟩, ⟨⟨c, d⟩, e⟩, f⟩ := h
    have hr : o.rows = [] := List.length_eq_zero_iff.1 tO
    have := effName_size a
    exact ⟨by omega, by simp [hr], fun m hm => mright_small (e m hm), fun m hm => mright_small (f m hm).2⟩
theorem objM_app (o : Ob) (hr : o.right = true) (hs : o.sm) (r : List UInt8) (w : Bool) : objM (⟨o.bytes ++ r, false⟩, w) = (o, (⟨r, false⟩, w)) := by
  obtain ⟨s1, s2, s3, s4⟩ := ob_small hr
  obtain ⟨_, t2, t3, t4, t5, t6, t7, t8, t9⟩ := hs
  have e : o.bytes ++ r = wText o.name ++ (wInt o.kind ++ (wInt o.limit ++ (wInt o.rows.length ++ (o.rows.flatMap Rw.bytes ++ (wInt o.msgs.length ++ (o.msgs.flatMap Msg.bytes ++ (wInt o.dead.length ++ (o.dead.flatMap Msg.bytes ++ r)))))))) := by
    simp [Ob.bytes, msgsBytes]
  have hR : ∀ x ∈ o.rows, ∀ r w, rwM (⟨x.bytes ++ r, false⟩, w) = (x, (⟨r, false⟩, w)) := fun x hx r w => rwM_app x (by have := (s2 x hx).1; omega) (by have := (s2 x hx).2; omega) r w
  have hM : ∀ x ∈ o.msgs, ∀ r w, msgM (⟨x.bytes ++ r, false⟩, w) = (x, (⟨r, false⟩, w)) := fun x hx r w => msgM_app x (t5 x hx) (by have := (s3 x hx).1; omega) (by have := (s3 x hx).2; omega) r w
  have hD : ∀ x ∈ o.dead, ∀ r w, msgM (⟨x.bytes ++ r, false⟩, w) = (x, (⟨r, false⟩, w)) := fun x hx r w => msgM_app x (t6 x hx) (by have := (s4 x hx).1; omega) (by have := (s4 x hx).2; omega) r w
  rw [e]
  unfold objM RwM.bind RdM.lift RwM.ret
  simp only [Rd.text_app' _ (show o.name.size ≤ 65535 by omega), Rd.int_app t2.1 t2.2, Rd.int_app t3.1 t3.2, lsM_app _ tO hR, lsM_app _ tO hM, lsM_app _ tO hD]
theorem stt_obs {s : Stt} (h : s.right = true) : ∀ o ∈ s.objs, o.right = true := by
  unfold Stt.right at h
  simp only [Bool.and_eq_true, List.all_eq_true] at h
  exact fun o ho => h.1.1.2 o ho
theorem imgRead_bytes {s : Stt} (h : s.right = true) (hn : -9223372036854775808 ≤ s.next ∧ s.next ≤ 9223372036854775807) (hl : (s.objs.length : Int) ≤ 9223372036854775807) (hs : ∀ o ∈ s.objs, o.sm) (r : List UInt8) : imgRead (s.bytes ++ r) = if r = [] then some s else none := by
  have e : s.bytes ++ r = wInt s.next ++ (wInt s.objs.length ++ (s.objs.flatMap Ob.bytes ++ r)) := by simp [Stt.bytes]
  have hM : sttM (⟨s.bytes ++ r, false⟩, false) = (s, (⟨r, false⟩, false)) := by
    rw [e]
    unfold sttM RwM.bind RdM.lift RwM.ret
    simp only [Rd.int_app hn.1 hn.2, lsM_app _ hl (fun o ho r w => objM_app o (stt_obs h o ho) (hs o ho) r w)]
  unfold imgRead
  rw [hM]
  dsimp only
  rw [h]
  cases r with
  | nil => simp [Rd.done]
  | cons c r => simp [Rd.done]
theorem flatSum_le {α : Type} {f : α → List UInt8} {g : α → Nat} : ∀ (l : List α), (∀ x ∈ l, (f x).length ≤ g x) → (l.flatMap f).length ≤ (l.map g).sum
  | [], _ => by simp
  | x :: l, h => by
    have h1 := h x List.mem_cons_self
    have h2 := flatSum_le l (fun y hy => h y (List.mem_cons_of_mem _ hy))
    simp only [List.flatMap_cons, List.length_append, List.map_cons, List.sum_cons]
    omega
theorem bytes_le_size (s : Stt) : s.bytes.length ≤ s.size := by
  have h0 : ∀ l : List Msg, (msgsBytes l).length ≤ 8 + (l.map Msg.wt).sum := fun l => by
    have := flatSum_le (f := Msg.bytes) (g := Msg.wt) l (fun m _ => by
      unfold Msg.bytes Msg.wt
      simp only [List.length_append, wInt_length, wText_length, wFlag_length]
      omega)
    unfold msgsBytes
    rw [List.length_append, wInt_length]; omega
  have h1 : ∀ o : Ob, o.bytes.length ≤ o.size := fun o => by
    have a := flatSum_le (f := Rw.bytes) (g := Rw.size) o.rows (fun m _ => by
      unfold Rw.bytes Rw.size
      simp only [List.length_append, wText_length]
      omega)
    have b := h0 o.msgs
    have c := h0 o.dead
    unfold Ob.bytes Ob.size
    simp only [List.length_append, wInt_length, wText_length]
    omega
  have := flatSum_le (f := Ob.bytes) (g := Ob.size) s.objs (fun o _ => h1 o)
  unfold Stt.bytes Stt.size
  simp only [List.length_append, wInt_length]
  omega
theorem Rd.take_le (s : Rd) (n : Nat) : (s.take n).2.bs.length ≤ s.bs.length := by
  unfold Rd.take
  split
  · exact Nat.le_refl _
  · split
    · exact Nat.zero_le _
    · simp
theorem Rd.take_lt (s : Rd) (n : Nat) : (s.take n).2.f = true ∨ (s.take n).2.bs.length + n ≤ s.bs.length := by
  unfold Rd.take
  split
  · exact .inl (by assumption)
  · split
    · exact .inl rfl
    · rename_i h
      right
      simp; omega
theorem Rd.int_snd (s : Rd) : s.int.2 = (s.take 8).2 := s.num_snd 8
def Down {α : Type} (r : RwM α) : Prop := ∀ s, (r s).2.1.bs.length ≤ s.1.bs.length
def Prog {α : Type} (r : RwM α) : Prop := Down r ∧ ∀ s, (r s).2.1.f = true ∨ (r s).2.1.bs.length < s.1.bs.length
theorem Down.ret {α : Type} (a : α) : Down (RwM.ret a) := fun _ => Nat.le_refl _
theorem Down.bind {α β : Type} {r : RwM α} {k : α → RwM β} (h : Down r) (hk : ∀ a, Down (k a)) : Down (RwM.bind r k) := fun s => Nat.le_trans (hk _ _) (h s)
theorem Prog.bind {α β : Type} {r : RwM α} {k : α → RwM β} (h : Prog r) (hk : ∀ a, Down (k a)) (hp : ∀ a, PreW (k a)) : Prog (RwM.bind r k) := by
  refine ⟨h.1.bind hk, fun s => ?_⟩
  rcases h.2 s with hf | hl
  · exact .inl ((hp _).1 _ hf)
  · exact .inr (Nat.lt_of_le_of_lt (hk _ _) hl)
theorem prog_int : Prog (RdM.lift Rd.int) := ⟨fun s => by show s.1.int.2.bs.length ≤ _; rw [Rd.int_snd]; exact s.1.take_le 8, fun s => by
  show s.1.int.2.f = true ∨ s.1.int.2.bs.length < _
  rw [Rd.int_snd]; exact (s.1.take_lt 8).imp id (fun h => by omega)⟩
theorem Rd.text_len (s : Rd) : s.text.2.bs.length ≤ s.bs.length := by
  rw [Rd.text_snd]
  exact Nat.le_trans (Rd.take_le _ _) (by rw [Rd.num_snd]; exact s.take_le 2)
theorem prog_text : Prog (RdM.lift Rd.text) := ⟨fun s => s.1.text_len, fun s => by
  show s.1.text.2.f = true ∨ s.1.text.2.bs.length < _
  rw [Rd.text_snd]
  rcases s.1.take_lt 2 with hf | hl
  · rw [← Rd.num_snd] at hf
    exact .inl (Rd.take_f hf _)
  · rw [← Rd.num_snd] at hl
    exact .inr (by have := Rd.take_le (s.1.num 2).2 (s.1.num 2).1.toNat; omega)⟩
theorem down_flag : Down (RdM.lift Rd.flag) := fun s => by
  show s.1.flag.2.bs.length ≤ _
  have h := s.1.take_le 1
  unfold Rd.flag
  split
  · rename_i b s' e
    rw [e] at h
    split
    · exact Nat.zero_le _
    · exact h
  · rename_i e1 s' e2 e
    rw [e] at h
    exact h
theorem Prog.ls {α : Type} {one : RwM α} (h : Down one) : Down (lsM one) := by
  have go : ∀ (n : Nat) (acc : List α), Down (lsGo one n acc) := fun n => by
    induction n with
    | zero => exact fun acc => Down.ret acc
    | succ n ih =>
      intro acc s
      rw [lsGo_succ]
      split
      · exact Nat.le_refl _
      · exact Nat.le_trans (ih _ _) (h s)
  have hc : Down cntM := fun s => prog_int.1 s
  exact hc.bind fun _ => go _ _
theorem prog_rw : Prog rwM := prog_text.bind (fun _ => prog_text.1.bind fun _ => .ret _) (fun _ => (PreW.lift pre_text).bind fun _ => .ret _)
theorem prog_msg : Prog msgM := by
  have e : (RdM.lift Rd.msgT : RwM Msg) = RwM.bind (RdM.lift Rd.int) fun a => RwM.bind (RdM.lift Rd.int) fun b => RwM.bind (RdM.lift Rd.int) fun c => RwM.bind (RdM.lift Rd.flag) fun d => RwM.bind (RdM.lift Rd.text) fun e => RwM.bind (RdM.lift Rd.text) fun f => RwM.ret ⟨a, b, c, d, e, f⟩ := rfl
  have h : Prog (RdM.lift Rd.msgT : RwM Msg) := by
    rw [e]
    exact prog_int.bind (fun _ => prog_int.1.bind fun _ => prog_int.1.bind fun _ => down_flag.bind fun _ => prog_text.1.bind fun _ => prog_text.1.bind fun _ => .ret _)
      (fun _ => (PreW.lift pre_int).bind fun _ => (PreW.lift pre_int).bind fun _ => (PreW.lift pre_flag).bind fun _ => (PreW.lift pre_text).bind fun _ => (PreW.lift pre_text).bind fun _ => .ret _)
  have hs : ∀ s : RdW, (msgM s).2.1 = ((RdM.lift Rd.msgT : RwM Msg) s).2.1 := fun s => s.1.msg_snd
  exact ⟨fun s => by rw [hs]; exact h.1 s, fun s => by rw [hs]; exact h.2 s⟩
theorem prog_obj : Prog objM := prog_text.bind (fun _ => prog_int.1.bind fun _ => prog_int.1.bind fun _ => (Prog.ls prog_rw.1).bind fun _ => (Prog.ls prog_msg.1).bind fun _ => (Prog.ls prog_msg.1).bind fun _ => .ret _)
  (fun _ => (PreW.lift pre_int).bind fun _ => (PreW.lift pre_int).bind fun _ => preW_rw.ls.bind fun _ => preW_msg.ls.bind fun _ => preW_msg.ls.bind fun _ => .ret _)
def Gs {α : Type} (P : α → Prop) (N : Nat) (acc : List α) (s : RdW) : Prop := acc.length + s.1.bs.length ≤ N + (if s.1.f = true then 1 else 0) ∧ ∀ x ∈ acc, P x
theorem Gs.step {α : Type} {P : α → Prop} {N : Nat} {one : RwM α} (hp : Prog one) (hP : ∀ s : RdW, s.1.bs.length ≤ N → P (one s).1) {acc : List α} {s : RdW} (hf : s.1.f = false) (h : Gs P N acc s) : Gs P N (acc ++ [(one s).1]) (one s).2 := by
  obtain ⟨h1, h2⟩ := h
  rw [hf, if_neg (by simp)] at h1
  refine ⟨?_, fun x hx => ?_⟩
  · rw [List.length_append]
    have hd := hp.1 s
    rcases hp.2 s with he | hl
    · rw [if_pos he]
      show acc.length + 1 + _ ≤ _
      omega
    · show acc.length + 1 + _ ≤ _
      omega
  · rcases List.mem_append.1 hx with h | h
    · exact h2 x h
    · rw [List.mem_singleton.1 h]
      exact hP s tO
theorem Gs.nil {α : Type} {P : α → Prop} {N : Nat} {s : RdW} (h : s.1.bs.length ≤ N) : Gs P N [] (s.1.int.2, s.2 || decide (s.1.int.1 < 0)) := by
  refine ⟨?_, fun x hx => by cases hx⟩
  have := prog_int.1 s
  have h2 : s.1.int.2.bs.length ≤ s.1.bs.length := this
  show 0 + s.1.int.2.bs.length ≤ _
  omega
theorem Gs.go {α : Type} {P : α → Prop} {N : Nat} {one : RwM α} (hp : Prog one) (hP : ∀ s : RdW, s.1.bs.length ≤ N → P (one s).1) : ∀ (n : Nat) (acc : List α) (s : RdW), Gs P N acc s → Gs P N (lsGo one n acc s).1 (lsGo one n acc s).2
  | 0, _, _, h => h
  | n + 1, acc, s, h => by
    rw [lsGo_succ]
    split
    · exact h
    · exact Gs.go hp hP n _ _ (h.step hp hP (by simpa using ‹¬ s.1.f = true›))
theorem Gs.ls {α : Type} {P : α → Prop} {N : Nat} {one : RwM α} (hp : Prog one) (hP : ∀ s : RdW, s.1.bs.length ≤ N → P (one s).1) (s : RdW) (h : s.1.bs.length ≤ N) : Gs P N (lsM one s).1 (lsM one s).2 := Gs.go hp hP _ _ _ (Gs.nil h)
theorem Rd.int_rng (s : Rd) : -9223372036854775808 ≤ s.int.1 ∧ s.int.1 ≤ 9223372036854775807 := by
  show _ ≤ i64 _ ∧ i64 _ ≤ _
  unfold i64; omega
theorem Rd.text_size (s : Rd) : s.text.1.size ≤ 65535 := by
  have h := s.num_lt 2
  have h0 := s.num_ge 2
  unfold Rd.text
  split
  · exact Nat.zero_le _
  · rename_i l s' e
    have hl : l.length ≤ (s.num 2).1.toNat := by
      unfold Rd.take at e
      split at e
      · cases e
      · split at e
        · cases e
        · rw [← Option.some.inj (Prod.mk.inj e).1, List.length_take]; omega
    show l.toArray.size ≤ _
    rw [List.size_toArray]
    omega
theorem rwM_sm (s : RdW) : (rwM s).1.sm := by
  have a := s.1.text_size
  have b := s.1.text.2.text_size
  show s.1.text.1.size ≤ _ ∧ s.1.text.2.text.1.size ≤ _
  omega
theorem Rd.msgT_sm (s : Rd) : s.msgT.1.sm := by
  unfold Rd.msgT
  exact ⟨Rd.int_rng _, Rd.int_rng _, Rd.int_rng _, Nat.le_trans (Rd.text_size _) tO, Nat.le_trans (Rd.text_size _) tO⟩
theorem msgM_sm (s : RdW) : (msgM s).1.sm := by
  show s.1.msg.1.sm
  unfold Rd.msg
  split
  · have h : Msg.zero.sm := ⟨by decide, by decide, by decide, by decide, by decide⟩
    exact h
  · exact s.1.msgT_sm
theorem objM_sm (s : RdW) (h : s.1.bs.length ≤ 10000000000) : (objM s).1.sm ∧ (objM s).1.rows.length ≤ 10000000001 ∧ (objM s).1.msgs.length ≤ 10000000001 ∧ (objM s).1.dead.length ≤ 10000000001 := by
  have e : ∃ s0 : RdW, s0 = (s.1.text.2.int.2.int.2, s.2) := ⟨_, rfl⟩
  obtain ⟨s0, hs0⟩ := e
  have l0 : s0.1.bs.length ≤ 10000000000 := by
    rw [hs0]
    have a := s.1.text_len
    have b := prog_int.1 (s.1.text.2, s.2)
    have c := prog_int.1 (s.1.text.2.int.2, s.2)
    exact Nat.le_trans c (Nat.le_trans b (Nat.le_trans a h))
  have e : objM s = (⟨s.1.text.1, s.1.text.2.int.1, s.1.text.2.int.2.int.1, (lsM rwM s0).1, (lsM msgM (lsM rwM s0).2).1, (lsM msgM (lsM msgM (lsM rwM s0).2).2).1⟩, (lsM msgM (lsM msgM (lsM rwM s0).2).2).2) := by rw [hs0]; rfl
  have g1 := Gs.ls (P := Rw.sm) (N := 10000000000) prog_rw (fun s _ => rwM_sm s) s0 l0
  have l1 := Nat.le_trans (Prog.ls prog_rw.1 s0) l0
  have g2 := Gs.ls (P := Msg.sm) (N := 10000000000) prog_msg (fun s _ => msgM_sm s) _ l1
  have l2 := Nat.le_trans (Prog.ls prog_msg.1 (lsM rwM s0).2) l1
  have g3 := Gs.ls (P := Msg.sm) (N := 10000000000) prog_msg (fun s _ => msgM_sm s) _ l2
  have k : ∀ {α : Type} {P : α → Prop} {l : List α} {s : RdW}, Gs P 10000000000 l s → l.length ≤ 10000000001 := fun {α P l s} h => by
    have := h.1
    split at this <;> omega
  have k1 := k g1; have k2 := k g2; have k3 := k g3
  rw [e]
  exact ⟨⟨Nat.le_trans (Rd.text_size _) tO, Rd.int_rng _, Rd.int_rng _, g1.2, g2.2, g3.2, by show (lsM rwM s0).1.length ≤ _; omega, by show (lsM msgM _).1.length ≤ _; omega, by show (lsM msgM _).1.length ≤ _; omega⟩, k1, k2, k3⟩
end Go.Proofs.YtkbhldicnamcdaaGreat.L
namespace Go.Proofs.YtkbhldicnamcdaaGreat.L
open Go Go.Proofs
set_option linter.unusedSimpArgs false
set_option linter.unusedVariables false
theorem adj_pair {α : Type} {f : α → α → Bool} (ht : ∀ a b c, f a b = true → f b c = true → f a c = true) : ∀ {l : List α}, adj f l = true → l.Pairwise (fun a b => f a b = true)
  | [], _ => List.Pairwise.nil
  | [a], _ => List.pairwise_singleton _ _
  | a :: b :: l, h => by
    simp only [adj, Bool.and_eq_true] at h
    have ih := adj_pair ht h.2
    refine List.pairwise_cons.2 ⟨fun x hx => ?_, ih⟩
    rcases List.mem_cons.1 hx with rfl | hx
    · exact h.1
    · exact ht a b x h.1 ((List.pairwise_cons.1 ih).1 x hx)
structure SR (s : Stt) : Prop where
  obj : ∀ o ∈ s.objs, o.right = true
  names : s.objs.Pairwise (fun a b => cmpB a.name b.name < 0)
  ids : s.ids.Nodup
  len : s.objs.length ≤ 20
  nx : 1 ≤ s.next ∧ s.next ≤ 1099511627776
  lt : ∀ n ∈ s.ids, n < s.next
theorem right_SR {s : Stt} (h : s.right = true) : SR s := by
  unfold Stt.right Stt.once at h
  simp only [Bool.and_eq_true, decide_eq_true_eq, List.all_eq_true] at h
  obtain ⟨⟨⟨⟨⟨h1, h2⟩, h3⟩, h4⟩, h5⟩, h6, h7⟩ := h
  refine ⟨h4, ?_, h6, by omega, ⟨h1, h2⟩, fun n hn => h7 n hn⟩
  exact (adj_pair (f := fun a b : Ob => decide (cmpB a.name b.name < 0)) (fun a b c h1 h2 => decide_eq_true (cmpB_trans (of_decide_eq_true h1) (of_decide_eq_true h2))) h5).imp fun h => of_decide_eq_true h
def freed (lim : Int) (l : List Msg) : List Msg := l.filterMap (fun m => if m.claimed = true then (if lim ≤ m.tried.retry then none else some m.tried) else some m)
def gone (lim : Int) (l : List Msg) : List Msg := l.filterMap (fun m => if m.claimed = true ∧ lim ≤ m.tried.retry then some m.tried else none)
def freedO (o : Ob) : Ob := { o with msgs := freed o.limit o.msgs, dead := o.dead ++ gone o.limit o.msgs }
theorem freed_app (lim : Int) (a b : List Msg) : freed lim (a ++ b) = freed lim a ++ freed lim b := List.filterMap_append
theorem gone_app (lim : Int) (a b : List Msg) : gone lim (a ++ b) = gone lim a ++ gone lim b := List.filterMap_append
theorem freed_sub (lim : Int) : ∀ l : List Msg, ((freed lim l).map (·.id)).Sublist (l.map (·.id))
  | [] => List.Sublist.slnil
  | m :: l => by
    have ih := freed_sub lim l
    unfold freed at ih ⊢
    rw [List.filterMap_cons]
    by_cases hc : m.claimed = true
    · rw [if_pos hc]
      by_cases hl : lim ≤ m.tried.retry
      · rw [if_pos hl]; exact List.Sublist.cons _ ih
      · rw [if_neg hl]; exact List.Sublist.cons_cons _ ih
    · rw [if_neg hc]; exact List.Sublist.cons_cons _ ih
theorem freed_len (lim : Int) : ∀ l : List Msg, (freed lim l).length + (gone lim l).length = l.length
  | [] => rfl
  | m :: l => by
    have ih := freed_len lim l
    unfold freed gone at ih ⊢
    rw [List.filterMap_cons, List.filterMap_cons]
    by_cases hc : m.claimed = true
    · rw [if_pos hc]
      by_cases hl : lim ≤ m.tried.retry
      · rw [if_pos hl, if_pos ⟨hc, hl⟩]; simp only [List.length_cons]; omega
      · rw [if_neg hl, if_neg (fun h => hl h.2)]; simp only [List.length_cons]; omega
    · rw [if_neg hc, if_neg (fun h => hc h.1)]; simp only [List.length_cons]; omega
theorem find_at {l r : List Msg} {m : Msg} (h : m.id ∉ l.map (·.id)) : findM (l ++ m :: r) m.id = (l.length : Int) := by
  unfold findM
  refine idxP_some (x := m) (by rw [List.getElem?_append_right (Nat.le_refl _), Nat.sub_self]; rfl) (decide_eq_true rfl) (List.any_eq_false.2 fun x hx => ?_)
  rw [List.take_left' rfl] at hx
  intro he
  exact h (List.mem_map.2 ⟨x, hx, of_decide_eq_true he⟩)
def claimE (name : ByteArray) (id : Int) : Eff := ⟨7, name, ⟨#[]⟩, ⟨#[]⟩, id, 0, true, ⟨0, 0, 0, false, ⟨#[]⟩, ⟨#[]⟩⟩⟩
theorem claimE_right {name : ByteArray} {id : Int} (h1 : effName name = true) (h2 : effId id = true) : (claimE name id).right = true := by
  have hn : claimE name id = (claimE name id).named := rfl
  have hk : (claimE name id).rightK = (effName name && effId id) := rfl
  unfold Eff.right
  rw [← hn, decide_eq_true rfl, hk, h1, h2]
  rfl
theorem free_step {o : Ob} {p l : List Msg} {m : Msg} (hp : o.msgs = p ++ m :: l) (hn : (o.msgs.map (·.id)).Nodup) (hc : m.claimed = true) :
    freeO { o with msgs := freed o.limit p ++ m :: l, dead := o.dead ++ gone o.limit p } m.id true = ({ o with msgs := freed o.limit (p ++ [m]) ++ l, dead := o.dead ++ gone o.limit (p ++ [m]) }, true) := by
  have hni : m.id ∉ (freed o.limit p).map (·.id) := by
    intro h
    have h1 := (freed_sub o.limit p).subset h
    rw [hp, List.map_append, List.map_cons, List.nodup_append] at hn
    exact hn.2.2 m.id h1 m.id List.mem_cons_self rfl
  have hf := find_at (r := l) hni
  have hg : (freed o.limit p ++ m :: l).getD (findM (freed o.limit p ++ m :: l) m.id).toNat ⟨0, 0, 0, false, ⟨#[]⟩, ⟨#[]⟩⟩ = m := by
    rw [hf, Int.toNat_natCast]
    exact gd_at (by rw [List.getElem?_append_right (Nat.le_refl _), Nat.sub_self]; rfl)
  unfold freeO
  dsimp only
  rw [if_neg (by rw [hf]; omega), hg, if_neg (by rw [hc]; decide), if_neg tD]
  rw [freed_app, gone_app]
  by_cases hl : o.limit ≤ m.tried.retry
  · rw [if_pos hl, hf, Int.toNat_natCast]
    have e1 : freed o.limit [m] = [] := by unfold freed; rw [List.filterMap_cons, if_pos hc, if_pos hl]; rfl
    have e2 : gone o.limit [m] = [m.tried] := by unfold gone; rw [List.filterMap_cons, if_pos ⟨hc, hl⟩]; rfl
    rw [e1, e2, List.append_nil, List.eraseIdx_append_of_length_le (Nat.le_refl _), Nat.sub_self, List.append_assoc]
    rfl
  · rw [if_neg hl, hf, Int.toNat_natCast]
    have e1 : freed o.limit [m] = [m.tried] := by unfold freed; rw [List.filterMap_cons, if_pos hc, if_neg hl]; rfl
    have e2 : gone o.limit [m] = [] := by unfold gone; rw [List.filterMap_cons, if_neg (fun h => hl h.2)]; rfl
    rw [e1, e2, List.append_nil, List.set_append_right _ _ (Nat.le_refl _), Nat.sub_self, List.append_assoc]
    rfl
theorem freed_skip {o : Ob} {p l : List Msg} {m : Msg} (hc : ¬ m.claimed = true) : freed o.limit p ++ m :: l = freed o.limit (p ++ [m]) ++ l ∧ gone o.limit p = gone o.limit (p ++ [m]) := by
  have e1 : freed o.limit [m] = [m] := by unfold freed; rw [List.filterMap_cons, if_neg hc]; rfl
  have e2 : gone o.limit [m] = [] := by unfold gone; rw [List.filterMap_cons, if_neg (fun h => hc h.1)]; rfl
  rw [freed_app, gone_app, e1, e2, List.append_nil, List.append_assoc]
  exact ⟨rfl, rfl⟩
def clE (name : ByteArray) (l : List Msg) : List Eff := (l.filter (·.claimed)).map (fun m => claimE name m.id)
theorem claims_obj {s : Stt} {i : Nat} {o : Ob} (hi : i < s.objs.length) (hno : (s.objs.take i).any (fun x => decide (x.name = o.name)) = false) (hk : ¬ o.kind = 1) (hname : effName o.name = true) (hids : ∀ m ∈ o.msgs, effId m.id = true) (hn : (o.msgs.map (·.id)).Nodup) :
    ∀ (l p : List Msg), o.msgs = p ++ l → doAll ⟨s.next, s.objs.set i { o with msgs := freed o.limit p ++ l, dead := o.dead ++ gone o.limit p }⟩ (clE o.name l) = (⟨s.next, s.objs.set i (freedO o)⟩, 0)
  | [], p, hp => by
    have : o.msgs = p := by rw [hp, List.append_nil]
    unfold freedO
    rw [this, List.append_nil]
    rfl
  | m :: l, p, hp => by
    have ih := claims_obj hi hno hk hname hids hn l (p ++ [m]) (by rw [hp]; simp)
    by_cases hc : m.claimed = true
    · have hcl : clE o.name (m :: l) = claimE o.name m.id :: clE o.name l := by unfold clE; rw [List.filter_cons, if_pos hc]; rfl
      rw [hcl]
      obtain ⟨o', ho'⟩ : ∃ o' : Ob, o' = { o with msgs := freed o.limit p ++ m :: l, dead := o.dead ++ gone o.limit p } := ⟨_, rfl⟩
      have hfs := free_step hp hn hc
      rw [← ho'] at hfs ⊢
      have hk7 : (claimE o.name m.id).kind = 7 := rfl
      have hfo : findO ⟨s.next, s.objs.set i o'⟩ (claimE o.name m.id).object = (i : Int) := by
        show findO _ o.name = _
        unfold findO
        refine idxP_some (x := o') (by show (s.objs.set i o')[i]? = _; rw [List.getElem?_set_self hi]) (decide_eq_true (by rw [ho'])) ?_
        show ((s.objs.set i o').take i).any _ = false
        rw [List.take_set_of_le (Nat.le_refl i)]
        exact hno
      have hgd : (⟨s.next, s.objs.set i o'⟩ : Stt).objs.getD (findO ⟨s.next, s.objs.set i o'⟩ (claimE o.name m.id).object).toNat Ob.zero = o' := by rw [hfo, Int.toNat_natCast]; exact gd_at (List.getElem?_set_self hi)
      have hok : o'.kind = o.kind := by rw [ho']
      have hq : queueO ⟨s.next, s.objs.set i o'⟩ o' (claimE o.name m.id) = ({ o with msgs := freed o.limit (p ++ [m]) ++ l, dead := o.dead ++ gone o.limit (p ++ [m]) }, 0) := by
        unfold queueO
        rw [hk7, if_neg tD, if_neg tD, if_neg tD, if_pos rfl, show (claimE o.name m.id).n = m.id from rfl, show (claimE o.name m.id).tried = true from rfl, hfs]
        rfl
      have hdo : doS ⟨s.next, s.objs.set i o'⟩ (claimE o.name m.id) = (⟨s.next, s.objs.set i { o with msgs := freed o.limit (p ++ [m]) ++ l, dead := o.dead ++ gone o.limit (p ++ [m]) }⟩, 0) := by
        unfold doS
        rw [if_neg (by rw [claimE_right hname (hids m (by rw [hp]; simp))]; decide), hk7, if_neg tD, if_neg tD, if_neg (by rw [hfo]; omega), hgd, if_neg (by rw [hok, decide_eq_false hk]; decide), if_neg tD, hq, hfo, Int.toNat_natCast]
        show ((⟨s.next, (s.objs.set i o').set i _⟩ : Stt), (0 : Int)) = _
        rw [List.set_set]
      rw [doAll, if_pos (by rw [hdo]), hdo]
      exact ih
    · have hcl : clE o.name (m :: l) = clE o.name l := by unfold clE; rw [List.filter_cons, if_neg hc]
      obtain ⟨e1, e2⟩ := freed_skip (o := o) (p := p) (l := l) hc
      rw [hcl, e1, e2]
      exact ih
theorem doAll_app : ∀ {a b : List Eff} {s t : Stt}, doAll s a = (t, 0) → doAll s (a ++ b) = doAll t b
  | [], b, s, t, h => by
    have : s = t := congrArg Prod.fst h
    subst this
    rfl
  | e :: a, b, s, t, h => by
    rw [List.cons_append]
    rw [doAll] at h ⊢
    by_cases hd : (doS s e).2 = 0
    · rw [if_pos hd] at h ⊢
      exact doAll_app h
    · rw [if_neg hd] at h
      exact absurd (congrArg Prod.snd h) hd
theorem claimsO_cl (o : Ob) : claimsO o = clE o.name o.msgs := rfl
theorem SR.ids_obj {s : Stt} (h : SR s) {o : Ob} (ho : o ∈ s.objs) : o.ids.Nodup := by
  obtain ⟨a, b, e⟩ := List.append_of_mem ho
  have hi := h.ids
  unfold Stt.ids at hi
  rw [e, List.flatMap_append, List.flatMap_cons, List.nodup_append, List.nodup_append] at hi
  exact hi.2.1.1
theorem right_ob {o : Ob} (h : o.right = true) : effName o.name = true ∧ (o.kind = 1 → o.msgs = [] ∧ o.dead = []) ∧ (¬ o.kind = 1 → ∀ m ∈ o.msgs, m.right = true) := by
  unfold Ob.right at h
  rw [Bool.and_eq_true, Bool.and_eq_true] at h
  refine ⟨h.1.1, fun hk => ?_, fun hk => ?_⟩
  · have := h.2
    rw [if_pos hk] at this
    simp only [Bool.and_eq_true, decide_eq_true_eq] at this
    exact ⟨List.length_eq_zero_iff.1 tO, List.length_eq_zero_iff.1 tO⟩
  · have := h.2
    rw [if_neg hk] at this
    simp only [Bool.and_eq_true, decide_eq_true_eq, List.all_eq_true] at this
    exact this.1.2
theorem claims_all {s : Stt} (h : SR s) : ∀ (l p : List Ob), s.objs = p ++ l → doAll ⟨s.next, p.map freedO ++ l⟩ (l.flatMap claimsO) = (⟨s.next, s.objs.map freedO⟩, 0)
  | [], p, hp => by
    have : s.objs = p := by rw [hp, List.append_nil]
    rw [this, List.append_nil]
    rfl
  | o :: l, p, hp => by
    have ih := claims_all h l (p ++ [o]) (by rw [hp]; simp)
    rw [List.flatMap_cons]
    have ho : o ∈ s.objs := by rw [hp]; simp
    obtain ⟨r1, r2, r3⟩ := right_ob (h.obj o ho)
    have hset : (p.map freedO ++ o :: l).set p.length (freedO o) = (p ++ [o]).map freedO ++ l := by
      rw [List.set_append_right _ _ (by rw [List.length_map]; exact Nat.le_refl _), List.length_map, Nat.sub_self, List.map_append, List.append_assoc]
      rfl
    have key : doAll ⟨s.next, p.map freedO ++ o :: l⟩ (claimsO o) = (⟨s.next, (p ++ [o]).map freedO ++ l⟩, 0) := by
      by_cases hk : o.kind = 1
      · obtain ⟨e1, e2⟩ := r2 hk
        have hf : freedO o = o := by
          obtain ⟨a, b, c, d, ms, dd⟩ := o
          have e1 : ms = [] := e1
          have e2 : dd = [] := e2
          subst e1 e2
          rfl
        rw [claimsO_cl, e1]
        show ((⟨s.next, p.map freedO ++ o :: l⟩ : Stt), (0 : Int)) = _
        rw [List.map_append, List.append_assoc]
        show _ = ((⟨s.next, p.map freedO ++ (freedO o :: l)⟩ : Stt), (0 : Int))
        rw [hf]
      · have hno : ((p.map freedO ++ o :: l).take p.length).any (fun x => decide (x.name = o.name)) = false := by
          rw [List.take_left' (by rw [List.length_map]), List.any_map]
          refine List.any_eq_false.2 fun x hx => ?_
          have hpw := h.names
          rw [hp, List.pairwise_append] at hpw
          have h1 := hpw.2.2 x hx o List.mem_cons_self
          intro he
          have he : x.name = o.name := of_decide_eq_true he
          rw [he, cmpB_self] at h1
          omega
        have hids := h.ids_obj ho
        unfold Ob.ids at hids
        rw [List.map_append, List.nodup_append] at hids
        have hc := claims_obj (s := ⟨s.next, p.map freedO ++ o :: l⟩) (i := p.length) (o := o) (by show _ < (p.map freedO ++ o :: l).length; rw [List.length_append, List.length_map]; simp) hno hk r1 (fun m hm => by
          have := r3 hk m hm
          unfold Msg.right at this
          simp only [Bool.and_eq_true, decide_eq_true_eq] at this
          unfold effId
          rw [decide_eq_true tO, decide_eq_true tO]; rfl) hids.1 o.msgs [] rfl
        have hself : (p.map freedO ++ o :: l).set p.length { o with msgs := freed o.limit [] ++ o.msgs, dead := o.dead ++ gone o.limit [] } = p.map freedO ++ o :: l := by
          have : ({ o with msgs := freed o.limit [] ++ o.msgs, dead := o.dead ++ gone o.limit [] } : Ob) = o := by
            show (⟨o.name, o.kind, o.limit, o.rows, o.msgs, o.dead ++ []⟩ : Ob) = o
            rw [List.append_nil]
          rw [this, List.set_append_right _ _ (by rw [List.length_map]; exact Nat.le_refl _), List.length_map, Nat.sub_self]
          rfl
        have hc : doAll ⟨s.next, (p.map freedO ++ o :: l).set p.length { o with msgs := freed o.limit [] ++ o.msgs, dead := o.dead ++ gone o.limit [] }⟩ (clE o.name o.msgs) = (⟨s.next, (p.map freedO ++ o :: l).set p.length (freedO o)⟩, 0) := hc
        rw [hself, hset] at hc
        exact hc
    rw [doAll_app key]
    exact ih
theorem apply_claims {s : Stt} (hr : s.right = true) : applyS s (claimsS s) = (⟨s.next, s.objs.map freedO⟩, 0) := by
  unfold applyS
  rw [if_neg (by rw [hr]; decide)]
  exact claims_all (right_SR hr) s.objs [] rfl
theorem claims_len (s : Stt) {n : Nat} (h : (s.objs.map (fun o => o.msgs.length)).sum ≤ n) : (claimsS s).length ≤ n := by
  refine Nat.le_trans ?_ h
  unfold claimsS
  rw [List.length_flatMap]
  generalize s.objs = l
  induction l with
  | nil => exact Nat.le_refl _
  | cons o l ih =>
    simp only [List.map_cons, List.sum_cons]
    have : (claimsO o).length ≤ o.msgs.length := by unfold claimsO; rw [List.length_map]; exact List.length_filter_le _ _
    omega
theorem freedO_len (o : Ob) : (freedO o).msgs.length + (freedO o).dead.length = o.msgs.length + o.dead.length := by
  have := freed_len o.limit o.msgs
  show (freed o.limit o.msgs).length + (o.dead ++ gone o.limit o.msgs).length = _
  rw [List.length_append]
  omega
end Go.Proofs.YtkbhldicnamcdaaGreat.L
namespace Go.Proofs.YtkbhldicnamcdaaGreat.L
open Go Go.Proofs
set_option linter.unusedSimpArgs false
set_option linter.unusedVariables false
def alpha : ByteArray := ⟨#[97, 98, 99, 100, 101, 102, 103, 104, 105, 106, 107, 108, 109, 110, 111, 112, 113, 114, 115, 116, 117, 118, 119, 120, 121, 122]⟩
def nmL (k : Nat) : ByteArray := alpha.extract k (k + 1)
def tabO (k : Nat) : Ob := ⟨nmL k, 1, 0, [], [], []⟩
def mkE (k : Nat) : Eff := ⟨1, nmL k, ⟨#[]⟩, ⟨#[]⟩, 1, 0, false, ⟨0, 0, 0, false, ⟨#[]⟩, ⟨#[]⟩⟩⟩
theorem nm_ord : ((List.range 26).all fun i => (List.range 26).all fun j => decide (cmpB (nmL i) (nmL j) = cmpI i j)) = true := by decide +kernel
theorem nm_cmp {i j : Nat} (hi : i < 26) (hj : j < 26) : cmpB (nmL i) (nmL j) = cmpI i j := by
  have := List.all_eq_true.1 nm_ord i (List.mem_range.2 hi)
  exact of_decide_eq_true (List.all_eq_true.1 this j (List.mem_range.2 hj))
theorem nm_right : ((List.range 26).all fun i => (tabO i).right && (mkE i).right) = true := by decide +kernel
theorem tab_right {i : Nat} (hi : i < 26) : (tabO i).right = true ∧ (mkE i).right = true := by
  have := List.all_eq_true.1 nm_right i (List.mem_range.2 hi)
  rwa [Bool.and_eq_true] at this
def stK (ks : List Nat) : Stt := ⟨1, ks.map tabO⟩
structure KS (ks : List Nat) : Prop where
  up : ks.Pairwise (· < ·)
  lt : ∀ k ∈ ks, k < 26
  len : ks.length ≤ 20
theorem KS.nil : KS [] := ⟨List.Pairwise.nil, (fun k h => by cases h), Nat.zero_le _⟩
theorem adj_of_pair {α : Type} {f : α → α → Bool} : ∀ {l : List α}, l.Pairwise (fun a b => f a b = true) → adj f l = true
  | [], _ => rfl
  | [_], _ => rfl
  | a :: b :: l, h => by
    have h' := List.pairwise_cons.1 h
    simp only [adj, Bool.and_eq_true]
    exact ⟨h'.1 b List.mem_cons_self, adj_of_pair h'.2⟩
theorem KS.pair {ks : List Nat} (h : KS ks) : (ks.map tabO).Pairwise (fun a b => cmpB a.name b.name < 0) := by
  rw [List.pairwise_map]
  refine List.Pairwise.imp_of_mem (fun {a b} ha hb hab => ?_) h.up
  show cmpB (nmL a) (nmL b) < 0
  rw [nm_cmp (h.lt a ha) (h.lt b hb), cmpI_neg]
  omega
theorem KS.right {ks : List Nat} (h : KS ks) : (stK ks).right = true := by
  have hids : (stK ks).ids = [] := by
    unfold Stt.ids stK
    rw [List.flatMap_map, List.flatMap_eq_nil_iff]
    intro k _
    rfl
  have ho : (stK ks).once = true := by
    unfold Stt.once
    rw [hids]
    rfl
  have h1 : (stK ks).objs.all Ob.right = true := List.all_eq_true.2 fun o hm => by
    obtain ⟨k, hk, rfl⟩ := List.mem_map.1 (hm : o ∈ ks.map tabO)
    exact (tab_right (h.lt k hk)).1
  have h2 : adj (fun a b => decide (cmpB a.name b.name < 0)) (stK ks).objs = true := adj_of_pair (h.pair.imp fun h => decide_eq_true h)
  have h3 : ((stK ks).objs.length : Int) ≤ 20 := by
    show (((ks.map tabO).length : Nat) : Int) ≤ 20
    rw [List.length_map]
    have := h.len
    omega
  unfold Stt.right
  rw [h1, h2, ho, decide_eq_true h3, show (stK ks).next = 1 from rfl]
  rfl
theorem ins_up {k : Nat} : ∀ {ks : List Nat}, ks.Pairwise (· < ·) → k ∉ ks → (insAt ks (plc (fun j => decide (k < j)) ks) k).Pairwise (· < ·)
  | [], _, _ => List.pairwise_singleton _ _
  | a :: l, h, hn => by
    have h' := List.pairwise_cons.1 h
    by_cases ha : k < a
    · have hp : plc (fun j => decide (k < j)) (a :: l) = 0 := by
        unfold plc
        rw [idxP_some (i := 0) (x := a) rfl (decide_eq_true ha) rfl]
        rfl
      rw [hp]
      show (k :: a :: l).Pairwise _
      refine List.pairwise_cons.2 ⟨fun x hx => ?_, h⟩
      rcases List.mem_cons.1 hx with rfl | hx
      · exact ha
      · exact Nat.lt_trans ha (h'.1 x hx)
    · have hp : plc (fun j => decide (k < j)) (a :: l) = plc (fun j => decide (k < j)) l + 1 := by
        unfold plc idxP
        rw [List.findIdx?_cons, decide_eq_false ha]
        simp only [Bool.false_eq_true, if_false]
        cases l.findIdx? (fun j => decide (k < j)) with
        | none => simp
        | some i =>
          simp only [Option.map_some]
          rw [if_neg tO, if_neg tO]
          omega
      rw [hp]
      have ih := ins_up h'.2 (fun hm => hn (List.mem_cons_of_mem a hm))
      show (a :: insAt l (plc (fun j => decide (k < j)) l) k).Pairwise _
      refine List.pairwise_cons.2 ⟨fun x hx => ?_, ih⟩
      have hak : a < k := by
        have : a ≠ k := fun e => hn (by rw [e]; exact List.mem_cons_self)
        omega
      unfold insAt at hx
      rcases List.mem_append.1 hx with hx | hx
      · rcases List.mem_append.1 hx with hx | hx
        · exact h'.1 x (List.mem_of_mem_take hx)
        · rw [List.mem_singleton.1 hx]; exact hak
      · exact h'.1 x (List.mem_of_mem_drop hx)
theorem insAt_memI {α : Type} {l : List α} {i : Nat} {x y : α} : y ∈ insAt l i x ↔ y ∈ l ∨ y = x := by
  unfold insAt
  constructor
  · intro h
    rcases List.mem_append.1 h with h | h
    · rcases List.mem_append.1 h with h | h
      · exact .inl (List.mem_of_mem_take h)
      · exact .inr (List.mem_singleton.1 h)
    · exact .inl (List.mem_of_mem_drop h)
  · rintro (h | rfl)
    · rw [← List.take_append_drop i l] at h
      rcases List.mem_append.1 h with h | h
      · exact List.mem_append_left _ (List.mem_append_left _ h)
      · exact List.mem_append_right _ h
    · exact List.mem_append_left _ (List.mem_append_right _ List.mem_cons_self)
theorem plc_le {α : Type} (p : α → Bool) (l : List α) : plc p l ≤ l.length := by
  unfold plc
  split
  · exact Nat.le_refl _
  · rename_i h
    unfold idxP at h ⊢
    cases hf : l.findIdx? p with
    | none => rw [hf] at h; exact absurd tD h
    | some i =>
      rw [List.findIdx?_eq_some_iff_getElem] at hf
      obtain ⟨hi, _⟩ := hf
      show ((i : Nat) : Int).toNat ≤ _
      omega
def putK (ks : List Nat) (k : Nat) : List Nat := insAt ks (plc (fun j => decide (k < j)) ks) k
theorem putK_mem {ks : List Nat} {k j : Nat} : j ∈ putK ks k ↔ j ∈ ks ∨ j = k := insAt_memI
theorem putK_len (ks : List Nat) (k : Nat) : (putK ks k).length = ks.length + 1 := by
  have := plc_le (fun j => decide (k < j)) ks
  unfold putK insAt
  rw [List.length_append, List.length_append, List.length_take, List.length_drop, List.length_singleton]
  omega
theorem KS.put {ks : List Nat} (h : KS ks) {k : Nat} (hk : k < 26) (hn : k ∉ ks) (hl : ks.length < 20) : KS (putK ks k) :=
  ⟨ins_up h.up hn, fun j hj => (putK_mem.1 hj).elim (h.lt j) (fun e => by omega), by rw [putK_len]; omega⟩
theorem KS.small {ks : List Nat} (h : KS ks) : (stK ks).small 0 := by
  refine ⟨(by show (-9223372036854775808 : Int) ≤ 1 ∧ (1 : Int) ≤ 9223372036854775807; decide), ?_, fun o ho => ?_⟩
  · show (ks.map tabO).length ≤ _
    rw [List.length_map]; have := h.len; omega
  · obtain ⟨k, hk, rfl⟩ := List.mem_map.1 (ho : o ∈ ks.map tabO)
    have hk := h.lt k hk
    have hsz : (nmL k).size ≤ 140737488351232 := by
      have hr := (right_ob (tab_right hk).1).1
      unfold effName at hr
      rw [Bool.and_eq_true, decide_eq_true_eq, decide_eq_true_eq] at hr
      have h2 : ((nmL k).size : Int) ≤ 16 := hr.2
      omega
    exact ⟨⟨hsz, (by show (-9223372036854775808 : Int) ≤ 1 ∧ (1 : Int) ≤ 9223372036854775807; decide), (by show (-9223372036854775808 : Int) ≤ 0 ∧ (0 : Int) ≤ 9223372036854775807; decide), (fun _ h => by cases h), (fun _ h => by cases h), (fun _ h => by cases h), Nat.zero_le _, Nat.zero_le _, Nat.zero_le _⟩, Nat.le_refl _, Nat.le_refl _, Nat.le_refl _⟩
end Go.Proofs.YtkbhldicnamcdaaGreat.L
namespace Go.Proofs.YtkbhldicnamcdaaGreat.L
open Go Go.Proofs
set_option linter.unusedSimpArgs false
set_option linter.unusedVariables false
theorem putR_form (l : List Rw) (r : Rw) : ∃ m, putR l r = l.takeWhile (fun x => decide (cmpB x.key r.key < 0)) ++ r :: m ∧ (∀ x ∈ m, x ∈ l.dropWhile (fun x => decide (cmpB x.key r.key < 0))) ∧ m.Sublist (l.dropWhile (fun x => decide (cmpB x.key r.key < 0))) ∧ ∀ h t, l.dropWhile (fun x => decide (cmpB x.key r.key < 0)) = h :: t → (cmpB h.key r.key = 0 ∧ m = t) ∨ (¬ cmpB h.key r.key = 0 ∧ m = h :: t) := by
  have hsp := List.takeWhile_append_dropWhile (p := fun x : Rw => decide (cmpB x.key r.key < 0)) (l := l)
  obtain ⟨A, hA⟩ : ∃ A, A = l.takeWhile (fun x => decide (cmpB x.key r.key < 0)) := ⟨_, rfl⟩
  obtain ⟨B, hB⟩ : ∃ B, B = l.dropWhile (fun x => decide (cmpB x.key r.key < 0)) := ⟨_, rfl⟩
  have hlb : lbR l r.key = A.length := by rw [hA]; rfl
  rw [← hA, ← hB] at hsp
  rw [← hA, ← hB]
  have hf : fndR l r.key = B.head?.any (fun x => decide (cmpB x.key r.key = 0)) := by
    unfold fndR
    rw [hlb, ← hsp, List.getElem?_append_right (Nat.le_refl _), Nat.sub_self]
    cases B <;> rfl
  unfold putR
  rw [hlb, hf]
  cases B with
  | nil =>
    refine ⟨[], ?_, fun x hx => (by cases hx), List.Sublist.refl _, fun h t e => (by cases e)⟩
    rw [if_neg (by simp)]
    unfold insAt
    rw [← hsp]
    simp
  | cons b B =>
    by_cases hb : cmpB b.key r.key = 0
    · refine ⟨B, ?_, fun x hx => List.mem_cons_of_mem _ hx, List.sublist_cons_self _ _, fun h t e => .inl ⟨by cases e; exact hb, by cases e; rfl⟩⟩
      rw [if_pos (by simpa using hb), ← hsp, List.set_append_right _ _ (Nat.le_refl _), Nat.sub_self, List.set_cons_zero]
    · refine ⟨b :: B, ?_, fun x hx => hx, List.Sublist.refl _, fun h t e => .inr ⟨by cases e; exact hb, e⟩⟩
      rw [if_neg (by simpa using hb)]
      unfold insAt
      rw [← hsp, List.take_left', List.drop_left'] <;> simp
theorem mem_tw {α : Type} {p : α → Bool} : ∀ {l : List α} {x : α}, x ∈ l.takeWhile p → p x = true
  | [], _, h => by cases h
  | a :: l, x, h => by
    cases ha : p a with
    | false => simp [List.takeWhile_cons, ha] at h
    | true =>
      simp only [List.takeWhile_cons, ha, if_true, List.mem_cons] at h
      rcases h with rfl | h
      · exact ha
      · exact mem_tw h
theorem dropWhile_head {α : Type} {p : α → Bool} : ∀ {l t : List α} {h : α}, l.dropWhile p = h :: t → p h = false
  | [], _, _, e => by cases e
  | a :: l, t, h, e => by
    cases ha : p a with
    | true => rw [List.dropWhile_cons, if_pos ha] at e; exact dropWhile_head e
    | false => rw [List.dropWhile_cons, if_neg (by rw [ha]; decide)] at e; cases e; exact ha
theorem put_rises {l : List Rw} {r : Rw} (h : risesR l = true) : risesR (putR l r) = true := by
  have hp := (adj_pair (f := fun a b : Rw => decide (cmpB a.key b.key < 0)) (fun a b c h1 h2 => decide_eq_true (cmpB_trans (of_decide_eq_true h1) (of_decide_eq_true h2))) h).imp (fun h => of_decide_eq_true h)
  refine adj_of_pair ?_
  obtain ⟨m, hm, hsub, hsl, hh⟩ := putR_form l r
  rw [hm]
  rw [← List.takeWhile_append_dropWhile (p := fun x : Rw => decide (cmpB x.key r.key < 0)) (l := l), List.pairwise_append] at hp
  obtain ⟨pA, pB, pAB⟩ := hp
  have hgt : ∀ x ∈ m, cmpB r.key x.key < 0 := fun x hx => by
    cases hd : l.dropWhile (fun x => decide (cmpB x.key r.key < 0)) with
    | nil => have := hsub x hx; rw [hd] at this; cases this
    | cons b B =>
      have hb0 : ¬ cmpB b.key r.key < 0 := by have := dropWhile_head hd; simpa using this
      rw [hd, List.pairwise_cons] at pB
      rcases hh b B hd with ⟨e, rfl⟩ | ⟨e, rfl⟩
      · rw [← cmpB_zero.1 e]; exact pB.1 x hx
      · have hbr : cmpB r.key b.key < 0 := by rw [cmpB_anti]; omega
        rcases List.mem_cons.1 hx with rfl | hx
        · exact hbr
        · exact cmpB_trans hbr (pB.1 x hx)
  rw [List.pairwise_append]
  refine ⟨pA.imp (fun h => decide_eq_true h), List.pairwise_cons.2 ⟨fun x hx => decide_eq_true (hgt x hx), (pB.sublist hsl).imp (fun h => decide_eq_true h)⟩, fun a ha x hx => decide_eq_true ?_⟩
  have har : cmpB a.key r.key < 0 := by have := mem_tw ha; simpa using this
  rcases List.mem_cons.1 hx with rfl | hx
  · exact har
  · exact pAB a ha x (hsub x hx)
theorem put_mem {l : List Rw} {r x : Rw} (h : x ∈ putR l r) : x ∈ l ∨ x = r := by
  obtain ⟨m, hm, hsub, _⟩ := putR_form l r
  rw [hm, List.mem_append, List.mem_cons] at h
  rcases h with h | h | h
  · exact .inl ((List.takeWhile_prefix _).subset h)
  · exact .inr h
  · exact .inl ((List.dropWhile_suffix _).subset (hsub x h))
def putO (o : Ob) (r : Rw) : Ob := { o with rows := putR o.rows r }
theorem putO_right {o : Ob} {r : Rw} (hk : o.kind = 1) (hr : r.right = true) (h : o.right = true) : (putO o r).right = true := by
  unfold Ob.right at h ⊢
  rw [if_pos hk] at h
  rw [if_pos (show (putO o r).kind = 1 from hk)]
  simp only [Bool.and_eq_true, List.all_eq_true] at h ⊢
  obtain ⟨⟨h1, h2⟩, ⟨⟨h3, h4⟩, h5⟩, h6⟩ := h
  refine ⟨⟨h1, h2⟩, ⟨⟨h3, h4⟩, put_rises h5⟩, fun x hx => ?_⟩
  rcases put_mem hx with hx | rfl
  · exact h6 x hx
  · exact hr
theorem ins_pair {α : Type} {R : α → α → Prop} {l : List α} {i : Nat} {x : α} (hl : l.Pairwise R) (h1 : ∀ a ∈ l.take i, R a x) (h2 : ∀ b ∈ l.drop i, R x b) : (insAt l i x).Pairwise R := by
  unfold insAt
  have hl' := hl
  rw [← List.take_append_drop i l, List.pairwise_append] at hl'
  obtain ⟨p1, p2, p3⟩ := hl'
  rw [List.append_assoc, List.pairwise_append]
  refine ⟨p1, List.pairwise_cons.2 ⟨h2, p2⟩, fun a ha b hb => ?_⟩
  rcases List.mem_cons.1 hb with rfl | hb
  · exact h1 a ha
  · exact p3 a ha b hb
theorem plc_tw {α : Type} (p : α → Bool) : ∀ l : List α, plc p l = (l.takeWhile (fun x => !p x)).length
  | [] => rfl
  | a :: l => by
    have ih := plc_tw p l
    unfold plc idxP at ih ⊢
    rw [List.findIdx?_cons]
    cases ha : p a with
    | true => rw [List.takeWhile_cons]; simp [ha]
    | false =>
      rw [List.takeWhile_cons]
      simp only [ha, Bool.false_eq_true, if_false, Bool.not_false, if_true, List.length_cons]
      cases hf : l.findIdx? p with
      | none => rw [hf] at ih; simp at ih ⊢; omega
      | some i =>
        rw [hf] at ih
        simp only [Option.map_some] at ih ⊢
        rw [if_neg tO] at ih ⊢
        omega
theorem tw_take {α : Type} (p : α → Bool) : ∀ l : List α, l.take (l.takeWhile p).length = l.takeWhile p
  | [] => rfl
  | a :: l => by
    cases ha : p a with
    | true => simp [List.takeWhile_cons, ha, tw_take p l]
    | false => simp [List.takeWhile_cons, ha]
theorem tw_drop {α : Type} (p : α → Bool) : ∀ l : List α, l.drop (l.takeWhile p).length = l.dropWhile p
  | [] => rfl
  | a :: l => by
    cases ha : p a with
    | true => simp [List.takeWhile_cons, List.dropWhile_cons, ha, tw_drop p l]
    | false => simp [List.takeWhile_cons, List.dropWhile_cons, ha]
theorem plc_before {α : Type} {p : α → Bool} {l : List α} {a : α} (h : a ∈ l.take (plc p l)) : p a = false := by
  rw [plc_tw, tw_take] at h
  have := mem_tw h
  simpa using this
theorem plc_behind {α : Type} {p : α → Bool} {l : List α} {R : α → α → Prop} {x : α} (hl : l.Pairwise R) (hx : ∀ b, p b = true → R x b) (ht : ∀ b c, R x b → R b c → R x c) : ∀ b ∈ l.drop (plc p l), R x b := by
  rw [plc_tw, tw_drop]
  have hp := hl.sublist (List.dropWhile_sublist (fun y => !p y))
  intro b hb
  cases hd : l.dropWhile (fun y => !p y) with
  | nil => rw [hd] at hb; cases hb
  | cons c t =>
    have hc : p c = true := by have := dropWhile_head hd; simpa using this
    rw [hd] at hb hp
    rcases List.mem_cons.1 hb with rfl | hb
    · exact hx _ hc
    · exact ht c b (hx c hc) ((List.pairwise_cons.1 hp).1 b hb)
theorem SR.right {s : Stt} (h : SR s) : s.right = true := by
  unfold Stt.right Stt.once
  simp only [Bool.and_eq_true, decide_eq_true_eq, List.all_eq_true]
  exact ⟨⟨⟨⟨⟨h.nx.1, h.nx.2⟩, by have := h.len; omega⟩, h.obj⟩, adj_of_pair (h.names.imp fun h => decide_eq_true h)⟩, h.ids, h.lt⟩
theorem cmpM_neg {a b : Msg} : cmpM a b < 0 ↔ a.pri < b.pri ∨ a.pri = b.pri ∧ a.id < b.id := by
  unfold cmpM
  split
  · rw [cmpI_neg]; omega
  · rw [cmpI_neg]; omega
theorem cmpM_trans {a b c : Msg} (h1 : cmpM a b < 0) (h2 : cmpM b c < 0) : cmpM a c < 0 := by
  rw [cmpM_neg] at *; omega
theorem cmpM_tot {a b : Msg} (h : ¬ a.id = b.id) : cmpM a b < 0 ∨ 0 < cmpM a b := by
  unfold cmpM
  split
  · unfold cmpI; split
    · exact .inl tD
    · split
      · exact .inr tD
      · omega
  · unfold cmpI; split
    · exact .inl tD
    · split
      · exact .inr tD
      · omega
theorem cmpM_pos {a b : Msg} (h : 0 < cmpM a b) : cmpM b a < 0 := by
  rw [cmpM_neg]
  unfold cmpM cmpI at h
  split at h
  · split at h
    · omega
    · split at h
      · omega
      · omega
  · split at h
    · omega
    · split at h
      · omega
      · omega
structure QR (o : Ob) : Prop where
  nm : effName o.name = true
  kd : effKind o.kind o.limit = true
  rows : o.rows = []
  up : o.msgs.Pairwise (fun a b => cmpM a b < 0)
  ids : (o.msgs.map (·.id)).Nodup
  msg : ∀ m ∈ o.msgs, m.right = true
  dd : ∀ m ∈ o.dead, m.claimed = false ∧ m.right = true
theorem ob_QR {o : Ob} (hk : ¬ o.kind = 1) : o.right = true ↔ QR o := by
  unfold Ob.right risesM
  rw [if_neg hk]
  simp only [Bool.and_eq_true, decide_eq_true_eq, List.all_eq_true, Bool.not_eq_true']
  constructor
  · rintro ⟨⟨h1, h2⟩, ⟨⟨h3, h4, h5⟩, h6⟩, h7⟩
    exact ⟨h1, h2, List.eq_nil_of_length_eq_zero tO, (adj_pair (f := fun a b : Msg => decide (cmpM a b < 0)) (fun a b c x y => decide_eq_true (cmpM_trans (of_decide_eq_true x) (of_decide_eq_true y))) h4).imp (fun h => of_decide_eq_true h), h5, h6, h7⟩
  · intro h
    exact ⟨⟨h.nm, h.kd⟩, ⟨⟨by rw [h.rows]; rfl, adj_of_pair (h.up.imp fun h => decide_eq_true h), h.ids⟩, h.msg⟩, h.dd⟩
theorem QR.right {o : Ob} (hk : ¬ o.kind = 1) (h : QR o) : o.right = true := (ob_QR hk).2 h
theorem QR.set {o : Ob} {k : Nat} {m m' : Msg} (h : QR o) (hm : o.msgs[k]? = some m) (h1 : m'.id = m.id) (h2 : m'.pri = m.pri) (hr : m'.right = true) : QR { o with msgs := o.msgs.set k m' } := by
  obtain ⟨hk, hme⟩ := List.getElem?_eq_some_iff.1 hm
  have hsame : ∀ {β : Type} (f : Msg → β), f m' = f m → (o.msgs.set k m').map f = o.msgs.map f := fun f hf => by
    rw [List.map_set, hf]
    refine List.ext_getElem? fun j => ?_
    rw [List.getElem?_set]
    split
    · rename_i e; subst e; rw [List.getElem?_map, hm]; simp [hk]
    · rfl
  refine ⟨h.nm, h.kd, h.rows, ?_, ?_, fun x hx => ?_, h.dd⟩
  · have hp : (o.msgs.map (fun m => (m.pri, m.id))).Pairwise (fun a b => a.1 < b.1 ∨ a.1 = b.1 ∧ a.2 < b.2) := by
      rw [List.pairwise_map]; exact h.up.imp fun h => cmpM_neg.1 h
    have he := hsame (fun m => (m.pri, m.id)) (by simp [h1, h2])
    rw [← he, List.pairwise_map] at hp
    exact hp.imp fun h => cmpM_neg.2 h
  · show ((o.msgs.set k m').map (·.id)).Nodup
    rw [hsame (·.id) h1]; exact h.ids
  · rcases List.mem_or_eq_of_mem_set hx with hx | rfl
    · exact h.msg x hx
    · exact hr
theorem set_ids {o : Ob} {k : Nat} {m m' : Msg} (hm : o.msgs[k]? = some m) (h1 : m'.id = m.id) : Ob.ids { o with msgs := o.msgs.set k m' } = o.ids := by
  obtain ⟨hk, hme⟩ := List.getElem?_eq_some_iff.1 hm
  have e : (o.msgs.set k m').map (·.id) = o.msgs.map (·.id) := by
    rw [List.map_set, h1]
    refine List.ext_getElem? fun j => ?_
    rw [List.getElem?_set]
    split
    · rename_i e; subst e; rw [List.getElem?_map, hm]; simp [hk]
    · rfl
  unfold Ob.ids
  dsimp only
  rw [List.map_append, List.map_append, e]
theorem erase_perm {α : Type} {l : List α} {k : Nat} {x : α} (h : l[k]? = some x) : l.Perm (x :: l.eraseIdx k) := by
  obtain ⟨hk, he⟩ := List.getElem?_eq_some_iff.1 h
  rw [List.eraseIdx_eq_take_drop_succ]
  conv => lhs; rw [← List.take_append_drop k l, List.drop_eq_getElem_cons hk, he]
  exact List.perm_middle
theorem ins_perm {α : Type} (l : List α) (i : Nat) (x : α) : (insAt l i x).Perm (x :: l) := by
  unfold insAt
  rw [List.append_assoc]
  conv => rhs; rw [← List.take_append_drop i l]
  exact List.perm_middle
theorem tried_right {m : Msg} (h : m.right = true) : m.tried.right = true := by
  unfold Msg.right at h ⊢
  simp only [Bool.and_eq_true, decide_eq_true_eq] at h ⊢
  obtain ⟨⟨⟨⟨⟨⟨⟨a, b⟩, c⟩, d⟩, e⟩, f⟩, g⟩, i⟩ := h
  refine ⟨⟨⟨⟨⟨⟨⟨a, b⟩, c⟩, d⟩, ?_⟩, ?_⟩, g⟩, i⟩
  · show 0 ≤ (if 999 < m.retry then 999 else m.retry) + 1; split <;> omega
  · show (if 999 < m.retry then 999 else m.retry) + 1 ≤ 1000; split <;> omega
theorem find_M {l : List Msg} {id : Int} (h : ¬ findM l id < 0) : ∃ (k : Nat) (m : Msg), l[k]? = some m ∧ (findM l id).toNat = k ∧ m.id = id := by
  obtain ⟨k, m, h1, h2, h3⟩ := idxP_nat h
  exact ⟨k, m, h1, by unfold findM; rw [h2]; rfl, of_decide_eq_true h3⟩
inductive IdsTo (a : List Int) (n : Option Int) (b : List Int) : Prop where
  | less (l : List Int) (h1 : b.Perm l) (h2 : l.Sublist a) : IdsTo a n b
  | more (m : Int) (h1 : n = some m) (h2 : b.Perm (m :: a)) : IdsTo a n b
theorem freeO_QR {o : Ob} {id : Int} {t : Bool} (h : QR o) (hk : ¬ o.kind = 1) (h0 : (freeO o id t).2 = true) : QR (freeO o id t).1 ∧ (freeO o id t).1.ids.Perm o.ids ∧ (freeO o id t).1.name = o.name ∧ (freeO o id t).1.kind = o.kind := by
  unfold freeO at h0 ⊢
  by_cases h1 : findM o.msgs id < 0
  · rw [if_pos h1] at h0; cases h0
  rw [if_neg h1] at h0 ⊢
  obtain ⟨k, m, hm, hkk, hid⟩ := find_M h1
  rw [hkk, gd_at hm] at h0 ⊢
  have hmr := h.msg m (List.mem_of_getElem? hm)
  by_cases h2 : m.claimed = false
  · rw [if_pos h2] at h0; cases h0
  rw [if_neg h2] at h0 ⊢
  by_cases h3 : t = false
  · rw [if_pos h3] at h0 ⊢
    exact ⟨h.set hm rfl rfl hmr, by rw [set_ids (m' := { m with claimed := false }) hm rfl], rfl, rfl⟩
  rw [if_neg h3] at h0 ⊢
  by_cases h4 : o.limit ≤ m.tried.retry
  · rw [if_pos h4] at h0 ⊢
    refine ⟨⟨h.nm, h.kd, h.rows, h.up.sublist (List.eraseIdx_sublist _ _), h.ids.sublist ((List.eraseIdx_sublist _ _).map _), fun x hx => h.msg x (List.mem_of_mem_eraseIdx hx), fun x hx => ?_⟩, ?_, rfl, rfl⟩
    · rcases List.mem_append.1 hx with hx | hx
      · exact h.dd x hx
      · rw [List.mem_singleton.1 hx]; exact ⟨rfl, tried_right hmr⟩
    · unfold Ob.ids
      dsimp only
      have hp := (erase_perm hm).map (fun x : Msg => x.id)
      rw [List.map_append, List.map_append, List.map_append]
      rw [← List.append_assoc]
      refine (List.perm_append_comm).trans ?_
      show ([m.tried].map (·.id) ++ _).Perm _
      rw [show [m.tried].map (fun x : Msg => x.id) = [m.id] from rfl, List.singleton_append, ← List.cons_append]
      exact (List.Perm.append_right _ (by simpa using hp.symm))
  · rw [if_neg h4] at h0 ⊢
    exact ⟨h.set hm rfl rfl (tried_right hmr), by rw [set_ids (m' := m.tried) hm rfl], rfl, rfl⟩
theorem queueO_QR {s : Stt} {o : Ob} {e : Eff} (h : QR o) (hk : ¬ o.kind = 1) (hr : e.right = true) (hms : ∀ m ∈ o.ids, m ∈ s.ids) (hho : hasM s e.msg.id = false → e.msg.id ∉ s.ids) (h0 : (queueO s o e).2 = 0) :
    QR (queueO s o e).1 ∧ (queueO s o e).1.name = o.name ∧ (queueO s o e).1.kind = o.kind ∧ IdsTo o.ids (if e.msg.id < s.next ∧ e.msg.id ∉ s.ids then some e.msg.id else none) (queueO s o e).1.ids := by
  unfold queueO at h0 ⊢
  by_cases k4 : e.kind = 4
  · rw [if_pos k4] at h0 ⊢
    by_cases c1 : s.next ≤ e.msg.id ∨ e.msg.claimed = true
    · rw [if_pos c1] at h0; exact absurd (show (1 : Int) = 0 from h0) tD
    rw [if_neg c1] at h0 ⊢
    by_cases c2 : hasM s e.msg.id = true
    · rw [if_pos c2] at h0; exact absurd (show (4 : Int) = 0 from h0) tD
    rw [if_neg c2]
    have hni := hho (by simpa using c2)
    have hnm : ∀ x ∈ o.msgs, ¬ x.id = e.msg.id := fun x hx ex => hni (ex ▸ hms _ (List.mem_map_of_mem (List.mem_append_left _ hx)))
    have hmr : e.msg.right = true := by
      have := right_k hr
      unfold Eff.rightK at this
      rw [if_neg tO, if_neg tO, if_neg tO, if_pos k4, Bool.and_eq_true] at this
      exact this.2
    have hpm := ins_perm o.msgs (plc (fun x => decide (0 < cmpM x e.msg)) o.msgs) e.msg
    refine ⟨⟨h.nm, h.kd, h.rows, ins_pair h.up (fun a ha => ?_) (plc_behind h.up (fun b hb => cmpM_pos (of_decide_eq_true hb)) (fun b c x y => cmpM_trans x y)), ?_, fun x hx => ?_, h.dd⟩, rfl, rfl, .more e.msg.id (if_pos ⟨by omega, hni⟩) ?_⟩
    · have hb := of_decide_eq_false (plc_before (p := fun x => decide (0 < cmpM x e.msg)) ha)
      rcases cmpM_tot (hnm a (List.mem_of_mem_take ha)) with h1 | h1
      · exact h1
      · exact absurd h1 hb
    · refine ((hpm.map (fun x : Msg => x.id)).nodup_iff).2 ?_
      rw [List.map_cons]
      exact List.nodup_cons.2 ⟨fun hm => by obtain ⟨x, hx, ex⟩ := List.mem_map.1 hm; exact hnm x hx ex, h.ids⟩
    · rcases insAt_mem hx with hx | rfl
      · exact h.msg x hx
      · exact hmr
    · unfold Ob.ids
      dsimp only
      rw [List.map_append, List.map_append]
      exact (List.Perm.append_right _ (hpm.map (fun x : Msg => x.id)))
  rw [if_neg k4] at h0 ⊢
  by_cases k5 : e.kind = 5
  · rw [if_pos k5] at h0 ⊢
    refine ⟨?_, rfl, rfl, .less _ (List.Perm.refl _) ?_⟩
    · unfold cutM
      split
      · exact ⟨h.nm, h.kd, h.rows, h.up, h.ids, h.msg, h.dd⟩
      · exact ⟨h.nm, h.kd, h.rows, h.up.sublist (List.eraseIdx_sublist _ _), h.ids.sublist ((List.eraseIdx_sublist _ _).map _), fun x hx => h.msg x (List.mem_of_mem_eraseIdx hx), h.dd⟩
    · unfold Ob.ids cutM
      split
      · exact List.Sublist.refl _
      · exact (List.Sublist.append (List.eraseIdx_sublist _ _) (List.Sublist.refl _)).map _
  rw [if_neg k5] at h0 ⊢
  by_cases k6 : e.kind = 6
  · rw [if_pos k6] at h0 ⊢
    by_cases c1 : findM o.msgs e.n < 0
    · rw [if_pos c1] at h0; exact absurd (show (7 : Int) = 0 from h0) tD
    rw [if_neg c1] at h0 ⊢
    obtain ⟨k, m, hm, hkk, hid⟩ := find_M c1
    unfold claimM at h0 ⊢
    rw [if_neg c1, hkk, gd_at hm] at h0 ⊢
    split at h0
    · exact absurd (show (2 : Int) = 0 from h0) tD
    · rename_i c2
      rw [if_neg c2]
      have hmr : Msg.right { m with claimed := true } = true := h.msg m (List.mem_of_getElem? hm)
      exact ⟨h.set hm rfl rfl hmr, rfl, rfl, .less _ (by rw [show Ob.ids { o with msgs := o.msgs.set k { m with claimed := true } } = o.ids from set_ids hm rfl]) (List.Sublist.refl _)⟩
  rw [if_neg k6] at h0 ⊢
  by_cases k7 : e.kind = 7
  · rw [if_pos k7] at h0 ⊢
    have hf : (freeO o e.n e.tried).2 = true := by
      cases hf : (freeO o e.n e.tried).2 with
      | true => rfl
      | false => rw [hf] at h0; exact absurd (show (7 : Int) = 0 from h0) tD
    obtain ⟨h1, h2, h3, h4⟩ := freeO_QR h hk hf
    exact ⟨h1, h3, h4, .less _ h2 (List.Sublist.refl _)⟩
  · rw [if_neg k7] at h0; exact absurd (show (7 : Int) = 0 from h0) tD
theorem ids_set {s : Stt} {i : Nat} {o : Ob} (ho : s.objs[i]? = some o) (n : Int) (p : Ob) : ∃ A B, s.ids = A ++ (o.ids ++ B) ∧ Stt.ids ⟨n, s.objs.set i p⟩ = A ++ (p.ids ++ B) := by
  obtain ⟨hil, hoe⟩ := List.getElem?_eq_some_iff.1 ho
  refine ⟨(s.objs.take i).flatMap Ob.ids, (s.objs.drop (i + 1)).flatMap Ob.ids, ?_, ?_⟩
  · unfold Stt.ids
    conv => lhs; rw [← List.take_append_drop i s.objs, List.drop_eq_getElem_cons hil, hoe]
    simp only [List.flatMap_append, List.flatMap_cons]
  · unfold Stt.ids
    dsimp only
    rw [List.set_eq_take_append_cons_drop, if_pos hil]
    simp only [List.flatMap_append, List.flatMap_cons]
theorem SR.set {s : Stt} (h : SR s) {i : Nat} {o p : Ob} (ho : s.objs[i]? = some o) (hn : p.name = o.name) (hp : p.right = true) {m : Option Int} (hi : IdsTo o.ids m p.ids) (hm : ∀ n, m = some n → n < s.next ∧ n ∉ s.ids) : SR ⟨s.next, s.objs.set i p⟩ := by
  obtain ⟨hil, hoe⟩ := List.getElem?_eq_some_iff.1 ho
  obtain ⟨A, B, e1, e2⟩ := ids_set ho s.next p
  have hids := h.ids
  have hlt := h.lt
  rw [e1] at hids hlt
  have key : (A ++ (p.ids ++ B)).Nodup ∧ ∀ n ∈ A ++ (p.ids ++ B), n < s.next := by
    rcases hi with ⟨l, h1, h2⟩ | ⟨n, h1, h2⟩
    · have hpm : (A ++ (p.ids ++ B)).Perm (A ++ (l ++ B)) := (List.Perm.append_right B h1).append_left A
      have hsb : (A ++ (l ++ B)).Sublist (A ++ (o.ids ++ B)) := List.Sublist.append (List.Sublist.refl _) (List.Sublist.append h2 (List.Sublist.refl _))
      exact ⟨hpm.nodup_iff.2 (hids.sublist hsb), fun n hn => hlt n (hsb.subset (hpm.mem_iff.1 hn))⟩
    · have hpm : (A ++ (p.ids ++ B)).Perm (n :: (A ++ (o.ids ++ B))) := ((List.Perm.append_right B h2).append_left A).trans List.perm_middle
      obtain ⟨g1, g2⟩ := hm n h1
      rw [e1] at g2
      refine ⟨hpm.nodup_iff.2 (List.nodup_cons.2 ⟨g2, hids⟩), fun x hx => ?_⟩
      rcases List.mem_cons.1 (hpm.mem_iff.1 hx) with rfl | hx
      · exact g1
      · exact hlt x hx
  have hnm : (s.objs.set i p).map (·.name) = s.objs.map (·.name) := by
    rw [List.map_set, hn]
    refine List.ext_getElem? fun j => ?_
    rw [List.getElem?_set]
    split
    · rename_i e; subst e; rw [List.getElem?_map, ho]; simp [hil]
    · rfl
  refine ⟨fun x hx => ?_, ?_, by rw [e2]; exact key.1, by show (s.objs.set i p).length ≤ 20; rw [List.length_set]; exact h.len, h.nx, by rw [e2]; exact key.2⟩
  · rcases List.mem_or_eq_of_mem_set hx with hx | rfl
    · exact h.obj x hx
    · exact hp
  · have h1 : (s.objs.map (·.name)).Pairwise (fun a b => cmpB a b < 0) := by rw [List.pairwise_map]; exact h.names
    rw [← hnm, List.pairwise_map] at h1
    exact h1
theorem SR.obj_at {s : Stt} {name : ByteArray} (h : ¬ findO s name < 0) : ∃ (i : Nat) (o : Ob), s.objs[i]? = some o ∧ (findO s name).toNat = i ∧ o.name = name := by
  obtain ⟨i, o, h1, h2, h3⟩ := idxP_nat h
  exact ⟨i, o, h1, by unfold findO; rw [h2]; rfl, of_decide_eq_true h3⟩
theorem findO_none {s : Stt} {name : ByteArray} (h : findO s name < 0) : ∀ o ∈ s.objs, ¬ o.name = name := fun o ho he => by
  have h1 := idxP_any (fun o : Ob => decide (o.name = name)) s.objs
  have h2 : s.objs.any (fun o : Ob => decide (o.name = name)) = true := List.any_eq_true.2 ⟨o, ho, decide_eq_true he⟩
  rw [h2] at h1
  have h3 := of_decide_eq_true h1
  unfold findO at h; omega
theorem hasM_not {s : Stt} {n : Int} (h : hasM s n = false) : n ∉ s.ids := fun hn => by
  unfold Stt.ids at hn
  obtain ⟨o, ho, hno⟩ := List.mem_flatMap.1 hn
  unfold hasM at h
  have := List.any_eq_false.1 h o ho
  refine this (decide_eq_true fun hw => ?_)
  unfold whereM at hw
  unfold Ob.ids at hno
  obtain ⟨m, hm, rfl⟩ := List.mem_map.1 hno
  have f1 := idxP_any (fun x : Msg => decide (x.id = m.id)) o.msgs
  have f2 := idxP_any (fun x : Msg => decide (x.id = m.id)) o.dead
  rcases List.mem_append.1 hm with hm | hm
  · have a : o.msgs.any (fun x : Msg => decide (x.id = m.id)) = true := List.any_eq_true.2 ⟨m, hm, decide_eq_true rfl⟩
    rw [a] at f1
    rw [if_pos (show 0 ≤ findM o.msgs m.id from of_decide_eq_true f1)] at hw
    exact absurd hw tD
  · have a : o.dead.any (fun x : Msg => decide (x.id = m.id)) = true := List.any_eq_true.2 ⟨m, hm, decide_eq_true rfl⟩
    rw [a] at f2
    have hd : 0 ≤ findM o.dead m.id := of_decide_eq_true f2
    split at hw
    · exact absurd hw tD
    · first | exact absurd hw tD | (rw [if_pos hd] at hw; exact absurd hw tD)
theorem tableO_right {o : Ob} {e : Eff} (h : o.right = true) (hk : o.kind = 1) (he : e.kind = 2 ∨ e.kind = 3) (hr : e.right = true) : (tableO o e).1.right = true ∧ (tableO o e).1.name = o.name ∧ (tableO o e).1.ids = o.ids ∧ (tableO o e).1.kind = o.kind := by
  unfold tableO
  have hrk := right_k hr
  unfold Eff.rightK at hrk
  split
  · rename_i k2
    rw [if_neg tO, if_pos k2, Bool.and_eq_true] at hrk
    exact ⟨putO_right hk hrk.2 h, rfl, rfl, rfl⟩
  · refine ⟨?_, rfl, rfl, rfl⟩
    unfold Ob.right at h ⊢
    rw [if_pos hk] at h
    dsimp only
    rw [if_pos hk]
    simp only [Bool.and_eq_true, List.all_eq_true] at h ⊢
    obtain ⟨⟨h1, h2⟩, ⟨⟨h3, h4⟩, h5⟩, h6⟩ := h
    unfold cutR
    split
    · refine ⟨⟨h1, h2⟩, ⟨⟨h3, h4⟩, ?_⟩, fun x hx => h6 x (List.mem_of_mem_eraseIdx hx)⟩
      refine adj_of_pair ?_
      exact (adj_pair (f := fun a b : Rw => decide (cmpB a.key b.key < 0)) (fun a b c h1 h2 => decide_eq_true (cmpB_trans (of_decide_eq_true h1) (of_decide_eq_true h2))) h5).sublist (List.eraseIdx_sublist _ _)
    · exact ⟨⟨h1, h2⟩, ⟨⟨h3, h4⟩, h5⟩, h6⟩
theorem makeS_SR {s : Stt} {e : Eff} (h : SR s) (hk : e.kind = 1) (hr : e.right = true) (h0 : (makeS s e).2 = 0) : SR (makeS s e).1 := by
  unfold makeS at h0 ⊢
  by_cases c1 : 0 ≤ findO s e.object
  · rw [if_pos c1] at h0; exact absurd (show (4 : Int) = 0 from h0) tD
  rw [if_neg c1] at h0 ⊢
  by_cases c2 : 20 ≤ s.objs.length
  · rw [if_pos c2] at h0; exact absurd (show (6 : Int) = 0 from h0) tD
  rw [if_neg c2]
  have hrk := right_k hr
  unfold Eff.rightK at hrk
  rw [if_pos hk, Bool.and_eq_true] at hrk
  have hno := findO_none (s := s) (name := e.object) tO
  have hkk : e.n = 1 ∨ e.n = 2 := by
    have := hrk.2
    unfold effKind at this
    split at this
    · left; assumption
    · split at this
      · right; assumption
      · cases this
  have hor : Ob.right ⟨e.object, e.n, e.limit, [], [], []⟩ = true := by
    unfold Ob.right
    dsimp only
    rw [hrk.1, hrk.2]
    rcases hkk with k | k <;> rw [k] <;> rfl
  have hids : Stt.ids ⟨s.next, insAt s.objs (plc (fun o => decide (0 < cmpB o.name e.object)) s.objs) ⟨e.object, e.n, e.limit, [], [], []⟩⟩ = s.ids := by
    unfold Stt.ids insAt
    dsimp only
    conv => rhs; rw [← List.take_append_drop (plc (fun o => decide (0 < cmpB o.name e.object)) s.objs) s.objs]
    rw [List.flatMap_append, List.flatMap_append, List.flatMap_append, List.flatMap_singleton, show Ob.ids ⟨e.object, e.n, e.limit, [], [], []⟩ = [] from rfl, List.append_nil]
  refine ⟨fun x hx => ?_, ins_pair h.names (fun a ha => ?_) (plc_behind (R := fun a b : Ob => cmpB a.name b.name < 0) h.names (fun b hb => ?_) (fun b c x y => cmpB_trans x y)), by rw [hids]; exact h.ids, ?_, h.nx, by rw [hids]; exact h.lt⟩
  · rcases insAt_mem hx with hx | rfl
    · exact h.obj x hx
    · exact hor
  · have hb := of_decide_eq_false (plc_before (p := fun o : Ob => decide (0 < cmpB o.name e.object)) ha)
    have hne := hno a (List.mem_of_mem_take ha)
    have hz : ¬ cmpB a.name e.object = 0 := fun hz => hne (cmpB_zero.1 hz)
    show cmpB a.name e.object < 0
    omega
  · have := of_decide_eq_true hb
    show cmpB e.object b.name < 0
    rw [cmpB_anti]; omega
  · show (insAt s.objs _ _).length ≤ 20
    have := insAt_le s.objs (plc (fun o => decide (0 < cmpB o.name e.object)) s.objs) ⟨e.object, e.n, e.limit, [], [], []⟩
    omega
theorem doS_SR {s : Stt} {e : Eff} (h : SR s) (h0 : (doS s e).2 = 0) : SR (doS s e).1 := by
  unfold doS at h0 ⊢
  by_cases c0 : e.right = false
  · rw [if_pos c0] at h0; exact absurd (show (1 : Int) = 0 from h0) tD
  rw [if_neg c0] at h0 ⊢
  have hr : e.right = true := by simpa using c0
  by_cases c1 : e.kind = 1
  · rw [if_pos c1] at h0 ⊢
    exact makeS_SR h c1 hr h0
  rw [if_neg c1] at h0 ⊢
  by_cases c8 : e.kind = 8
  · rw [if_pos c8] at h0 ⊢
    unfold nextS at h0 ⊢
    by_cases cn : e.n < s.next
    · rw [if_pos cn] at h0; exact absurd (show (1 : Int) = 0 from h0) tD
    rw [if_neg cn]
    have hrk := right_k hr
    unfold Eff.rightK at hrk
    rw [if_neg tO, if_neg tO, if_neg tO, if_neg tO, if_neg tO, if_pos c8] at hrk
    unfold effId at hrk
    rw [Bool.and_eq_true, decide_eq_true_eq, decide_eq_true_eq] at hrk
    exact ⟨h.obj, h.names, h.ids, h.len, hrk, fun n hn => by have := h.lt n hn; show n < e.n; omega⟩
  rw [if_neg c8] at h0 ⊢
  by_cases cf : findO s e.object < 0
  · rw [if_pos cf] at h0; exact absurd (show (3 : Int) = 0 from h0) tD
  rw [if_neg cf] at h0 ⊢
  obtain ⟨i, o, ho, hi, hnm⟩ := SR.obj_at cf
  rw [hi, gd_at ho] at h0 ⊢
  have hor := h.obj o (List.mem_of_getElem? ho)
  split at h0
  · exact absurd (show (5 : Int) = 0 from h0) tD
  · rename_i ck
    rw [if_neg ck]
    have ck : decide (e.kind = 2 ∨ e.kind = 3) = decide (o.kind = 1) := Decidable.not_not.1 ck
    by_cases ct : e.kind = 2 ∨ e.kind = 3
    · rw [if_pos ct]
      have hk1 : o.kind = 1 := of_decide_eq_true (by rw [← ck]; exact decide_eq_true ct)
      obtain ⟨t1, t2, t3, _⟩ := tableO_right (e := e) hor hk1 ct hr
      exact h.set ho t2 t1 (m := none) (.less _ (by rw [t3]) (List.Sublist.refl _)) (fun n hn => by cases hn)
    · rw [if_neg ct] at h0 ⊢
      have hk1 : ¬ o.kind = 1 := of_decide_eq_false (by rw [← ck]; exact decide_eq_false ct)
      obtain ⟨q1, q2, q3, q4⟩ := queueO_QR ((ob_QR hk1).1 hor) hk1 hr (fun m hm => List.mem_flatMap.2 ⟨o, List.mem_of_getElem? ho, hm⟩) hasM_not h0
      refine h.set ho q2 (q1.right (by rw [q3]; exact hk1)) q4 (fun n hn => ?_)
      split at hn
      · rename_i hc; cases hn; exact hc
      · cases hn
theorem doAll_SR : ∀ {l : List Eff} {s : Stt}, SR s → (doAll s l).2 = 0 → SR (doAll s l).1
  | [], _, h, _ => h
  | e :: l, s, h, h0 => by
    unfold doAll at h0 ⊢
    by_cases c : (doS s e).2 = 0
    · rw [if_pos c] at h0 ⊢
      exact doAll_SR (doS_SR h c) h0
    · rw [if_neg c] at h0
      exact absurd h0 c
theorem apply_right {s : Stt} {l : List Eff} (h0 : (applyS s l).2 = 0) : s.right = true ∧ (applyS s l).1.right = true ∧ applyS s l = doAll s l := by
  unfold applyS at h0 ⊢
  split at h0
  · exact absurd (show (1 : Int) = 0 from h0) tD
  · rename_i hr
    have hr : s.right = true := by simpa using hr
    rw [if_neg (by rw [hr]; decide)]
    exact ⟨hr, (doAll_SR (right_SR hr) h0).right, rfl⟩
theorem apply_eq {s : Stt} (h : s.right = true) (l : List Eff) : applyS s l = doAll s l := by unfold applyS; rw [if_neg (by rw [h]; decide)]
theorem init_right : Stt.right ⟨1, []⟩ = true := by decide
end Go.Proofs.YtkbhldicnamcdaaGreat.L
namespace Go.Proofs.YtkbhldicnamcdaaGreat.L
open Go Go.Proofs
set_option linter.unusedSimpArgs false
set_option linter.unusedVariables false
theorem ofLe_inj : ∀ {l m : List UInt8}, l.length = m.length → ofLe l = ofLe m → l = m
  | [], [], _, _ => rfl
  | [], _ :: _, h, _ => by simp at h
  | _ :: _, [], h, _ => by simp at h
  | a :: l, b :: m, h, e => by
    have e : (a.toNat : Int) + 256 * ofLe l = b.toNat + 256 * ofLe m := e
    have ha := a.toNat_lt
    have hb := b.toNat_lt
    have h1 : a.toNat = b.toNat := by omega
    have h2 : ofLe l = ofLe m := by omega
    rw [UInt8.toNat_inj.1 h1, ofLe_inj (by simpa using h) h2]
theorem leb_ofLe (l : List UInt8) : leb (ofLe l) l.length = l := by
  refine ofLe_inj (leb_length _ _) ?_
  rw [ofLe_leb _ (ofLe_nonneg l)]
  exact Int.emod_eq_of_lt (ofLe_nonneg l) (ofLe_lt l)
theorem Rd.take_can {s : Rd} {n : Nat} (h : (s.take n).2.f = false) : s.f = false ∧ n ≤ s.bs.length ∧ s.take n = (some (s.bs.take n), ⟨s.bs.drop n, false⟩) := by
  unfold Rd.take at h ⊢
  split at h
  · rename_i hf
    have h : s.f = false := h
    rw [h] at hf; cases hf
  · rename_i hf
    split at h
    · cases h
    · rename_i hl
      exact ⟨by simpa using hf, by omega, by rw [if_neg hf, if_neg hl]⟩
def Can {α : Type} (r : RdM α) (enc : α → List UInt8) : Prop := ∀ s : Rd, (r s).2.f = false → s.f = false ∧ s.bs = enc (r s).1 ++ (r s).2.bs
theorem can_int : Can (Rd.int : RdM Int) wInt := fun s h => by
  have h : (s.num 8).2.f = false := h
  rw [Rd.num_snd] at h
  obtain ⟨h1, h2, h3⟩ := Rd.take_can h
  have hn : s.num 8 = (ofLe (s.bs.take 8), ⟨s.bs.drop 8, false⟩) := by unfold Rd.num; rw [h3]
  refine ⟨h1, ?_⟩
  show s.bs = wInt (i64 (s.num 8).1) ++ (s.num 8).2.bs
  rw [hn]
  have hl : (s.bs.take 8).length = 8 := by rw [List.length_take]; omega
  have h0 := ofLe_nonneg (s.bs.take 8)
  have hlt := ofLe_lt (s.bs.take 8)
  rw [hl] at hlt
  have hlt : ofLe (s.bs.take 8) < 18446744073709551616 := hlt
  have hu : u64 (i64 (ofLe (s.bs.take 8))) = ofLe (s.bs.take 8) := by unfold u64 i64; omega
  have hb := leb_ofLe (s.bs.take 8)
  rw [hl] at hb
  unfold wInt
  rw [hu, hb, List.take_append_drop]
theorem can_text : Can (Rd.text : RdM ByteArray) wText := fun s h => by
  have h : s.text.2.f = false := h
  rw [Rd.text_snd] at h
  obtain ⟨h1, h2, h3⟩ := Rd.take_can h
  have h1' := h1
  rw [Rd.num_snd] at h1'
  obtain ⟨g1, g2, g3⟩ := Rd.take_can h1'
  have hn : s.num 2 = (ofLe (s.bs.take 2), ⟨s.bs.drop 2, false⟩) := by unfold Rd.num; rw [g3]
  refine ⟨g1, ?_⟩
  rw [hn] at h2 h3
  dsimp only at h2 h3
  have ht : s.text = (⟨((s.bs.drop 2).take (ofLe (s.bs.take 2)).toNat).toArray⟩, ⟨(s.bs.drop 2).drop (ofLe (s.bs.take 2)).toNat, false⟩) := by
    unfold Rd.text
    rw [hn]
    dsimp only
    rw [h3]
  show s.bs = wText s.text.1 ++ s.text.2.bs
  rw [ht]
  dsimp only
  have hl : (s.bs.take 2).length = 2 := by rw [List.length_take]; omega
  have h0 := ofLe_nonneg (s.bs.take 2)
  have hlt := ofLe_lt (s.bs.take 2)
  rw [hl] at hlt
  have hlt : ofLe (s.bs.take 2) < 65536 := hlt
  have hb := leb_ofLe (s.bs.take 2)
  rw [hl] at hb
  obtain ⟨n, hN⟩ : ∃ n : Nat, ofLe (s.bs.take 2) = (n : Int) := ⟨(ofLe (s.bs.take 2)).toNat, by omega⟩
  rw [hN] at hb hlt h2 ⊢
  rw [Int.toNat_natCast] at h2 ⊢
  have hsz : (⟨((s.bs.drop 2).take n).toArray⟩ : ByteArray).size = n := by
    show ((s.bs.drop 2).take n).toArray.size = n
    rw [List.size_toArray, List.length_take]; omega
  have hby : bytesOf ⟨((s.bs.drop 2).take n).toArray⟩ = (s.bs.drop 2).take n := rfl
  have h65 : ((s.bs.drop 2).take n).take 65535 = (s.bs.drop 2).take n := List.take_of_length_le (by rw [List.length_take]; omega)
  unfold wText
  rw [hsz, Nat.min_eq_left tO, hb, hby, h65, List.append_assoc, List.take_append_drop, List.take_append_drop]
theorem can_flag : Can (Rd.flag : RdM Bool) wFlag := fun s h => by
  have h : s.flag.2.f = false := h
  by_cases ht : (s.take 1).2.f = false
  · obtain ⟨h1, h2, h3⟩ := Rd.take_can ht
    cases hb : s.bs with
    | nil => rw [hb] at h2; simp at h2
    | cons b t =>
      rw [hb] at h3
      have hfl : s.flag = if 1 < b.toNat then (false, ⟨[], true⟩) else (b.toNat == 1, ⟨t, false⟩) := by unfold Rd.flag; rw [h3]; rfl
      refine ⟨h1, ?_⟩
      show b :: t = wFlag s.flag.1 ++ s.flag.2.bs
      rw [hfl] at h ⊢
      split at h
      · cases h
      · rename_i hc
        rw [if_neg hc]
        have hb01 : b.toNat = 0 ∨ b.toNat = 1 := by omega
        rcases hb01 with e | e
        · rw [show b = 0 from UInt8.toNat_inj.1 e]; rfl
        · rw [show b = 1 from UInt8.toNat_inj.1 e]; rfl
  · exfalso
    have ht : (s.take 1).2.f = true := by simpa using ht
    unfold Rd.flag at h
    split at h
    · rename_i b s' e
      rw [e] at ht
      split at h
      · cases h
      · rw [ht] at h; cases h
    · rename_i x s' hx e
      rw [e] at ht
      rw [ht] at h; cases h
theorem can_msg : Can (Rd.msg : RdM Msg) Msg.bytes := fun s h => by
  have hT : s.msgT.2.f = false := by rw [← Rd.msg_snd]; exact h
  have hm : s.msg = s.msgT := by unfold Rd.msg; rw [if_neg (by rw [hT]; decide)]
  show s.f = false ∧ s.bs = (s.msg.1).bytes ++ s.msg.2.bs
  rw [hm]
  obtain ⟨f1, f2⟩ := can_text (((((s.int).2.int).2.int).2.flag).2.text).2 hT
  obtain ⟨e1, e2⟩ := can_text ((((s.int).2.int).2.int).2.flag).2 f1
  obtain ⟨d1, d2⟩ := can_flag (((s.int).2.int).2.int).2 e1
  obtain ⟨c1, c2⟩ := can_int ((s.int).2.int).2 d1
  obtain ⟨b1, b2⟩ := can_int (s.int).2 c1
  obtain ⟨a1, a2⟩ := can_int s b1
  refine ⟨a1, ?_⟩
  rw [a2, b2, c2, d2, e2, f2]
  unfold Msg.bytes Rd.msgT
  simp only [List.append_assoc]
def CanW {α : Type} (r : RwM α) (enc : α → List UInt8) : Prop := ∀ s : RdW, (r s).2.1.f = false → (r s).2.2 = false → s.1.f = false ∧ s.2 = false ∧ s.1.bs = enc (r s).1 ++ (r s).2.1.bs
theorem Can.lift {α : Type} {r : RdM α} {enc : α → List UInt8} (h : Can r enc) : CanW (RdM.lift r) enc := fun s hf hw => ⟨(h s.1 hf).1, hw, (h s.1 hf).2⟩
theorem can_go {α : Type} {one : RwM α} {enc : α → List UInt8} (h : CanW one enc) : ∀ (n : Nat) (acc : List α) (s : RdW), (lsGo one n acc s).2.1.f = false → (lsGo one n acc s).2.2 = false →
    s.1.f = false ∧ s.2 = false ∧ ∃ l, (lsGo one n acc s).1 = acc ++ l ∧ l.length = n ∧ s.1.bs = l.flatMap enc ++ (lsGo one n acc s).2.1.bs
  | 0, acc, s, hf, hw => ⟨hf, hw, [], by simp [lsGo_zero], rfl, by simp [lsGo_zero]⟩
  | n + 1, acc, s, hf, hw => by
    by_cases hs : s.1.f = true
    · rw [lsGo_f _ _ _ _ hs] at hf; rw [hs] at hf; cases hf
    · have e := lsGo_succ one n acc s
      rw [if_neg hs] at e
      rw [e] at hf hw ⊢
      obtain ⟨h1, h2, l, h3, h4, h5⟩ := can_go h n _ _ hf hw
      obtain ⟨g1, g2, g3⟩ := h s h1 h2
      exact ⟨g1, g2, (one s).1 :: l, by rw [h3]; simp, by simp [h4], by rw [g3, h5]; simp⟩
theorem CanW.ls {α : Type} {one : RwM α} {enc : α → List UInt8} (h : CanW one enc) : CanW (lsM one) (fun l => wInt l.length ++ l.flatMap enc) := fun s hf hw => by
  rw [lsM_eq] at hf hw ⊢
  obtain ⟨h1, h2, l, h3, h4, h5⟩ := can_go h _ _ _ hf hw
  have h2 : (s.2 || decide (s.1.int.1 < 0)) = false := h2
  rw [Bool.or_eq_false_iff] at h2
  have hn : ¬ s.1.int.1 < 0 := of_decide_eq_false h2.2
  obtain ⟨g1, g2⟩ := can_int s.1 h1
  refine ⟨g1, h2.1, ?_⟩
  rw [h3, List.nil_append]
  dsimp only
  rw [h4, show (((s.1.int.1.toNat : Nat)) : Int) = s.1.int.1 by omega, List.append_assoc, ← h5]
  exact g2
theorem canw_rw : CanW rwM Rw.bytes := fun s hf hw => by
  obtain ⟨b1, b2⟩ := can_text (s.1.text).2 hf
  obtain ⟨a1, a2⟩ := can_text s.1 b1
  refine ⟨a1, hw, ?_⟩
  rw [a2, b2]
  unfold Rw.bytes rwM RwM.bind RdM.lift RwM.ret
  simp only [List.append_assoc]
theorem canw_msg : CanW msgM Msg.bytes := can_msg.lift
theorem canw_obj : CanW objM Ob.bytes := fun s hf hw => by
  obtain ⟨s1, hs1⟩ : ∃ s1 : RdW, s1 = (s.1.text.2.int.2.int.2, s.2) := ⟨_, rfl⟩
  obtain ⟨s2, hs2⟩ : ∃ s2, s2 = (lsM rwM s1).2 := ⟨_, rfl⟩
  obtain ⟨s3, hs3⟩ : ∃ s3, s3 = (lsM msgM s2).2 := ⟨_, rfl⟩
  have hob : objM s = (⟨s.1.text.1, s.1.text.2.int.1, s.1.text.2.int.2.int.1, (lsM rwM s1).1, (lsM msgM s2).1, (lsM msgM s3).1⟩, (lsM msgM s3).2) := by subst hs3; subst hs2; subst hs1; rfl
  rw [hob] at hf hw ⊢
  dsimp only at hf hw ⊢
  obtain ⟨d1, d2, d3⟩ := canw_msg.ls s3 hf hw
  rw [hs3] at d1 d2
  obtain ⟨c1, c2, c3⟩ := canw_msg.ls s2 d1 d2
  rw [hs2] at c1 c2
  obtain ⟨b1, b2, b3⟩ := canw_rw.ls s1 c1 c2
  rw [hs1] at b1 b2
  obtain ⟨a1, a2⟩ := can_int s.1.text.2.int.2 b1
  obtain ⟨z1, z2⟩ := can_int s.1.text.2 a1
  obtain ⟨y1, y2⟩ := can_text s.1 z1
  refine ⟨y1, b2, ?_⟩
  have e1 : s1.1.bs = s.1.text.2.int.2.int.2.bs := by rw [hs1]
  rw [y2, z2, a2, ← e1, b3, ← hs2, c3, ← hs3, d3]
  unfold Ob.bytes msgsBytes
  simp only [List.append_assoc]
theorem imgRead_can {b : List UInt8} {s : Stt} (h : imgRead b = some s) : b = s.bytes ∧ s.right = true := by
  unfold imgRead at h
  dsimp only at h
  split at h
  · cases h
  · rename_i hc
    simp only [Bool.or_eq_true, Bool.not_eq_true', not_or, Bool.not_eq_true, Bool.not_eq_false] at hc
    obtain ⟨h1, h2, h3⟩ := hc
    unfold Rd.done at h1
    rw [Bool.and_eq_true, Bool.not_eq_true'] at h1
    have hs : (sttM (⟨b, false⟩, false)).1 = s := by cases h; rfl
    rw [hs] at h3
    refine ⟨?_, h3⟩
    have he : (sttM (⟨b, false⟩, false)) = (⟨(Rd.int ⟨b, false⟩).1, (lsM objM ((Rd.int ⟨b, false⟩).2, false)).1⟩, (lsM objM ((Rd.int ⟨b, false⟩).2, false)).2) := rfl
    rw [he] at h1 h2 hs
    dsimp only at h1 h2
    obtain ⟨a1, a2, a3⟩ := canw_obj.ls _ h1.1 h2
    obtain ⟨z1, z2⟩ := can_int ⟨b, false⟩ a1
    have hn : (lsM objM ((Rd.int ⟨b, false⟩).2, false)).2.1.bs = [] := List.isEmpty_iff.1 h1.2
    have z2 : b = wInt (Rd.int ⟨b, false⟩).1 ++ (Rd.int ⟨b, false⟩).2.bs := z2
    have a3 : (Rd.int ⟨b, false⟩).2.bs = _ := a3
    rw [hn, List.append_nil] at a3
    rw [a3] at z2
    rw [← hs]
    exact z2
def Stt.cnt (s : Stt) : Nat := (s.objs.map Ob.cnt).sum
theorem Sz.cnt_st (s : Sz) : s.cnt s.l.length = s.st.cnt := by
  unfold Sz.cnt Stt.cnt Sz.st
  rw [List.take_length, List.map_map]; rfl
theorem flat_ge {α : Type} {f : α → List UInt8} {g : α → Nat} : ∀ (l : List α), (∀ x ∈ l, g x ≤ (f x).length) → (l.map g).sum ≤ (l.flatMap f).length
  | [], _ => Nat.zero_le _
  | x :: l, h => by
    have h1 := h x List.mem_cons_self
    have h2 := flat_ge l (fun y hy => h y (List.mem_cons_of_mem _ hy))
    simp only [List.map_cons, List.sum_cons, List.flatMap_cons, List.length_append]; omega
theorem sum_one {α : Type} : ∀ (l : List α), (l.map (fun _ => 1)).sum = l.length
  | [] => rfl
  | _ :: l => by simp only [List.map_cons, List.sum_cons, List.length_cons, sum_one l]; omega
theorem cnt_bytes (s : Stt) : s.cnt ≤ s.bytes.length := by
  unfold Stt.cnt Stt.bytes
  rw [List.length_append, List.length_append]
  have := flat_ge (f := Ob.bytes) (g := Ob.cnt) s.objs (fun o _ => by
    have h1 := flat_ge (f := Rw.bytes) (g := fun _ => 1) o.rows (fun r _ => by unfold Rw.bytes; rw [List.length_append, wText_length]; omega)
    have h2 := flat_ge (f := Msg.bytes) (g := fun _ => 1) o.msgs (fun r _ => by unfold Msg.bytes; simp only [List.length_append, wInt_length]; omega)
    have h3 := flat_ge (f := Msg.bytes) (g := fun _ => 1) o.dead (fun r _ => by unfold Msg.bytes; simp only [List.length_append, wInt_length]; omega)
    rw [sum_one] at h1 h2 h3
    unfold Ob.cnt Ob.bytes msgsBytes
    simp only [List.length_append, wInt_length, wText_length]; omega)
  omega
theorem sum_set_le {α : Type} {f : α → Nat} {c : Nat} : ∀ {l : List α} {i : Nat} {x y : α}, l[i]? = some x → f y ≤ f x + c → ((l.set i y).map f).sum ≤ (l.map f).sum + c
  | [], _, _, _, h, _ => by simp at h
  | a :: l, 0, x, y, h, hf => by
    simp at h; subst h
    simp only [List.set_cons_zero, List.map_cons, List.sum_cons]; omega
  | a :: l, i + 1, x, y, h, hf => by
    have := sum_set_le (l := l) (i := i) (by simpa using h) hf
    simp only [List.set_cons_succ, List.map_cons, List.sum_cons]; omega
theorem sum_ins {α : Type} {f : α → Nat} (l : List α) (i : Nat) (x : α) : ((insAt l i x).map f).sum = (l.map f).sum + f x := by
  unfold insAt
  conv => rhs; rw [← List.take_append_drop i l]
  simp only [List.map_append, List.sum_append, List.map_cons, List.map_nil, List.sum_cons, List.sum_nil]
  omega
theorem tableO_cnt (o : Ob) (e : Eff) : (tableO o e).1.cnt ≤ o.cnt + 1 := by
  unfold tableO
  split
  · have hl : (putR o.rows ⟨e.key, e.value⟩).length ≤ o.rows.length + 1 := by
      unfold putR
      split
      · rw [List.length_set]; omega
      · exact insAt_le _ _ _
    show 1 + (putR o.rows ⟨e.key, e.value⟩).length + o.msgs.length + o.dead.length ≤ 1 + o.rows.length + o.msgs.length + o.dead.length + 1
    omega
  · have hl : (cutR o.rows e.key).1.length ≤ o.rows.length := by
      unfold cutR
      split
      · exact List.length_eraseIdx_le _ _
      · exact Nat.le_refl _
    show 1 + (cutR o.rows e.key).1.length + o.msgs.length + o.dead.length ≤ 1 + o.rows.length + o.msgs.length + o.dead.length + 1
    omega
theorem freeO_cnt (o : Ob) (id : Int) (t : Bool) : (freeO o id t).1.cnt ≤ o.cnt + 1 := by
  unfold freeO
  split
  · exact Nat.le_succ _
  · split
    · exact Nat.le_succ _
    · split
      · show 1 + _ + (o.msgs.set _ _).length + _ ≤ 1 + _ + o.msgs.length + _ + 1
        rw [List.length_set]; exact Nat.le_succ _
      · split
        · have := List.length_eraseIdx_le o.msgs (findM o.msgs id).toNat
          show 1 + o.rows.length + (o.msgs.eraseIdx _).length + (o.dead ++ [_]).length ≤ 1 + o.rows.length + o.msgs.length + o.dead.length + 1
          rw [List.length_append, List.length_singleton]; omega
        · show 1 + _ + (o.msgs.set _ _).length + _ ≤ 1 + _ + o.msgs.length + _ + 1
          rw [List.length_set]; exact Nat.le_succ _
theorem queueO_cnt (s : Stt) (o : Ob) (e : Eff) : (queueO s o e).1.cnt ≤ o.cnt + 1 := by
  unfold queueO
  split
  · split
    · exact Nat.le_succ _
    · split
      · exact Nat.le_succ _
      · have := insAt_le o.msgs (plc (fun x => decide (0 < cmpM x e.msg)) o.msgs) e.msg
        show 1 + o.rows.length + (addM o.msgs e.msg).length + o.dead.length ≤ 1 + o.rows.length + o.msgs.length + o.dead.length + 1
        unfold addM; omega
  · split
    · have : (cutM o.msgs e.n).1.length ≤ o.msgs.length := by
        unfold cutM
        split
        · exact Nat.le_refl _
        · exact List.length_eraseIdx_le _ _
      show 1 + o.rows.length + (cutM o.msgs e.n).1.length + o.dead.length ≤ 1 + o.rows.length + o.msgs.length + o.dead.length + 1
      omega
    · split
      · split
        · exact Nat.le_succ _
        · have : (claimM o.msgs e.n true).1.length ≤ o.msgs.length := by
            unfold claimM
            split
            · exact Nat.le_refl _
            · split
              · exact Nat.le_refl _
              · exact Nat.le_of_eq List.length_set
          show 1 + o.rows.length + (claimM o.msgs e.n true).1.length + o.dead.length ≤ 1 + o.rows.length + o.msgs.length + o.dead.length + 1
          omega
      · split
        · exact freeO_cnt o e.n e.tried
        · exact Nat.le_succ _
theorem doS_cnt (s : Stt) (e : Eff) : (doS s e).1.cnt ≤ s.cnt + 1 := by
  unfold doS
  split
  · exact Nat.le_succ _
  · split
    · unfold makeS
      split
      · exact Nat.le_succ _
      · split
        · exact Nat.le_succ _
        · show ((insAt s.objs _ _).map Ob.cnt).sum ≤ _
          rw [sum_ins]; exact Nat.le_refl _
    · split
      · unfold nextS
        split
        · exact Nat.le_succ _
        · exact Nat.le_succ _
      · split
        · exact Nat.le_succ _
        · rename_i cf
          obtain ⟨i, o, ho, hi, _⟩ := SR.obj_at cf
          rw [hi, gd_at ho]
          split
          · exact Nat.le_succ _
          · split
            · exact sum_set_le ho (tableO_cnt o e)
            · exact sum_set_le ho (queueO_cnt s o e)
theorem doAll_cnt : ∀ (l : List Eff) (s : Stt), (doAll s l).1.cnt ≤ s.cnt + l.length
  | [], s => Nat.le_refl _
  | e :: l, s => by
    unfold doAll
    split
    · have h1 := doS_cnt s e
      have h2 := doAll_cnt l (doS s e).1
      rw [List.length_cons]; omega
    · exact Nat.zero_le _
theorem apply_cnt (s : Stt) (l : List Eff) : (applyS s l).1.cnt ≤ s.cnt + l.length := by
  unfold applyS
  split
  · exact Nat.zero_le _
  · exact doAll_cnt l s
theorem sum_ge {α : Type} {f : α → Nat} {c : Nat} : ∀ (l : List α), (∀ x ∈ l, c ≤ f x) → l.length * c ≤ (l.map f).sum
  | [], _ => by simp
  | x :: l, h => by
    have h1 := h x List.mem_cons_self
    have h2 := sum_ge l (fun y hy => h y (List.mem_cons_of_mem _ hy))
    simp only [List.map_cons, List.sum_cons, List.length_cons, Nat.succ_mul]; omega
theorem sum_mul_le {α : Type} {f g : α → Nat} {c : Nat} : ∀ (l : List α), (∀ x ∈ l, g x * c ≤ f x) → (l.map g).sum * c ≤ (l.map f).sum
  | [], _ => by simp
  | x :: l, h => by
    have h1 := h x List.mem_cons_self
    have h2 := sum_mul_le l (fun y hy => h y (List.mem_cons_of_mem _ hy))
    simp only [List.map_cons, List.sum_cons, Nat.add_mul]; omega
theorem ob_cnt_size (o : Ob) : o.cnt * 20 ≤ o.size := by
  have a := sum_ge (f := Rw.size) (c := 20) o.rows (fun r _ => by unfold Rw.size; omega)
  have b := sum_ge (f := Msg.wt) (c := 20) o.msgs (fun r _ => by unfold Msg.wt; omega)
  have c := sum_ge (f := Msg.wt) (c := 20) o.dead (fun r _ => by unfold Msg.wt; omega)
  unfold Ob.cnt Ob.size; omega
theorem cnt_size (s : Stt) : s.cnt * 20 ≤ s.size := by
  have := sum_mul_le (f := Ob.size) (g := Ob.cnt) (c := 20) s.objs (fun o _ => ob_cnt_size o)
  unfold Stt.cnt Stt.size; omega
theorem ob_size_right {o : Ob} (h : o.right = true) : o.size ≤ o.cnt * 400 := by
  obtain ⟨s1, s2, s3, s4⟩ := ob_small h
  have a := sum_le_mul (f := Rw.size) (c := 400) o.rows (fun r hr => by have := s2 r hr; unfold Rw.size; omega)
  have b := sum_le_mul (f := Msg.wt) (c := 400) o.msgs (fun r hr => by have := s3 r hr; unfold Msg.wt; omega)
  have c := sum_le_mul (f := Msg.wt) (c := 400) o.dead (fun r hr => by have := s4 r hr; unfold Msg.wt; omega)
  unfold Ob.cnt Ob.size; omega
theorem size_right {s : Stt} (h : s.right = true) : s.size ≤ 16 + s.cnt * 400 := by
  have key : ∀ l : List Ob, (∀ o ∈ l, o.right = true) → (l.map Ob.size).sum ≤ (l.map Ob.cnt).sum * 400 := fun l => by
    induction l with
    | nil => intro _; simp
    | cons o l ih =>
      intro hl
      have h1 := ob_size_right (hl o List.mem_cons_self)
      have h2 := ih (fun x hx => hl x (List.mem_cons_of_mem _ hx))
      simp only [List.map_cons, List.sum_cons, Nat.add_mul]; omega
  have := key s.objs (stt_obs h)
  unfold Stt.size Stt.cnt; omega
theorem small_cnt {s : Stt} {n m : Nat} (h : s.small n) (hc : s.cnt ≤ m) : s.small m := by
  refine ⟨h.nx, h.len, fun o ho => ?_⟩
  have h1 : o.cnt ≤ s.cnt := by
    unfold Stt.cnt
    obtain ⟨i, hi⟩ := List.mem_iff_getElem?.1 ho
    have h2 := sum_succ (f := Ob.cnt) hi
    have h3 := sum_take_le (f := Ob.cnt) s.objs (i + 1)
    omega
  unfold Ob.cnt at h1
  exact ⟨(h.obs o ho).1, by omega, by omega, by omega⟩
theorem ob_sm {o : Ob} (h : o.right = true) (hl : o.cnt ≤ 140737488351232) : o.sm := by
  have hc := hl
  unfold Ob.cnt at hc
  have key : effName o.name = true ∧ effKind o.kind o.limit = true ∧ (∀ r ∈ o.rows, r.sm) ∧ (∀ m ∈ o.msgs, m.sm) ∧ (∀ m ∈ o.dead, m.sm) := by
    unfold Ob.right at h
    by_cases hk : o.kind = 1
    · rw [if_pos hk] at h
      simp only [Bool.and_eq_true, decide_eq_true_eq, List.all_eq_true] at h
      obtain ⟨⟨a, b⟩, ⟨⟨c, d⟩, e⟩, f⟩ := h
      have hm : o.msgs = [] := List.length_eq_zero_iff.1 tO
      have hd : o.dead = [] := List.length_eq_zero_iff.1 tO
      exact ⟨a, b, fun r hr => rw_sm (f r hr), by simp [hm], by simp [hd]⟩
    · rw [if_neg hk] at h
      simp only [Bool.and_eq_true, decide_eq_true_eq, List.all_eq_true] at h
      obtain ⟨⟨a, b⟩, ⟨⟨c, d⟩, e⟩, f⟩ := h
      have hr : o.rows = [] := List.length_eq_zero_iff.1 tO
      exact ⟨a, b, by simp [hr], fun m hm => Msg.sm_right (e m hm), fun m hm => Msg.sm_right (f m hm).2⟩
  obtain ⟨k1, k2, k3, k4, k5⟩ := key
  have k1' := k1
  unfold effName at k1'
  rw [Bool.and_eq_true, decide_eq_true_eq, decide_eq_true_eq] at k1'
  have k2' : (1 ≤ o.kind ∧ o.kind ≤ 2) ∧ 0 ≤ o.limit ∧ o.limit ≤ 1000 := by
    unfold effKind at k2
    split at k2
    · have := of_decide_eq_true k2; omega
    · split at k2
      · rw [Bool.and_eq_true, decide_eq_true_eq, decide_eq_true_eq] at k2; omega
      · cases k2
  exact ⟨by omega, by omega, by omega, k3, k4, k5, by omega, by omega, by omega⟩
theorem cnt_mem {s : Stt} {o : Ob} (ho : o ∈ s.objs) : o.cnt ≤ s.cnt := by
  unfold Stt.cnt
  obtain ⟨i, hi⟩ := List.mem_iff_getElem?.1 ho
  have h2 := sum_succ (f := Ob.cnt) hi
  have h3 := sum_take_le (f := Ob.cnt) s.objs (i + 1)
  omega
theorem st_small {s : Stt} (h : s.right = true) {n : Nat} (hc : s.cnt ≤ n) (hn : n ≤ 140737488351232) : s.small n := by
  have hs := right_SR h
  refine ⟨by have := hs.nx; omega, by have := hs.len; omega, fun o ho => ?_⟩
  have h1 := cnt_mem ho
  have h2 := ob_sm (hs.obj o ho) tO
  unfold Ob.cnt at h1
  exact ⟨h2, by omega, by omega, by omega⟩
attribute [local irreducible] Rd.eff Rd.int Rd.text Rd.flag Rd.msg
theorem effs_len : ∀ (n : Nat) (s : Rd) (l : List Eff), (Rd.effs n s).1 = some l → l.length = n ∧ n ≤ s.bs.length
  | 0, s, l, h => by
    rw [effs_zero] at h
    cases h
    exact ⟨rfl, Nat.zero_le _⟩
  | n + 1, s, l, h => by
    rw [effs_succ] at h
    split at h
    · cases h
    · rename_i hc
      simp only [Bool.or_eq_true, Bool.not_eq_true', not_or, Bool.not_eq_true, Bool.not_eq_false] at hc
      obtain ⟨l', hl', rfl⟩ := Option.map_eq_some_iff.1 h
      obtain ⟨h1, h2⟩ := effs_len n _ l' hl'
      have hp : s.eff.2.bs.length < s.bs.length := by
        have hpr : Prog (RdM.lift (Rd.eff : RdM Eff)) := by
          have e : (RdM.lift (Rd.eff : RdM Eff) : RwM Eff) = RwM.bind (RdM.lift Rd.int) fun a => RwM.bind (RdM.lift Rd.text) fun b => RwM.bind (RdM.lift Rd.text) fun c => RwM.bind (RdM.lift Rd.text) fun d => RwM.bind (RdM.lift Rd.int) fun e => RwM.bind (RdM.lift Rd.int) fun f => RwM.bind (RdM.lift Rd.flag) fun g => RwM.bind (RdM.lift Rd.msg) fun h => RwM.ret ⟨a, b, c, d, e, f, g, h⟩ := by rw [eff_is]; rfl
          rw [e]
          exact prog_int.bind (fun _ => prog_text.1.bind fun _ => prog_text.1.bind fun _ => prog_text.1.bind fun _ => prog_int.1.bind fun _ => prog_int.1.bind fun _ => down_flag.bind fun _ => prog_msg.1.bind fun _ => .ret _)
            (fun _ => (PreW.lift pre_text).bind fun _ => (PreW.lift pre_text).bind fun _ => (PreW.lift pre_text).bind fun _ => (PreW.lift pre_int).bind fun _ => (PreW.lift pre_int).bind fun _ => (PreW.lift pre_flag).bind fun _ => (PreW.lift pre_msg).bind fun _ => .ret _)
        rcases hpr.2 (s, false) with hf | hl
        · have hf : s.eff.2.f = true := hf
          rw [hc.1] at hf; cases hf
        · exact hl
      exact ⟨by rw [List.length_cons, h1], by omega⟩
theorem effRead_len {b : List UInt8} {l : List Eff} (h : effRead b = some l) : l.length ≤ b.length := by
  unfold effRead at h
  dsimp only at h
  split at h
  · cases h
  · split at h
    · cases h
    · rename_i l' hl'
      split at h
      · cases h
        obtain ⟨h1, h2⟩ := effs_len _ _ _ hl'
        have h3 := prog_int.1 (⟨b, false⟩, false)
        have h3 : (Rd.int ⟨b, false⟩).2.bs.length ≤ b.length := h3
        omega
      · cases h
end Go.Proofs.YtkbhldicnamcdaaGreat.L
namespace Go.Proofs.YtkbhldicnamcdaaGreat.L
open Go Go.Proofs
attribute [local irreducible] pv fv pt fz RowF RowO rowP old pure_ elA Rd.int Rd.text Rd.flag Rd.msg Rd.rint Rd.rtext Rd.rflag Rd.rmsg
set_option maxRecDepth 100000
set_option linter.unusedSimpArgs false
set_option linter.unusedVariables false
attribute [local irreducible] Rd.eff
theorem St.exG {ι : Type} {f : ι → List HP} {ρ : World} {L L' : List HP} {w : World} (i : ι) (g : Give L (f i) L') (h : St ρ L w) : St ρ (HP.ex f :: L') w := St.exI i (h.give g)
abbrev IR (p rb : Nat) (w : Bool) (q : Option Addr) (cap : Nat) (s : Rd) : List HP := pv p 173 [.pointer (some ⟨rb, 0, none⟩), .bool w] :: RdL rb q cap s
set_option maxHeartbeats 1600000 in
theorem im_list {α : Type} (R : List α → HP) (one : RwM α) (P : α → Prop) (N : Nat) (f : FuncId) (cs : List Value) (p rb : Nat) (hp : Prog one) (hP : ∀ s : RdW, s.1.bs.length ≤ N → P (one s).1)
    (hf : ∀ (q : Option Addr) (cap : Nat) (s : Rd) (w : Bool) (acc : List α), s.bs.length ≤ cap → s.f = false → Gs P N acc (s, w) → Fn Tryz.prog f cs.toArray (R acc :: IR p rb w q cap s) (fun v post => ∃ q' cap', v = .tuple #[] ∧ post = R (acc ++ [(one (s, w)).1]) :: IR p rb (one (s, w)).2.2 q' cap' (one (s, w)).2.1 ∧ (one (s, w)).2.1.bs.length ≤ cap'))
    (q : Option Addr) (cap : Nat) (s0 : Rd) (w0 : Bool) (hc : s0.bs.length ≤ cap) (hN : s0.bs.length ≤ N) :
    Fn Tryz.prog 125 [.pointer (some ⟨p, 0, none⟩), .func (.func f) #[] cs.toArray].toArray (R [] :: IR p rb w0 q cap s0)
      (fun v post => ∃ q' cap', v = .tuple #[] ∧ post = R (lsM one (s0, w0)).1 :: IR p rb (lsM one (s0, w0)).2.2 q' cap' (lsM one (s0, w0)).2.1 ∧ (lsM one (s0, w0)).2.1.bs.length ≤ cap') := by
  have hg0 := Gs.nil (P := P) (N := N) (s := (s0, w0)) hN
  have hrng := s0.int_rng
  have hls := lsM_eq one (s0, w0)
  dsimp only at hg0 hls
  refine Fn.enter (N := 37) Tryz.func125 rfl Tryz.ntmps125 tK rfl (fun ρ L => ?_)
  refine K.seq <| K.region <| KO.q rfl (q_move rfl) <| KO.q rfl (q_nilCheck rfl) <| KO.q rfl (q_field fo_173_0 rfl) <| KO.q rfl (q_load1D ck_170 rfl) <| KO.loud rfl (OpL.callD rfl (h := rd_Int _ _ _ _ (by assumption))) ?_
  rintro _ _ ⟨_, ⟨q1, c1, rfl, rfl, hc1⟩, rfl⟩
  refine KO.q rfl (q_assign rfl) <| KO.done <| K.seq <| K.region <| KO.q rfl (q_move rfl) <| KO.q rfl (q_move rfl) <| KO.q rfl (q_nilCheck rfl) <| KO.q rfl (q_field fo_173_1 rfl) <| KO.q rfl (q_load1D ck_4 rfl) <| KO.q rfl (q_move rfl) ?_
  first | refine KO.dsplit 16 rfl (fun g16 => ?_) (fun g16 => ?_) | refine KO.split 16 rfl (fun g16 => ?_) (fun g16 => ?_)
  · obtain rfl : w0 = true := g16
    rw [Bool.true_or] at hls hg0
    refine KO.skip rfl <| KO.skip rfl <| KO.q rfl (q_pickT rfl rfl) <| KO.q rfl (q_nilCheck rfl) <| KO.q rfl (q_field fo_173_1 rfl) <| KO.loudN rfl (l_store1 ck_4 rfl rfl rfl tP tA) ?_
    rintro _ _ ⟨rfl, rfl⟩
    refine KO.done <| K.seq <| K.region <| KO.q rfl (q_assign rfl) <| KO.done <| K.block ?_
    refine K.rounds2 (ι := { x : Nat × List α × Rd × Bool × Option Addr × Nat // x.1 ≤ s0.int.1.toNat ∧ x.2.2.1.bs.length ≤ x.2.2.2.2.2 ∧ Gs P N x.2.1 (x.2.2.1, x.2.2.2.1) ∧ lsM one (s0, _) = lsGo one (s0.int.1.toNat - x.1) x.2.1 (x.2.2.1, x.2.2.2.1) }) (fun x => [(5, .int .i64 x.1.1), (4, .int .i64 s0.int.1), (0, .pointer (some ⟨p, 0, none⟩)), (1, .func (.func f) #[] cs.toArray)]) (fun x => R x.1.2.1 :: IR p rb x.1.2.2.2.1 x.1.2.2.2.2.1 x.1.2.2.2.2.2 x.1.2.2.1 ++ L) (fun x => s0.int.1.toNat - x.1.1) ⟨(0, [], s0.int.2, _, q1, c1), Nat.zero_le _, hc1, hg0, hls⟩ tS (fun w h => h.fitD) (fun x ih => ?_)
    obtain ⟨⟨i, acc, s, wf, q', cap'⟩, hi, hcs, hgs, hinv⟩ := x
    dsimp only at hi hcs hgs hinv ⊢
    refine K.seq <| K.seq <| K.region <| KO.q rfl (q_move rfl) <| KO.q rfl (q_move rfl) <| KO.q rfl (q_lt rfl rfl) <| KO.q rfl (q_move rfl) ?_
    refine KO.dsplit 25 rfl (fun g25 => ?_) (fun g25 => ?_)
    · refine KO.q rfl (q_move rfl) <| KO.q rfl (q_nilCheck rfl) <| KO.q rfl (q_field fo_173_0 rfl) <| KO.q rfl (q_load1D ck_170 rfl) <| KO.loud rfl (OpL.callD rfl (h := rd_Failed _ _ _ _)) ?_
      rintro _ _ ⟨_, ⟨rfl, rfl⟩, rfl⟩
      refine KO.q rfl (q_not rfl) <| KO.q rfl (q_pickT rfl rfl) <| KO.done ?_
      refine K.bcond (s := 32) rfl (fun g32 => ?_) (fun g32 => ?_)
      · have hsf : s.f = false := by simpa using g32
        have hst := lsGo_succ one (s0.int.1.toNat - (i + 1)) acc (s, wf)
        rw [show s0.int.1.toNat - (i + 1) + 1 = s0.int.1.toNat - i by omega, if_neg (by simp [hsf])] at hst
        refine K.skip <| K.seq <| K.block <| K.region <| KO.q rfl (q_move rfl) <| KO.loud rfl (OpL.callCG (first := []) (captured := cs) rfl rfl tG (hf q' cap' s wf acc hcs hsf hgs)) ?_
        rintro _ _ ⟨_, ⟨q2, c2, rfl, rfl, hc2⟩, rfl⟩
        refine KO.done <| K.inBlock <| K.region <| KO.q rfl (q_move rfl) <| KO.q rfl (q_add rfl rfl tN tN) <| KO.q rfl (q_assign rfl) <| KO.done ?_
        refine K.weak ?_ ?_ (ih ⟨(i + 1, acc ++ [(one (s, wf)).1], (one (s, wf)).2.1, (one (s, wf)).2.2, q2, c2), ?_, hc2, hgs.step hp hP hsf, hinv.trans hst⟩ ?_)
        · exact tS
        · intro w h
          dsimp only
          exact h.fitD
        · show i + 1 ≤ s0.int.1.toNat
          omega
        · show s0.int.1.toNat - (i + 1) < s0.int.1.toNat - i
          omega
      · refine K.exit rfl ?_
        refine K.fin (fn := Tryz.f125) Tryz.func125 (fun a w hk hs => res0 Tryz.results125) (fun w hs => ?_)
        have hz : lsGo one (s0.int.1.toNat - i) acc (s, wf) = (acc, (s, wf)) := by
          first
            | exact lsGo_f _ _ _ _ (by simpa using g32)
            | (rw [show s0.int.1.toNat - i = 0 by omega]; exact lsGo_zero _ _ _)
        rw [hz] at hinv
        rw [hinv]
        exact ⟨_, R acc :: IR p rb wf q' cap' s, rfl, ⟨q', cap', rfl, rfl, hcs⟩, hs.fitD⟩
    · refine KO.skip rfl <| KO.skip rfl <| KO.skip rfl <| KO.skip rfl <| KO.skip rfl <| KO.skip rfl <| KO.q rfl (q_pickF rfl rfl) <| KO.done <| K.no rfl <| K.exit rfl ?_
      refine K.fin (fn := Tryz.f125) Tryz.func125 (fun a w hk hs => res0 Tryz.results125) (fun w hs => ?_)
      have hz : lsGo one (s0.int.1.toNat - i) acc (s, wf) = (acc, (s, wf)) := by
        first
          | exact lsGo_f _ _ _ _ (by simpa using g32)
          | (rw [show s0.int.1.toNat - i = 0 by omega]; exact lsGo_zero _ _ _)
      rw [hz] at hinv
      rw [hinv]
      exact ⟨_, R acc :: IR p rb wf q' cap' s, rfl, ⟨q', cap', rfl, rfl, hcs⟩, hs.fitD⟩
  · obtain rfl : w0 = false := g16
    rw [Bool.false_or] at hls hg0
    refine KO.q rfl (q_move rfl) <| KO.q rfl (q_lt rfl rfl) <| KO.q rfl (q_pickF rfl rfl) <| KO.q rfl (q_nilCheck rfl) <| KO.q rfl (q_field fo_173_1 rfl) <| KO.loudN rfl (l_store1 ck_4 rfl rfl rfl tP tA) ?_
    rintro _ _ ⟨rfl, rfl⟩
    refine KO.done <| K.seq <| K.region <| KO.q rfl (q_assign rfl) <| KO.done <| K.block ?_
    refine K.rounds2 (ι := { x : Nat × List α × Rd × Bool × Option Addr × Nat // x.1 ≤ s0.int.1.toNat ∧ x.2.2.1.bs.length ≤ x.2.2.2.2.2 ∧ Gs P N x.2.1 (x.2.2.1, x.2.2.2.1) ∧ lsM one (s0, _) = lsGo one (s0.int.1.toNat - x.1) x.2.1 (x.2.2.1, x.2.2.2.1) }) (fun x => [(5, .int .i64 x.1.1), (4, .int .i64 s0.int.1), (0, .pointer (some ⟨p, 0, none⟩)), (1, .func (.func f) #[] cs.toArray)]) (fun x => R x.1.2.1 :: IR p rb x.1.2.2.2.1 x.1.2.2.2.2.1 x.1.2.2.2.2.2 x.1.2.2.1 ++ L) (fun x => s0.int.1.toNat - x.1.1) ⟨(0, [], s0.int.2, _, q1, c1), Nat.zero_le _, hc1, hg0, hls⟩ tS (fun w h => h.fitD) (fun x ih => ?_)
    obtain ⟨⟨i, acc, s, wf, q', cap'⟩, hi, hcs, hgs, hinv⟩ := x
    dsimp only at hi hcs hgs hinv ⊢
    refine K.seq <| K.seq <| K.region <| KO.q rfl (q_move rfl) <| KO.q rfl (q_move rfl) <| KO.q rfl (q_lt rfl rfl) <| KO.q rfl (q_move rfl) ?_
    refine KO.dsplit 25 rfl (fun g25 => ?_) (fun g25 => ?_)
    · refine KO.q rfl (q_move rfl) <| KO.q rfl (q_nilCheck rfl) <| KO.q rfl (q_field fo_173_0 rfl) <| KO.q rfl (q_load1D ck_170 rfl) <| KO.loud rfl (OpL.callD rfl (h := rd_Failed _ _ _ _)) ?_
      rintro _ _ ⟨_, ⟨rfl, rfl⟩, rfl⟩
      refine KO.q rfl (q_not rfl) <| KO.q rfl (q_pickT rfl rfl) <| KO.done ?_
      refine K.bcond (s := 32) rfl (fun g32 => ?_) (fun g32 => ?_)
      · have hsf : s.f = false := by simpa using g32
        have hst := lsGo_succ one (s0.int.1.toNat - (i + 1)) acc (s, wf)
        rw [show s0.int.1.toNat - (i + 1) + 1 = s0.int.1.toNat - i by omega, if_neg (by simp [hsf])] at hst
        refine K.skip <| K.seq <| K.block <| K.region <| KO.q rfl (q_move rfl) <| KO.loud rfl (OpL.callCG (first := []) (captured := cs) rfl rfl tG (hf q' cap' s wf acc hcs hsf hgs)) ?_
        rintro _ _ ⟨_, ⟨q2, c2, rfl, rfl, hc2⟩, rfl⟩
        refine KO.done <| K.inBlock <| K.region <| KO.q rfl (q_move rfl) <| KO.q rfl (q_add rfl rfl tN tN) <| KO.q rfl (q_assign rfl) <| KO.done ?_
        refine K.weak ?_ ?_ (ih ⟨(i + 1, acc ++ [(one (s, wf)).1], (one (s, wf)).2.1, (one (s, wf)).2.2, q2, c2), ?_, hc2, hgs.step hp hP hsf, hinv.trans hst⟩ ?_)
        · exact tS
        · intro w h
          dsimp only
          exact h.fitD
        · show i + 1 ≤ s0.int.1.toNat
          omega
        · show s0.int.1.toNat - (i + 1) < s0.int.1.toNat - i
          omega
      · refine K.exit rfl ?_
        refine K.fin (fn := Tryz.f125) Tryz.func125 (fun a w hk hs => res0 Tryz.results125) (fun w hs => ?_)
        have hz : lsGo one (s0.int.1.toNat - i) acc (s, wf) = (acc, (s, wf)) := by
          first
            | exact lsGo_f _ _ _ _ (by simpa using g32)
            | (rw [show s0.int.1.toNat - i = 0 by omega]; exact lsGo_zero _ _ _)
        rw [hz] at hinv
        rw [hinv]
        exact ⟨_, R acc :: IR p rb wf q' cap' s, rfl, ⟨q', cap', rfl, rfl, hcs⟩, hs.fitD⟩
    · refine KO.skip rfl <| KO.skip rfl <| KO.skip rfl <| KO.skip rfl <| KO.skip rfl <| KO.skip rfl <| KO.q rfl (q_pickF rfl rfl) <| KO.done <| K.no rfl <| K.exit rfl ?_
      refine K.fin (fn := Tryz.f125) Tryz.func125 (fun a w hk hs => res0 Tryz.results125) (fun w hs => ?_)
      have hz : lsGo one (s0.int.1.toNat - i) acc (s, wf) = (acc, (s, wf)) := by
        first
          | exact lsGo_f _ _ _ _ (by simpa using g32)
          | (rw [show s0.int.1.toNat - i = 0 by omega]; exact lsGo_zero _ _ _)
      rw [hz] at hinv
      rw [hinv]
      exact ⟨_, R acc :: IR p rb wf q' cap' s, rfl, ⟨q', cap', rfl, rfl, hcs⟩, hs.fitD⟩
end Go.Proofs.YtkbhldicnamcdaaGreat.L
namespace Go.Proofs.YtkbhldicnamcdaaGreat.L
open Go Go.Proofs
attribute [local irreducible] pv fv pt fz RowF RowO rowP old pure_ elA Rd.int Rd.text Rd.flag Rd.msg Rd.rint Rd.rtext Rd.rflag Rd.rmsg
set_option maxRecDepth 100000
set_option linter.unusedSimpArgs false
set_option linter.unusedVariables false
attribute [local irreducible] Rd.eff lsM
theorem Gs.len {α : Type} {P : α → Prop} {N : Nat} {l : List α} {s : RdW} (h : Gs P N l s) : l.length ≤ N + 1 := by
  have := h.1
  split at this <;> omega
theorem St.fitE {ι : Type} {f : ι → List HP} {ρ : World} {Lc M L' L : List HP} {w : World} (i : ι) (h : St ρ Lc w) (g : Give Lc (f i ++ M) L') (d : Drop L' L) : St ρ ((HP.ex f :: M) ++ L) w := by
  have := h.fit g d
  rw [List.append_assoc] at this
  exact St.exI i this
abbrev RmsF (c0 c1 p : Nat) (acc : List Msg) (z : Option Addr × Nat) : List HP := [pv c0 60 [.slice z.1 acc.length z.2], pv c1 169 [.pointer (some ⟨p, 0, none⟩)], RowO Kd.msg 56 z.1 z.2 acc]
abbrev Rms (c0 c1 p : Nat) (acc : List Msg) : HP := HP.ex (RmsF c0 c1 p acc)
set_option maxHeartbeats 800000 in
theorem im_m1 (c0 c1 p rb : Nat) (q : Option Addr) (cap : Nat) (s : Rd) (wf : Bool) (acc : List Msg) (hc : s.bs.length ≤ cap) (hl : acc.length ≤ 10000000001) : Fn Tryz.prog 202 [.pointer (some ⟨c0, 0, none⟩), .pointer (some ⟨c1, 0, none⟩)].toArray (Rms c0 c1 p acc :: IR p rb wf q cap s)
    (fun v post => ∃ q' cap', v = .tuple #[] ∧ post = Rms c0 c1 p (acc ++ [(msgM (s, wf)).1]) :: IR p rb (msgM (s, wf)).2.2 q' cap' (msgM (s, wf)).2.1 ∧ (msgM (s, wf)).2.1.bs.length ≤ cap') := by
  refine Fn.enter (N := 10) Tryz.func202 rfl Tryz.ntmps202 tK rfl (fun ρ L => ?_)
  refine K.ex (fun w h => St.exP tP h) (fun z => ?_)
  obtain ⟨z1, z2⟩ := z
  dsimp only [List.cons_append, List.nil_append]
  refine K.drawS [pv c1 169 [.pointer (some ⟨p, 0, none⟩)], pv p 173 [.pointer (some ⟨rb, 0, none⟩), .bool wf]] (fun _ h => h.subD) mixed <| dq 1 rfl (q_load1D ck_169 rfl) <| dq 2 rfl (q_nilCheck rfl) <| dq 3 rfl (q_field fo_173_0 rfl) <| dq 4 rfl (q_load1D ck_170 rfl) ?_
  refine D.all (rs := [0, 5]) tK rfl (DAll.cons rfl tK (OpQ.loud (q_load1D ck_60 rfl)) (.inr (by rintro _ _ ⟨rfl, rfl⟩ w h; exact h.subD)) rfl ?_ (DAll.cons rfl tK (OpL.callD rfl (h := msg_Read _ _ _ _ (by assumption))) (.inr (by rintro _ _ ⟨_, ⟨qx, cx, rfl, rfl, hcx⟩, rfl⟩ w h; exact h.subD)) rfl ?_ DAll.nil))
  · rintro _ _ ⟨rfl, rfl⟩
    refine dq1 5 rfl (OpL.callD rfl (h := msg_Read _ _ _ _ (by assumption))) (.inr (by rintro _ _ ⟨_, ⟨qx, cx, rfl, rfl, hcx⟩, rfl⟩ w h; exact h.subD)) ?_
    rintro _ _ ⟨_, ⟨qx, cx, rfl, rfl, hcx⟩, rfl⟩
    refine dq1 6 rfl (l_slice1 sz_60_1 rfl rfl ⟨rfl, rfl, rfl⟩) (.inr (by rintro _ _ ⟨b8, rfl, rfl⟩ w h; exact h.subD)) ?_
    rintro _ _ ⟨b8, rfl, rfl⟩
    refine dq1 7 rfl (l_append Kd.msg se_60 Tryz.underlying60 ⟨_, ze_56, rfl⟩ tD rfl rfl tP isP tM rfl rfl (by first | omega | (simp; omega) | (simp; done))) (.inr (by rintro _ _ ⟨px, capx, rfl, rfl⟩ w h; exact h.subD)) ?_
    rintro _ _ ⟨px, capx, rfl, rfl⟩
    refine dq1N 8 rfl (l_store1 ck_60 rfl rfl rfl tP tA) (.inl tK) ?_
    rintro _ _ ⟨rfl, rfl⟩
    refine D.done tK ?_
    refine K.fin (fn := Tryz.f202) Tryz.func202 (fun a w hk hs => res0 Tryz.results202) (fun w hs => ?_)
    exact ⟨_, Rms c0 c1 p (acc ++ [s.msg.1]) :: IR p rb wf qx cx s.msg.2, rfl, ⟨qx, cx, rfl, rfl, hcx⟩, St.fitE (px, capx) hs tG (by repeat (first | exact Drop.refl | apply Drop.skip))⟩
  · rintro _ _ ⟨_, ⟨qx, cx, rfl, rfl, hcx⟩, rfl⟩
    refine D.all (rs := [0, 6]) tK rfl (DAll.cons rfl tK (OpQ.loud (q_load1D ck_60 rfl)) (.inr (by rintro _ _ ⟨rfl, rfl⟩ w h; exact h.subD)) rfl ?_ (DAll.cons rfl tK (l_slice1 sz_60_1 rfl rfl ⟨rfl, rfl, rfl⟩) (.inr (by rintro _ _ ⟨b8, rfl, rfl⟩ w h; exact h.subD)) rfl ?_ DAll.nil))
    · rintro _ _ ⟨rfl, rfl⟩
      refine dq1 6 rfl (l_slice1 sz_60_1 rfl rfl ⟨rfl, rfl, rfl⟩) (.inr (by rintro _ _ ⟨b8, rfl, rfl⟩ w h; exact h.subD)) ?_
      rintro _ _ ⟨b8, rfl, rfl⟩
      refine dq1 7 rfl (l_append Kd.msg se_60 Tryz.underlying60 ⟨_, ze_56, rfl⟩ tD rfl rfl tP isP tM rfl rfl (by first | omega | (simp; omega) | (simp; done))) (.inr (by rintro _ _ ⟨px, capx, rfl, rfl⟩ w h; exact h.subD)) ?_
      rintro _ _ ⟨px, capx, rfl, rfl⟩
      refine dq1N 8 rfl (l_store1 ck_60 rfl rfl rfl tP tA) (.inl tK) ?_
      rintro _ _ ⟨rfl, rfl⟩
      refine D.done tK ?_
      refine K.fin (fn := Tryz.f202) Tryz.func202 (fun a w hk hs => res0 Tryz.results202) (fun w hs => ?_)
      exact ⟨_, Rms c0 c1 p (acc ++ [s.msg.1]) :: IR p rb wf qx cx s.msg.2, rfl, ⟨qx, cx, rfl, rfl, hcx⟩, St.fitE (px, capx) hs tG (by repeat (first | exact Drop.refl | apply Drop.skip))⟩
    · rintro _ _ ⟨b8, rfl, rfl⟩
      refine dq1 0 rfl (OpQ.loud (q_load1D ck_60 rfl)) (.inr (by rintro _ _ ⟨rfl, rfl⟩ w h; exact h.subD)) ?_
      rintro _ _ ⟨rfl, rfl⟩
      refine dq1 7 rfl (l_append Kd.msg se_60 Tryz.underlying60 ⟨_, ze_56, rfl⟩ tD rfl rfl tP isP tM rfl rfl (by first | omega | (simp; omega) | (simp; done))) (.inr (by rintro _ _ ⟨px, capx, rfl, rfl⟩ w h; exact h.subD)) ?_
      rintro _ _ ⟨px, capx, rfl, rfl⟩
      refine dq1N 8 rfl (l_store1 ck_60 rfl rfl rfl tP tA) (.inl tK) ?_
      rintro _ _ ⟨rfl, rfl⟩
      refine D.done tK ?_
      refine K.fin (fn := Tryz.f202) Tryz.func202 (fun a w hk hs => res0 Tryz.results202) (fun w hs => ?_)
      exact ⟨_, Rms c0 c1 p (acc ++ [s.msg.1]) :: IR p rb wf qx cx s.msg.2, rfl, ⟨qx, cx, rfl, rfl, hcx⟩, St.fitE (px, capx) hs tG (by repeat (first | exact Drop.refl | apply Drop.skip))⟩
set_option maxHeartbeats 800000 in
theorem im_msgs (p rb : Nat) (q : Option Addr) (cap : Nat) (s : Rd) (wf : Bool) (hc : s.bs.length ≤ cap) (hN : s.bs.length ≤ 10000000000) : Fn Tryz.prog 165 [.pointer (some ⟨p, 0, none⟩)].toArray (IR p rb wf q cap s)
    (fun v post => ∃ mq mc q' cap', v = .slice mq (lsM msgM (s, wf)).1.length mc ∧ post = RowF Kd.msg mq (lsM msgM (s, wf)).1 :: IR p rb (lsM msgM (s, wf)).2.2 q' cap' (lsM msgM (s, wf)).2.1 ∧ (lsM msgM (s, wf)).2.1.bs.length ≤ cap' ∧ (lsM msgM (s, wf)).1.length ≤ mc) := by
  refine Fn.enter (N := 8) Tryz.func165 rfl Tryz.ntmps165 tK rfl (fun ρ L => ?_)
  refine K.seq <| K.region <| KO.loud rfl (l_box rfl rfl) ?_
  rintro _ _ ⟨b1, rfl, rfl⟩
  refine KO.q rfl (q_assign rfl) <| KO.done <| K.seq <| K.region <| KO.loud rfl (l_alloc zo_60) ?_
  rintro _ _ ⟨b3, rfl, rfl⟩
  refine KO.done <| K.seq <| K.region <| KO.q rfl (q_load1D ck_169 rfl) <| KO.q rfl (q_func rfl rfl) <| KO.st (fun w h => rowO_nil (k := Kd.msg) 56 h) <| KO.st (fun w h => St.exG (f := RmsF b3 b1 p []) (none, 0) tG h) <| KO.loud rfl (OpL.callD rfl (h := im_list (Rms b3 b1 p) msgM Msg.sm 10000000000 202 [.pointer (some ⟨b3, 0, none⟩), .pointer (some ⟨b1, 0, none⟩)] p rb prog_msg (fun s _ => msgM_sm s) (fun q cap s wf acc h1 h2 h3 => im_m1 b3 b1 p rb q cap s wf acc h1 h3.len) q cap s wf hc hN)) ?_
  rintro _ _ ⟨_, ⟨q1, c1, rfl, rfl, hc1⟩, rfl⟩
  refine KO.ex (fun w h => St.exP tP h) (fun z => ?_)
  obtain ⟨z1, z2⟩ := z
  dsimp only [List.cons_append, List.nil_append]
  refine KO.done ?_
  refine K.fact (rowO_cap tM) (fun hcap => ?_)
  refine K.st (fun w h => rowO_freeze (h.pick tP)) <| K.seq <| K.region <| KO.q rfl (q_load1D ck_60 rfl) <| KO.q rfl (q_assign rfl) <| KO.done ?_
  refine kr1 Tryz.func165 Tryz.results165 rfl (fun w hs => ?_)
  exact ⟨_, RowF Kd.msg z1 (lsM msgM (s, wf)).1 :: IR p rb (lsM msgM (s, wf)).2.2 q1 c1 (lsM msgM (s, wf)).2.1, rfl, ⟨z1, z2, q1, c1, rfl, rfl, hc1, hcap⟩, hs.fitD⟩
abbrev RobF (cA cB p : Nat) (nm : ByteArray) (k l : Int) (acc : List Rw) (z : Option Addr × Nat) : List HP := [pv cA 169 [.pointer (some ⟨p, 0, none⟩)], pv cB 62 [.string nm, .int .i64 k, .int .i64 l, .slice z.1 acc.length z.2, .slice none 0 0, .slice none 0 0], RowO Kd.rw 136 z.1 z.2 acc]
abbrev Rob (cA cB p : Nat) (nm : ByteArray) (k l : Int) (acc : List Rw) : HP := HP.ex (RobF cA cB p nm k l acc)
set_option maxHeartbeats 800000 in
theorem im_o1 (cA cB p rb : Nat) (nm : ByteArray) (k l : Int) (q : Option Addr) (cap : Nat) (s : Rd) (wf : Bool) (acc : List Rw) (hc : s.bs.length ≤ cap) (hl : acc.length ≤ 10000000001) : Fn Tryz.prog 164 [.pointer (some ⟨cA, 0, none⟩), .pointer (some ⟨cB, 0, none⟩)].toArray (Rob cA cB p nm k l acc :: IR p rb wf q cap s)
    (fun v post => ∃ q' cap', v = .tuple #[] ∧ post = Rob cA cB p nm k l (acc ++ [(rwM (s, wf)).1]) :: IR p rb (rwM (s, wf)).2.2 q' cap' (rwM (s, wf)).2.1 ∧ (rwM (s, wf)).2.1.bs.length ≤ cap') := by
  refine Fn.enter (N := 20) Tryz.func164 rfl Tryz.ntmps164 tK rfl (fun ρ L => ?_)
  refine K.ex (fun w h => St.exP tP h) (fun z => ?_)
  obtain ⟨z1, z2⟩ := z
  dsimp only [List.cons_append, List.nil_append]
  refine K.seq <| K.region <| KO.q rfl (q_load1D ck_169 rfl) <| KO.q rfl (q_nilCheck rfl) <| KO.q rfl (q_field fo_173_0 rfl) <| KO.q rfl (q_load1D ck_170 rfl) <| KO.loud rfl (OpL.callD rfl (h := rd_Text _ _ _ _ (by assumption))) ?_
  rintro _ _ ⟨_, ⟨q1, c1, rfl, rfl, hc1⟩, rfl⟩
  refine KO.q rfl (q_assign rfl) <| KO.done <| K.drawS [pv cA 169 [.pointer (some ⟨p, 0, none⟩)], pv p 173 [.pointer (some ⟨rb, 0, none⟩), .bool wf]] (fun _ h => h.subD) mixed <| dq 0 rfl (q_field fo_62_3 rfl) <| dq 2 rfl (q_move rfl) <| dq 3 rfl (q_load1D ck_169 rfl) <| dq 4 rfl (q_nilCheck rfl) <| dq 5 rfl (q_field fo_173_0 rfl) <| dq 6 rfl (q_load1D ck_170 rfl) ?_
  refine D.all (rs := [1, 7]) tK rfl (DAll.cons rfl tK (OpQ.loud (q_load1D ck_59 rfl)) (.inr (by rintro _ _ ⟨rfl, rfl⟩ w h; exact h.subD)) rfl ?_ (DAll.cons rfl tK (OpL.callD rfl (h := rd_Text _ _ _ _ (by assumption))) (.inr (by rintro _ _ ⟨_, ⟨qx, cx, rfl, rfl, hcx⟩, rfl⟩ w h; exact h.subD)) rfl ?_ DAll.nil))
  · rintro _ _ ⟨rfl, rfl⟩
    refine dq1 7 rfl (OpL.callD rfl (h := rd_Text _ _ _ _ (by assumption))) (.inr (by rintro _ _ ⟨_, ⟨qx, cx, rfl, rfl, hcx⟩, rfl⟩ w h; exact h.subD)) ?_
    rintro _ _ ⟨_, ⟨qx, cx, rfl, rfl, hcx⟩, rfl⟩
    refine dq 8 rfl (q_as_rw (q_build st_136 rfl tF) (by rfl)) <| dq1 9 rfl (l_slice1 sz_59_1 rfl rfl ⟨rfl, rfl, rfl⟩) (.inr (by rintro _ _ ⟨b17, rfl, rfl⟩ w h; exact h.subD)) ?_
    rintro _ _ ⟨b17, rfl, rfl⟩
    refine dq1 10 rfl (l_append Kd.rw se_59 Tryz.underlying59 ⟨_, ze_136, rfl⟩ tD rfl rfl tP isP tM rfl rfl (by first | omega | (simp; omega) | (simp; done))) (.inr (by rintro _ _ ⟨px, capx, rfl, rfl⟩ w h; exact h.subD)) ?_
    rintro _ _ ⟨px, capx, rfl, rfl⟩
    refine dq 11 rfl (q_field fo_62_3 rfl) <| dq1N 12 rfl (l_store1 ck_59 rfl rfl rfl tP tA) (.inl tK) ?_
    rintro _ _ ⟨rfl, rfl⟩
    refine D.done tK ?_
    refine K.fin (fn := Tryz.f164) Tryz.func164 (fun a w hk hs => res0 Tryz.results164) (fun w hs => ?_)
    exact ⟨_, Rob cA cB p nm k l (acc ++ [(rwM (s, wf)).1]) :: IR p rb wf qx cx s.text.2.text.2, rfl, ⟨qx, cx, rfl, rfl, hcx⟩, St.fitE (px, capx) hs tG (by repeat (first | exact Drop.refl | apply Drop.skip))⟩
  · rintro _ _ ⟨_, ⟨qx, cx, rfl, rfl, hcx⟩, rfl⟩
    refine dq 8 rfl (q_as_rw (q_build st_136 rfl tF) (by rfl)) ?_
    refine D.all (rs := [1, 9]) tK rfl (DAll.cons rfl tK (OpQ.loud (q_load1D ck_59 rfl)) (.inr (by rintro _ _ ⟨rfl, rfl⟩ w h; exact h.subD)) rfl ?_ (DAll.cons rfl tK (l_slice1 sz_59_1 rfl rfl ⟨rfl, rfl, rfl⟩) (.inr (by rintro _ _ ⟨b17, rfl, rfl⟩ w h; exact h.subD)) rfl ?_ DAll.nil))
    · rintro _ _ ⟨rfl, rfl⟩
      refine dq1 9 rfl (l_slice1 sz_59_1 rfl rfl ⟨rfl, rfl, rfl⟩) (.inr (by rintro _ _ ⟨b17, rfl, rfl⟩ w h; exact h.subD)) ?_
      rintro _ _ ⟨b17, rfl, rfl⟩
      refine dq1 10 rfl (l_append Kd.rw se_59 Tryz.underlying59 ⟨_, ze_136, rfl⟩ tD rfl rfl tP isP tM rfl rfl (by first | omega | (simp; omega) | (simp; done))) (.inr (by rintro _ _ ⟨px, capx, rfl, rfl⟩ w h; exact h.subD)) ?_
      rintro _ _ ⟨px, capx, rfl, rfl⟩
      refine dq 11 rfl (q_field fo_62_3 rfl) <| dq1N 12 rfl (l_store1 ck_59 rfl rfl rfl tP tA) (.inl tK) ?_
      rintro _ _ ⟨rfl, rfl⟩
      refine D.done tK ?_
      refine K.fin (fn := Tryz.f164) Tryz.func164 (fun a w hk hs => res0 Tryz.results164) (fun w hs => ?_)
      exact ⟨_, Rob cA cB p nm k l (acc ++ [(rwM (s, wf)).1]) :: IR p rb wf qx cx s.text.2.text.2, rfl, ⟨qx, cx, rfl, rfl, hcx⟩, St.fitE (px, capx) hs tG (by repeat (first | exact Drop.refl | apply Drop.skip))⟩
    · rintro _ _ ⟨b17, rfl, rfl⟩
      refine dq1 1 rfl (OpQ.loud (q_load1D ck_59 rfl)) (.inr (by rintro _ _ ⟨rfl, rfl⟩ w h; exact h.subD)) ?_
      rintro _ _ ⟨rfl, rfl⟩
      refine dq1 10 rfl (l_append Kd.rw se_59 Tryz.underlying59 ⟨_, ze_136, rfl⟩ tD rfl rfl tP isP tM rfl rfl (by first | omega | (simp; omega) | (simp; done))) (.inr (by rintro _ _ ⟨px, capx, rfl, rfl⟩ w h; exact h.subD)) ?_
      rintro _ _ ⟨px, capx, rfl, rfl⟩
      refine dq 11 rfl (q_field fo_62_3 rfl) <| dq1N 12 rfl (l_store1 ck_59 rfl rfl rfl tP tA) (.inl tK) ?_
      rintro _ _ ⟨rfl, rfl⟩
      refine D.done tK ?_
      refine K.fin (fn := Tryz.f164) Tryz.func164 (fun a w hk hs => res0 Tryz.results164) (fun w hs => ?_)
      exact ⟨_, Rob cA cB p nm k l (acc ++ [(rwM (s, wf)).1]) :: IR p rb wf qx cx s.text.2.text.2, rfl, ⟨qx, cx, rfl, rfl, hcx⟩, St.fitE (px, capx) hs tG (by repeat (first | exact Drop.refl | apply Drop.skip))⟩
set_option maxHeartbeats 1600000 in
theorem im_object (p rb : Nat) (q : Option Addr) (cap : Nat) (s : Rd) (wf : Bool) (hc : s.bs.length ≤ cap) (hN : s.bs.length ≤ 10000000000) : Fn Tryz.prog 127 [.pointer (some ⟨p, 0, none⟩)].toArray (IR p rb wf q cap s)
    (fun v post => ∃ z q' cap', v = .agg (Oz.cells ⟨(objM (s, wf)).1, z⟩).toArray ∧ post = ObL ⟨(objM (s, wf)).1, z⟩ ++ IR p rb (objM (s, wf)).2.2 q' cap' (objM (s, wf)).2.1 ∧ (objM (s, wf)).2.1.bs.length ≤ cap' ∧ (objM (s, wf)).1.rows.length ≤ z.c1 ∧ (objM (s, wf)).1.msgs.length ≤ z.c2 ∧ (objM (s, wf)).1.dead.length ≤ z.c3) := by
  have l0 : s.text.2.int.2.int.2.bs.length ≤ 10000000000 := by
    have a := s.text_len
    have b := prog_int.1 (s.text.2, wf)
    have c := prog_int.1 (s.text.2.int.2, wf)
    exact Nat.le_trans c (Nat.le_trans b (Nat.le_trans a hN))
  have l1 := Nat.le_trans (Prog.ls prog_rw.1 (s.text.2.int.2.int.2, wf)) l0
  have l2 := Nat.le_trans (Prog.ls prog_msg.1 (lsM rwM (s.text.2.int.2.int.2, wf)).2) l1
  refine Fn.enter (N := 32) Tryz.func127 rfl Tryz.ntmps127 tK rfl (fun ρ L => ?_)
  refine K.seq <| K.region <| KO.loud rfl (l_box rfl rfl) ?_
  rintro _ _ ⟨b1, rfl, rfl⟩
  refine KO.loud rfl (l_alloc zo_62) ?_
  rintro _ _ ⟨b2, rfl, rfl⟩
  refine KO.done <| K.seq <| K.region <| KO.q rfl (q_load1D ck_169 rfl) <| KO.q rfl (q_nilCheck rfl) <| KO.q rfl (q_field fo_173_0 rfl) <| KO.q rfl (q_load1D ck_170 rfl) <| KO.loud rfl (OpL.callD rfl (h := rd_Text _ _ _ _ (by assumption))) ?_
  rintro _ _ ⟨_, ⟨q1, c1, rfl, rfl, hc1⟩, rfl⟩
  refine KO.q rfl (q_build st_62 rfl tF) <| KO.loud rfl (l_alloc zo_62) ?_
  rintro _ _ ⟨b3, rfl, rfl⟩
  refine KO.loudN rfl (l_storeAll ck_62 rfl rfl ⟨rfl, rfl⟩ (by simp [Value.oneCell']) tP) ?_
  rintro _ _ ⟨rfl, rfl⟩
  refine KO.done <| K.seq <| K.region <| KO.q rfl (q_load1D ck_169 rfl) <| KO.q rfl (q_nilCheck rfl) <| KO.q rfl (q_field fo_173_0 rfl) <| KO.q rfl (q_load1D ck_170 rfl) <| KO.loud rfl (OpL.callD rfl (h := rd_Int _ _ _ _ (by assumption))) ?_
  rintro _ _ ⟨_, ⟨q2, c2, rfl, rfl, hc2⟩, rfl⟩
  refine KO.q rfl (q_field fo_62_1 rfl) <| KO.loudN rfl (l_store1 ck_3 rfl rfl rfl tP tA) ?_
  rintro _ _ ⟨rfl, rfl⟩
  refine KO.done <| K.seq <| K.region <| KO.q rfl (q_load1D ck_169 rfl) <| KO.q rfl (q_nilCheck rfl) <| KO.q rfl (q_field fo_173_0 rfl) <| KO.q rfl (q_load1D ck_170 rfl) <| KO.loud rfl (OpL.callD rfl (h := rd_Int _ _ _ _ (by assumption))) ?_
  rintro _ _ ⟨_, ⟨q3, c3, rfl, rfl, hc3⟩, rfl⟩
  refine KO.q rfl (q_field fo_62_2 rfl) <| KO.loudN rfl (l_store1 ck_3 rfl rfl rfl tP tA) ?_
  rintro _ _ ⟨rfl, rfl⟩
  refine KO.done <| K.seq <| K.region <| KO.q rfl (q_load1D ck_169 rfl) <| KO.q rfl (q_func rfl rfl) <| KO.st (fun w h => rowO_nil (k := Kd.rw) 136 h) <| KO.st (fun w h => St.exG (f := RobF b1 b3 p s.text.1 s.text.2.int.1 s.text.2.int.2.int.1 []) (none, 0) tG h) <| KO.loud rfl (OpL.callD rfl (h := im_list (Rob b1 b3 p s.text.1 s.text.2.int.1 s.text.2.int.2.int.1) rwM Rw.sm 10000000000 164 [.pointer (some ⟨b1, 0, none⟩), .pointer (some ⟨b3, 0, none⟩)] p rb prog_rw (fun s _ => rwM_sm s) (fun q cap s wf acc h1 h2 h3 => im_o1 b1 b3 p rb _ _ _ q cap s wf acc h1 h3.len) q3 c3 _ wf hc3 l0)) ?_
  rintro _ _ ⟨_, ⟨q4, c4, rfl, rfl, hc4⟩, rfl⟩
  refine KO.ex (fun w h => St.exP tP h) (fun z => ?_)
  obtain ⟨z1, z2⟩ := z
  dsimp only [List.cons_append, List.nil_append]
  refine KO.done ?_
  refine K.fact (rowO_cap tM) (fun hcap => ?_)
  refine K.st (fun w h => rowO_freeze (h.pick tP)) <| K.seq <| K.region <| KO.q rfl (q_load1D ck_169 rfl) <| KO.loud rfl (OpL.callD rfl (h := im_msgs p rb _ _ _ _ hc4 l1)) ?_
  rintro _ _ ⟨_, ⟨m1, n1, q5, c5, rfl, rfl, hc5, hcap5⟩, rfl⟩
  refine KO.q rfl (q_field fo_62_4 rfl) <| KO.loudN rfl (l_store1 ck_60 rfl rfl rfl tP tA) ?_
  rintro _ _ ⟨rfl, rfl⟩
  refine KO.done <| K.seq <| K.region <| KO.q rfl (q_load1D ck_169 rfl) <| KO.loud rfl (OpL.callD rfl (h := im_msgs p rb _ _ _ _ hc5 l2)) ?_
  rintro _ _ ⟨_, ⟨m2, n2, q6, c6, rfl, rfl, hc6, hcap6⟩, rfl⟩
  refine KO.q rfl (q_field fo_62_5 rfl) <| KO.loudN rfl (l_store1 ck_60 rfl rfl rfl tP tA) ?_
  rintro _ _ ⟨rfl, rfl⟩
  refine KO.done <| K.seq <| K.region <| KO.q rfl (q_as_oz (q_loadN ck_62 rfl rfl tC) (by rfl)) <| KO.loudN rfl (l_storeAll ck_62 rfl rfl ⟨rfl, rfl⟩ (oz_one _) tP) ?_
  rintro _ _ ⟨rfl, rfl⟩
  refine KO.done ?_
  refine K.ret (fn := Tryz.f127) Tryz.func127 (fun a w hk hs => resC Tryz.results127 hk rfl ck_62 rfl (cells_pv tM w hs)) (fun w hs => ?_)
  exact ⟨_, ObL ⟨(objM (s, wf)).1, ⟨z1, z2, m1, n1, m2, n2⟩⟩ ++ IR p rb (objM (s, wf)).2.2 q6 c6 (objM (s, wf)).2.1, rfl, ⟨⟨z1, z2, m1, n1, m2, n2⟩, q6, c6, rfl, rfl, hc6, hcap, hcap5, hcap6⟩, hs.fitD⟩
end Go.Proofs.YtkbhldicnamcdaaGreat.L
namespace Go.Proofs.YtkbhldicnamcdaaGreat.L
open Go Go.Proofs
attribute [local irreducible] pv fv pt fz RowF RowO rowP old pure_ elA Rd.int Rd.text Rd.flag Rd.msg Rd.rint Rd.rtext Rd.rflag Rd.rmsg
set_option maxRecDepth 100000
set_option linter.unusedSimpArgs false
set_option linter.unusedVariables false
attribute [local irreducible] Rd.eff lsM objM
def Oz.caps (o : Oz) : Prop := o.x.rows.length ≤ o.z.c1 ∧ o.x.msgs.length ≤ o.z.c2 ∧ o.x.dead.length ≤ o.z.c3
abbrev RstF (c5 c4 p : Nat) (next : Int) (acc : List Ob) (z : Option Addr × Nat × { l : List Oz // l.map (·.x) = acc ∧ ∀ o ∈ l, o.caps }) : List HP := [pv c5 47 [.int .i64 next, .slice z.1 z.2.2.1.length z.2.1], pv c4 169 [.pointer (some ⟨p, 0, none⟩)], RowO Kd.oz 62 z.1 z.2.1 z.2.2.1, NestF z.2.2.1]
abbrev Rst (c5 c4 p : Nat) (next : Int) (acc : List Ob) : HP := HP.ex (RstF c5 c4 p next acc)
set_option maxHeartbeats 800000 in
theorem im_r1 (cA cB p rb : Nat) (next : Int) (q : Option Addr) (cap : Nat) (s : Rd) (wf : Bool) (acc : List Ob) (hc : s.bs.length ≤ cap) (hl : acc.length ≤ 10000000001) (hN : s.bs.length ≤ 10000000000) : Fn Tryz.prog 126 [.pointer (some ⟨cA, 0, none⟩), .pointer (some ⟨cB, 0, none⟩)].toArray (Rst cA cB p next acc :: IR p rb wf q cap s)
    (fun v post => ∃ q' cap', v = .tuple #[] ∧ post = Rst cA cB p next (acc ++ [(objM (s, wf)).1]) :: IR p rb (objM (s, wf)).2.2 q' cap' (objM (s, wf)).2.1 ∧ (objM (s, wf)).2.1.bs.length ≤ cap') := by
  refine Fn.enter (N := 9) Tryz.func126 rfl Tryz.ntmps126 tK rfl (fun ρ L => ?_)
  refine K.ex (fun w h => St.exP tP h) (fun z => ?_)
  obtain ⟨z1, z2, l, hlm, hlc⟩ := z
  have hll : l.length ≤ 10000000001 := by rw [← hlm, List.length_map] at hl; exact hl
  dsimp only [List.cons_append, List.nil_append]
  refine K.drawS [pv cB 169 [.pointer (some ⟨p, 0, none⟩)]] (fun _ h => h.subD) mixed <| dq 0 rfl (q_field fo_47_1 rfl) <| dq 2 rfl (q_load1D ck_169 rfl) ?_
  refine D.all (rs := [1, 3]) tK rfl (DAll.cons rfl tK (OpQ.loud (q_load1D ck_45 rfl)) (.inr (by rintro _ _ ⟨rfl, rfl⟩ w h; exact h.subD)) rfl ?_ (DAll.cons rfl tK (OpL.callD rfl (h := im_object _ _ _ _ _ _ hc hN)) (.inr (by rintro _ _ ⟨_, ⟨zo, qx, cx, rfl, rfl, hcx, h1x, h2x, h3x⟩, rfl⟩ w h; exact h.subD)) rfl ?_ DAll.nil))
  · rintro _ _ ⟨rfl, rfl⟩
    refine dq1 3 rfl (OpL.callD rfl (h := im_object _ _ _ _ _ _ hc hN)) (.inl tK) ?_
    rintro _ _ ⟨_, ⟨zo, qx, cx, rfl, rfl, hcx, h1x, h2x, h3x⟩, rfl⟩
    refine dq1 4 rfl (l_slice1 sz_45_1 rfl rfl ⟨rfl, rfl, rfl⟩) (.inl tK) ?_
    rintro _ _ ⟨b6, rfl, rfl⟩
    refine dq1 5 rfl (l_append Kd.oz se_45 Tryz.underlying45 ⟨_, ze_62, rfl⟩ tD rfl rfl tP isP tM rfl rfl (by first | omega | (simp; omega) | (simp; done))) (.inl tK) ?_
    rintro _ _ ⟨px, capx, rfl, rfl⟩
    refine dq 6 rfl (q_field fo_47_1 rfl) <| dq1N 7 rfl (l_store1 ck_45 rfl rfl rfl tP tA) (.inl tK) ?_
    rintro _ _ ⟨rfl, rfl⟩
    refine D.done tK <| K.st (fun w h => nestF_snoc (l := l) ⟨(objM (s, wf)).1, zo⟩ tM tM tM tM h) ?_
    refine K.fin (fn := Tryz.f126) Tryz.func126 (fun a w hk hs => res0 Tryz.results126) (fun w hs => ?_)
    exact ⟨_, Rst cA cB p next (acc ++ [(objM (s, wf)).1]) :: IR p rb (objM (s, wf)).2.2 qx cx (objM (s, wf)).2.1, rfl, ⟨qx, cx, rfl, rfl, hcx⟩, St.fitE (px, capx, ⟨l ++ [⟨(objM (s, wf)).1, zo⟩], by rw [List.map_append, hlm]; rfl, fun o ho => by
      rcases List.mem_append.1 ho with h | h
      · exact hlc o h
      · rw [List.mem_singleton.1 h]; exact ⟨h1x, h2x, h3x⟩⟩) hs tG (by repeat (first | exact Drop.refl | apply Drop.skip))⟩
  · rintro _ _ ⟨_, ⟨zo, qx, cx, rfl, rfl, hcx, h1x, h2x, h3x⟩, rfl⟩
    refine D.all (rs := [1, 4]) tK rfl (DAll.cons rfl tK (OpQ.loud (q_load1D ck_45 rfl)) (.inl tK) rfl ?_ (DAll.cons rfl tK (l_slice1 sz_45_1 rfl rfl ⟨rfl, rfl, rfl⟩) (.inr (by rintro _ _ ⟨b6, rfl, rfl⟩ w h; exact h.subD)) rfl ?_ DAll.nil))
    · rintro _ _ ⟨rfl, rfl⟩
      refine dq1 4 rfl (l_slice1 sz_45_1 rfl rfl ⟨rfl, rfl, rfl⟩) (.inl tK) ?_
      rintro _ _ ⟨b6, rfl, rfl⟩
      refine dq1 5 rfl (l_append Kd.oz se_45 Tryz.underlying45 ⟨_, ze_62, rfl⟩ tD rfl rfl tP isP tM rfl rfl (by first | omega | (simp; omega) | (simp; done))) (.inl tK) ?_
      rintro _ _ ⟨px, capx, rfl, rfl⟩
      refine dq 6 rfl (q_field fo_47_1 rfl) <| dq1N 7 rfl (l_store1 ck_45 rfl rfl rfl tP tA) (.inl tK) ?_
      rintro _ _ ⟨rfl, rfl⟩
      refine D.done tK <| K.st (fun w h => nestF_snoc (l := l) ⟨(objM (s, wf)).1, zo⟩ tM tM tM tM h) ?_
      refine K.fin (fn := Tryz.f126) Tryz.func126 (fun a w hk hs => res0 Tryz.results126) (fun w hs => ?_)
      exact ⟨_, Rst cA cB p next (acc ++ [(objM (s, wf)).1]) :: IR p rb (objM (s, wf)).2.2 qx cx (objM (s, wf)).2.1, rfl, ⟨qx, cx, rfl, rfl, hcx⟩, St.fitE (px, capx, ⟨l ++ [⟨(objM (s, wf)).1, zo⟩], by rw [List.map_append, hlm]; rfl, fun o ho => by
        rcases List.mem_append.1 ho with h | h
        · exact hlc o h
        · rw [List.mem_singleton.1 h]; exact ⟨h1x, h2x, h3x⟩⟩) hs tG (by repeat (first | exact Drop.refl | apply Drop.skip))⟩
    · rintro _ _ ⟨b6, rfl, rfl⟩
      refine dq1 1 rfl (OpQ.loud (q_load1D ck_45 rfl)) (.inl tK) ?_
      rintro _ _ ⟨rfl, rfl⟩
      refine dq1 5 rfl (l_append Kd.oz se_45 Tryz.underlying45 ⟨_, ze_62, rfl⟩ tD rfl rfl tP isP tM rfl rfl (by first | omega | (simp; omega) | (simp; done))) (.inl tK) ?_
      rintro _ _ ⟨px, capx, rfl, rfl⟩
      refine dq 6 rfl (q_field fo_47_1 rfl) <| dq1N 7 rfl (l_store1 ck_45 rfl rfl rfl tP tA) (.inl tK) ?_
      rintro _ _ ⟨rfl, rfl⟩
      refine D.done tK <| K.st (fun w h => nestF_snoc (l := l) ⟨(objM (s, wf)).1, zo⟩ tM tM tM tM h) ?_
      refine K.fin (fn := Tryz.f126) Tryz.func126 (fun a w hk hs => res0 Tryz.results126) (fun w hs => ?_)
      exact ⟨_, Rst cA cB p next (acc ++ [(objM (s, wf)).1]) :: IR p rb (objM (s, wf)).2.2 qx cx (objM (s, wf)).2.1, rfl, ⟨qx, cx, rfl, rfl, hcx⟩, St.fitE (px, capx, ⟨l ++ [⟨(objM (s, wf)).1, zo⟩], by rw [List.map_append, hlm]; rfl, fun o ho => by
        rcases List.mem_append.1 ho with h | h
        · exact hlc o h
        · rw [List.mem_singleton.1 h]; exact ⟨h1x, h2x, h3x⟩⟩) hs tG (by repeat (first | exact Drop.refl | apply Drop.skip))⟩
theorem sttM_eq (s : RdW) : sttM s = (⟨s.1.int.1, (lsM objM (s.1.int.2, s.2)).1⟩, (lsM objM (s.1.int.2, s.2)).2) := rfl
theorem objs_sm (s : RdW) (h : s.1.bs.length ≤ 10000000000) : (lsM objM s).1.length ≤ 10000000001 ∧ ∀ o ∈ (lsM objM s).1, o.sm ∧ o.rows.length ≤ 10000000001 ∧ o.msgs.length ≤ 10000000001 ∧ o.dead.length ≤ 10000000001 := by
  have g := Gs.ls (P := fun o : Ob => o.sm ∧ o.rows.length ≤ 10000000001 ∧ o.msgs.length ≤ 10000000001 ∧ o.dead.length ≤ 10000000001) (N := 10000000000) prog_obj (fun s h => objM_sm s h) s h
  exact ⟨g.len, g.2⟩
theorem sz0_ok : Sz.ok ⟨0, none, 0, []⟩ := ⟨⟨by decide, by decide⟩, Nat.zero_le _, Nat.le_refl _, fun o ho => by cases ho⟩
theorem sz0_few : Sz.few ⟨0, none, 0, []⟩ := fun o ho => by cases ho
theorem sz0_st : Sz.st ⟨0, none, 0, []⟩ = (none : Option Stt).getD ⟨0, []⟩ := rfl
set_option maxHeartbeats 1600000 in
theorem im_Read (q : Option Addr) (cap : Nat) (bs : List UInt8) (hb : bs.length ≤ 10000000000) : Fn Tryz.prog 67 [.slice q bs.length cap].toArray [RowF Kd.u8 q bs]
    (fun r post => ∃ sz : Sz, r = .tuple #[.agg sz.cells.toArray, .int .i64 (if (imgRead bs).isSome = true then 0 else 11)] ∧ post = StL sz ∧ sz.ok ∧ sz.few ∧ sz.st = (imgRead bs).getD ⟨0, []⟩) := by
  obtain ⟨n0, s0, ha⟩ : ∃ n0 s0, Rd.int ⟨bs, false⟩ = (n0, s0) := ⟨_, _, rfl⟩
  have hrng := Rd.int_rng ⟨bs, false⟩
  have hdn := prog_int.1 (⟨bs, false⟩, false)
  replace hdn : (Rd.int ⟨bs, false⟩).2.bs.length ≤ bs.length := hdn
  rw [ha] at hrng hdn
  dsimp only at hrng hdn
  have hobs := objs_sm (s0, false) (by show s0.bs.length ≤ _; omega)
  have hrd : imgRead bs = if (!(lsM objM (s0, false)).2.1.done || ((lsM objM (s0, false)).2.2 || !Stt.right ⟨n0, (lsM objM (s0, false)).1⟩)) = true then none else some ⟨n0, (lsM objM (s0, false)).1⟩ := by
    unfold imgRead
    simp only [sttM_eq, ha]
  refine Fn.enter (N := 38) Tryz.func67 rfl Tryz.ntmps67 tK rfl (fun ρ L => ?_)
  refine K.seq <| K.region <| KO.loud rfl (l_alloc zo_47) ?_
  rintro _ _ ⟨b2, rfl, rfl⟩
  refine KO.q rfl (q_assign rfl) <| KO.done <| K.seq <| K.region <| KO.q rfl (q_move rfl) <| KO.loud rfl (OpL.callD rfl (h := rd_New _ _ _ tN)) ?_
  rintro _ _ ⟨_, ⟨p1, q1, c1, rfl, rfl, hc1⟩, rfl⟩
  refine KO.q rfl (q_build st_173 rfl tF) <| KO.loud rfl (l_box rfl rfl) ?_
  rintro _ _ ⟨b9, rfl, rfl⟩
  refine KO.loud rfl (l_alloc zo_169) ?_
  rintro _ _ ⟨b4, rfl, rfl⟩
  refine KO.loudN rfl (l_store1 ck_169 rfl rfl rfl tP tA) ?_
  rintro _ _ ⟨rfl, rfl⟩
  refine KO.done <| K.seq <| K.region <| KO.q rfl (q_load1D ck_169 rfl) <| KO.q rfl (q_nilCheck rfl) <| KO.q rfl (q_field fo_173_0 rfl) <| KO.q rfl (q_load1D ck_170 rfl) <| KO.loud rfl (OpL.callD rfl (h := rd_Int _ _ _ _ (by assumption))) ?_
  rintro _ _ ⟨_, ⟨q2, c2, rfl, rfl, hc2⟩, rfl⟩
  refine KO.q rfl (q_build st_47 rfl tF) <| KO.loud rfl (l_alloc zo_47) ?_
  rintro _ _ ⟨b5, rfl, rfl⟩
  refine KO.loudN rfl (l_storeAll ck_47 rfl rfl ⟨rfl, rfl⟩ (by simp [Value.oneCell']) tP) ?_
  rintro _ _ ⟨rfl, rfl⟩
  refine KO.done ?_
  simp only [ha] at hc2 ⊢
  refine K.seq <| K.region <| KO.q rfl (q_load1D ck_169 rfl) <| KO.q rfl (q_func rfl rfl) <| KO.st (fun w h => rowO_nil (k := Kd.oz) 62 h) <| KO.st (fun w h => nestF_nil h) <| KO.st (fun w h => St.exG (f := RstF b5 b4 b9 n0 []) (none, 0, ⟨[], rfl, fun o ho => by cases ho⟩) tG h) <| KO.loud rfl (OpL.callD rfl (h := im_list (Rst b5 b4 b9 n0) objM (fun o : Ob => o.sm ∧ o.rows.length ≤ 10000000001 ∧ o.msgs.length ≤ 10000000001 ∧ o.dead.length ≤ 10000000001) 10000000000 126 [.pointer (some ⟨b5, 0, none⟩), .pointer (some ⟨b4, 0, none⟩)] b9 p1 prog_obj (fun s h => objM_sm s h) (fun q cap s wf acc h1 h2 h3 => im_r1 b5 b4 b9 p1 n0 q cap s wf acc h1 h3.len (by have := h3.1; rw [if_neg (by show ¬ s.f = true; rw [h2]; simp)] at this; show s.bs.length ≤ _; have h4 : acc.length + s.bs.length ≤ 10000000000 := this; omega)) q2 c2 s0 false hc2 tO)) ?_
  rintro _ _ ⟨_, ⟨q3, c3, rfl, rfl, hc3⟩, rfl⟩
  refine KO.ex (fun w h => St.exP tP h) (fun z => ?_)
  obtain ⟨z1, z2, l, hlm, hlc⟩ := z
  dsimp only [List.cons_append, List.nil_append]
  refine KO.done ?_
  refine K.fact (rowO_cap tM) (fun hcap => ?_)
  refine K.st (fun w h => rowO_freeze (h.pick tP)) ?_
  have hlen : l.length ≤ 10000000001 := by have := hobs.1; rw [← hlm, List.length_map] at this; exact this
  have hox : ∀ o ∈ l, o.x.sm ∧ o.x.rows.length ≤ 10000000001 ∧ o.x.msgs.length ≤ 10000000001 ∧ o.x.dead.length ≤ 10000000001 := fun o ho => hobs.2 o.x (by rw [← hlm]; exact List.mem_map.2 ⟨o, ho, rfl⟩)
  have hok : Sz.ok ⟨n0, z1, z2, l⟩ := ⟨hrng, by show l.length ≤ _; omega, hcap, fun o ho => ⟨(hox o ho).1, hlc o ho⟩⟩
  have hfew : Sz.few ⟨n0, z1, z2, l⟩ := fun o ho => by have := hox o ho; omega
  have hst : Sz.st ⟨n0, z1, z2, l⟩ = ⟨n0, (lsM objM (s0, false)).1⟩ := by rw [← hlm]; rfl
  rw [← hst] at hrd
  refine K.seq <| K.seq <| K.region <| KO.q rfl (q_load1D ck_169 rfl) <| KO.q rfl (q_nilCheck rfl) <| KO.q rfl (q_field fo_173_0 rfl) <| KO.q rfl (q_load1D ck_170 rfl) <| KO.loud rfl (OpL.callD rfl (h := rd_Done _ _ _ _)) ?_
  rintro _ _ ⟨_, ⟨rfl, rfl⟩, rfl⟩
  refine KO.q rfl (q_not rfl) <| KO.q rfl (q_move rfl) ?_
  refine KO.split 25 rfl (fun g25 => ?_) (fun g25 => ?_)
  · refine KO.skip rfl <| KO.skip rfl <| KO.skip rfl <| KO.skip rfl <| KO.q rfl (q_pickT rfl rfl) <| KO.q rfl (q_move rfl) <| KO.skip rfl <| KO.skip rfl <| KO.skip rfl <| KO.q rfl (q_pickT rfl rfl) ?_
    refine KO.done <| K.yes rfl <| K.seq ?_
    have hr : imgRead bs = none := by rw [hrd, if_pos (by simp_all)]
    have hbad : True := trivial
    rw [hr]
    refine K.region <| KO.q rfl (q_build st_47 rfl tF) <| KO.loudN rfl (l_storeAll ck_47 rfl rfl ⟨rfl, rfl⟩ (by simp [Value.oneCell']) tP) ?_
    rintro _ _ ⟨rfl, rfl⟩
    refine KO.q rfl (q_assign rfl) <| KO.done ?_
    refine K.ret (fn := Tryz.f67) Tryz.func67 (fun a w hk hs => resCT Tryz.results67 hk rfl ck_47 rfl (cells_pv tM w hs) rfl) (fun w hs => ?_)
    first
      | (have hx := hbad
         exact ⟨_, StL ⟨0, none, 0, []⟩, rfl, ⟨⟨0, none, 0, []⟩, rfl, rfl, sz0_ok, sz0_few, sz0_st⟩, (rowF_nil (k := Kd.oz) none (nestF_nil hs)).fitD⟩)
      | exact ⟨_, StL ⟨n0, z1, z2, l⟩, rfl, ⟨⟨n0, z1, z2, l⟩, rfl, rfl, hok, hfew, rfl⟩, hs.fitD⟩
  · refine KO.q rfl (q_load1D ck_169 rfl) <| KO.q rfl (q_nilCheck rfl) <| KO.q rfl (q_field fo_173_1 rfl) <| KO.q rfl (q_load1D ck_4 rfl) <| KO.q rfl (q_pickF rfl rfl) <| KO.q rfl (q_move rfl) ?_
    first | refine KO.dsplit 31 rfl (fun g31 => ?_) (fun g31 => ?_) | refine KO.split 31 rfl (fun g31 => ?_) (fun g31 => ?_)
    · refine KO.skip rfl <| KO.skip rfl <| KO.skip rfl <| KO.q rfl (q_pickT rfl rfl) <| KO.done <| K.yes rfl <| K.seq ?_
      have hr : imgRead bs = none := by rw [hrd, if_pos (by simp_all)]
      have hbad : True := trivial
      rw [hr]
      refine K.region <| KO.q rfl (q_build st_47 rfl tF) <| KO.loudN rfl (l_storeAll ck_47 rfl rfl ⟨rfl, rfl⟩ (by simp [Value.oneCell']) tP) ?_
      rintro _ _ ⟨rfl, rfl⟩
      refine KO.q rfl (q_assign rfl) <| KO.done ?_
      refine K.ret (fn := Tryz.f67) Tryz.func67 (fun a w hk hs => resCT Tryz.results67 hk rfl ck_47 rfl (cells_pv tM w hs) rfl) (fun w hs => ?_)
      first
        | (have hx := hbad
           exact ⟨_, StL ⟨0, none, 0, []⟩, rfl, ⟨⟨0, none, 0, []⟩, rfl, rfl, sz0_ok, sz0_few, sz0_st⟩, (rowF_nil (k := Kd.oz) none (nestF_nil hs)).fitD⟩)
        | exact ⟨_, StL ⟨n0, z1, z2, l⟩, rfl, ⟨⟨n0, z1, z2, l⟩, rfl, rfl, hok, hfew, rfl⟩, hs.fitD⟩
    · refine KO.q rfl (q_as_sz (next_ := n0) (q_ := z1) (c_ := z2) (l_ := l) (q_loadN ck_47 rfl rfl tC) rfl) <| KO.loud rfl (OpL.callD rfl (h := st_Right ⟨n0, z1, z2, l⟩ hok hfew)) ?_
      rintro _ _ ⟨_, ⟨rfl, rfl⟩, rfl⟩
      refine KO.q rfl (q_not rfl) <| KO.q rfl (q_pickF rfl rfl) <| KO.done ?_
      refine K.bcond (s := 35) rfl (fun g35 => ?_) (fun g35 => ?_)
      · refine K.seq ?_
        have hr : imgRead bs = none := by rw [hrd, if_pos (by simp_all)]
        have hbad : True := trivial
        rw [hr]
        refine K.region <| KO.q rfl (q_build st_47 rfl tF) <| KO.loudN rfl (l_storeAll ck_47 rfl rfl ⟨rfl, rfl⟩ (by simp [Value.oneCell']) tP) ?_
        rintro _ _ ⟨rfl, rfl⟩
        refine KO.q rfl (q_assign rfl) <| KO.done ?_
        refine K.ret (fn := Tryz.f67) Tryz.func67 (fun a w hk hs => resCT Tryz.results67 hk rfl ck_47 rfl (cells_pv tM w hs) rfl) (fun w hs => ?_)
        first
          | (have hx := hbad
             exact ⟨_, StL ⟨0, none, 0, []⟩, rfl, ⟨⟨0, none, 0, []⟩, rfl, rfl, sz0_ok, sz0_few, sz0_st⟩, (rowF_nil (k := Kd.oz) none (nestF_nil hs)).fitD⟩)
          | exact ⟨_, StL ⟨n0, z1, z2, l⟩, rfl, ⟨⟨n0, z1, z2, l⟩, rfl, rfl, hok, hfew, rfl⟩, hs.fitD⟩
      · refine K.skip <| K.seq ?_
        have hr : imgRead bs = some (Sz.st ⟨n0, z1, z2, l⟩) := by rw [hrd, if_neg (by simp_all)]
        rw [hr]
        refine K.region <| KO.q rfl (q_as_sz (next_ := n0) (q_ := z1) (c_ := z2) (l_ := l) (q_loadN ck_47 rfl rfl tC) rfl) <| KO.loudN rfl (l_storeAll ck_47 rfl rfl ⟨rfl, rfl⟩ (sz_one _) tP) ?_
        rintro _ _ ⟨rfl, rfl⟩
        refine KO.q rfl (q_assign rfl) <| KO.done ?_
        refine K.ret (fn := Tryz.f67) Tryz.func67 (fun a w hk hs => resCT Tryz.results67 hk rfl ck_47 rfl (cells_pv tM w hs) rfl) (fun w hs => ?_)
        first
          | (have hx := hbad
             exact ⟨_, StL ⟨0, none, 0, []⟩, rfl, ⟨⟨0, none, 0, []⟩, rfl, rfl, sz0_ok, sz0_few, sz0_st⟩, (rowF_nil (k := Kd.oz) none (nestF_nil hs)).fitD⟩)
          | exact ⟨_, StL ⟨n0, z1, z2, l⟩, rfl, ⟨⟨n0, z1, z2, l⟩, rfl, rfl, hok, hfew, rfl⟩, hs.fitD⟩
end Go.Proofs.YtkbhldicnamcdaaGreat.L
namespace Go.Proofs.YtkbhldicnamcdaaGreat.L
open Go Go.Proofs
attribute [local irreducible] pv fv pt fz RowF RowO rowP old pure_ elA Rd.int Rd.text Rd.flag Rd.msg Rd.rint Rd.rtext Rd.rflag Rd.rmsg
set_option maxRecDepth 100000
set_option linter.unusedSimpArgs false
set_option linter.unusedVariables false
theorem size_take (s : Sz) (i : Nat) : 16 + ((s.l.take i).map (fun o => o.x.size)).sum ≤ s.st.size := by
  have h := sum_take_le (f := fun o : Oz => o.x.size) s.l i
  have e : s.st.size = 16 + (s.l.map (fun o => o.x.size)).sum := by unfold Stt.size Sz.st; rw [List.map_map]; rfl
  rw [e]; omega
set_option maxHeartbeats 3200000 in
theorem st_Size (s : Sz) (hok : s.ok) (hfew : s.few) (hz : s.st.size ≤ 1000000000000) : Fn Tryz.prog 54 [.agg s.cells.toArray].toArray (StL s) (fun r post => r = .int .i64 (s.st.size : Nat) ∧ post = []) := by
  have hst := size_take s
  obtain ⟨hn0, hl, hlc, hall⟩ := hok
  refine Fn.enter (N := 65) Tryz.func54 rfl Tryz.ntmps54 tK rfl (fun ρ L => ?_)
  refine K.seq <| K.region <| KO.loud rfl (l_box rfl rfl) ?_
  rintro _ _ ⟨b1, rfl, rfl⟩
  refine KO.q rfl (q_assign rfl) <| KO.done <| K.seq <| K.region <| KO.q rfl (q_assign rfl) <| KO.done <| K.seq <| K.seq <| K.region <| KO.q rfl (q_field fo_47_1 rfl) <| KO.q rfl (q_load1D ck_45 rfl) ?_
  refine KO.q rfl (q_len Tryz.underlying45 rfl) <| KO.q rfl (q_move rfl) <| KO.done <| K.block ?_
  refine K.rounds2 (ι := { x : Nat // x ≤ s.l.length }) (fun x => [(13, .int .i64 x.1), (12, .int .i64 s.l.length), (11, .slice s.q s.l.length s.c), (3, .int .i64 ((16 + ((s.l.take x.1).map (fun o => o.x.size)).sum : Nat) : Int))]) (fun x => [RowF Kd.oz s.q s.l, NestF s.l] ++ L) (fun x => s.l.length - x.1) ⟨0, Nat.zero_le _⟩ tS (fun w h => h.fitD) (fun x ih => ?_)
  obtain ⟨i, hi⟩ := x
  dsimp only at hi ⊢
  refine K.seq <| K.region <| KO.q rfl (q_lt rfl rfl) <| KO.done <| K.seq ?_
  refine K.dcond (s := 14) rfl (fun g14 => ?_) (fun g14 => ?_)
  · obtain ⟨o, ho⟩ : ∃ e, s.l[i]? = some e := ⟨_, List.getElem?_eq_getElem tO⟩
    have hmo := List.mem_of_getElem? ho
    have h1 := hst (i + 1)
    have h5 := sum_succ (f := fun o : Oz => o.x.size) ho
    have hfo := hfew o hmo
    generalize hP : 16 + ((s.l.take i).map (fun o => o.x.size)).sum = P
    have hos : o.x.size = 50 + o.x.name.size + (o.x.rows.map Rw.size).sum + (o.x.msgs.map Msg.wt).sum + (o.x.dead.map Msg.wt).sum := rfl
    have hPs : P + o.x.size ≤ 1000000000000 := by omega
    refine K.st (fun w h => nestF_at (l := s.l) tM hmo h) ?_
    obtain ⟨⟨_, _, _, _, _, _, hr1, hr2, hr3⟩, _⟩ := hall o hmo
    refine K.skip <| K.seq <| K.block <| K.seq <| K.region ?_
    first | refine KO.q rfl (q_ix _ se_45 rfl rfl rfl isF tM rfl tL) ?_ | refine KO.q rfl (q_ix _ se_45 rfl rfl rfl isO tM rfl tL) ?_
    first | refine KO.q rfl (q_ldEN ck_62 rfl isF tM tE) ?_ | refine KO.q rfl (q_ldEN ck_62 rfl isO tM tE) ?_
    refine KO.loud rfl (l_alloc zo_62) ?_
    rintro _ _ ⟨b5, rfl, rfl⟩
    refine KO.loudN rfl (l_storeAll ck_62 rfl rfl ⟨rfl, rfl⟩ (oz_one _) tP) ?_
    rintro _ _ ⟨rfl, rfl⟩
    refine KO.done <| K.seq <| K.region <| KO.q rfl (q_move rfl) <| KO.q rfl (q_field fo_62_0 rfl) <| KO.q rfl (q_load1D ck_9 rfl) <| KO.q rfl (q_lenS Tryz.underlying9 rfl) <| KO.q rfl (q_add rfl rfl tN tN) <| KO.q rfl (q_add rfl rfl tN tN) <| KO.q rfl (q_assign rfl) ?_
    refine KO.done <| K.seq <| K.seq <| K.region <| KO.q rfl (q_field fo_62_3 rfl) <| KO.q rfl (q_load1D ck_59 rfl) <| KO.q rfl (q_len Tryz.underlying59 rfl) <| KO.q rfl (q_move rfl) <| KO.done <| K.block ?_
    refine K.rounds2 (ι := { x : Nat // x ≤ o.x.rows.length }) (fun x => [(26, .int .i64 x.1), (25, .int .i64 o.x.rows.length), (24, .slice o.z.q1 o.x.rows.length o.z.c1), (3, .int .i64 ((P + 50 + o.x.name.size + ((o.x.rows.take x.1).map Rw.size).sum : Nat) : Int)), (13, .int .i64 i), (12, .int .i64 s.l.length), (11, .slice s.q s.l.length s.c), (5, .pointer (some ⟨b5, 0, none⟩))]) (fun x => pv b5 62 o.cells :: ObL o ++ [RowF Kd.oz s.q s.l, NestF s.l] ++ L) (fun x => o.x.rows.length - x.1) ⟨0, Nat.zero_le _⟩ (Env.sub_cons rfl (Env.sub_cons rfl (Env.sub_cons rfl (Env.sub_cons (by refine congrArg (fun z => some (Value.int .i64 z)) ?_; simp; omega) (Env.sub_cons rfl (Env.sub_cons rfl (Env.sub_cons rfl (Env.sub_cons rfl (Env.sub_nil _))))))))) (fun w h => h.fitD) (fun x ih2 => ?_)
    obtain ⟨k, hk⟩ := x
    have hle := sum_take_le (f := Rw.size) o.x.rows k
    dsimp only at hk ⊢
    refine K.seq <| K.region <| KO.q rfl (q_lt rfl rfl) <| KO.done <| K.seq ?_
    refine K.dcond (s := 27) rfl (fun g27 => ?_) (fun g27 => ?_)
    · obtain ⟨r, hr⟩ : ∃ e, o.x.rows[k]? = some e := ⟨_, List.getElem?_eq_getElem tO⟩
      have hss := sum_succ (f := Rw.size) hr
      have hle2 := sum_take_le (f := Rw.size) o.x.rows (k + 1)
      rw [show Rw.size r = 20 + r.key.size + r.value.size from rfl] at hss
      refine K.skip <| K.seq <| K.block <| K.seq <| K.region ?_
      first | refine KO.q rfl (q_ix _ se_59 rfl rfl rfl isF tM rfl tL) ?_ | refine KO.q rfl (q_ix _ se_59 rfl rfl rfl isO tM rfl tL) ?_
      first | refine KO.q rfl (q_ldEN ck_136 rfl isF tM tE) ?_ | refine KO.q rfl (q_ldEN ck_136 rfl isO tM tE) ?_
      refine KO.loud rfl (l_alloc zo_136) ?_
      rintro _ _ ⟨b7, rfl, rfl⟩
      refine KO.loudN rfl (l_storeAll ck_136 rfl rfl ⟨rfl, rfl⟩ (rw_one _) tP) ?_
      rintro _ _ ⟨rfl, rfl⟩
      refine KO.done <| K.region <| KO.q rfl (q_move rfl) <| KO.q rfl (q_field fo_136_0 rfl) <| KO.q rfl (q_load1D ck_9 rfl) <| KO.q rfl (q_lenS Tryz.underlying9 rfl) <| KO.q rfl (q_add rfl rfl tN tN) <| KO.q rfl (q_field fo_136_1 rfl) <| KO.q rfl (q_load1D ck_9 rfl) <| KO.q rfl (q_lenS Tryz.underlying9 rfl) ?_
      refine KO.q rfl (q_add rfl rfl tN tN) <| KO.q rfl (q_add rfl rfl tN tN) <| KO.q rfl (q_assign rfl) <| KO.done <| K.inBlock <| K.region <| KO.q rfl (q_add rfl rfl tN tN) <| KO.q rfl (q_move rfl) <| KO.done ?_
      refine K.weak (Env.sub_cons rfl (Env.sub_cons rfl (Env.sub_cons rfl (Env.sub_cons ?_ (Env.sub_cons rfl (Env.sub_cons rfl (Env.sub_cons rfl (Env.sub_cons rfl (Env.sub_nil _))))))))) (fun w h => h.fitD) (ih2 ⟨k + 1, by omega⟩ (by show o.x.rows.length - (k + 1) < o.x.rows.length - k; omega))
      show _ = some (Value.int .i64 ((P + 50 + o.x.name.size + ((o.x.rows.take (k + 1)).map Rw.size).sum : Nat) : Int))
      refine congrArg (fun z => some (Value.int .i64 z)) ?_
      omega
    · obtain rfl : k = o.x.rows.length := by omega
      rw [List.take_length]
      refine K.exit rfl <| K.seq <| K.region <| KO.q rfl (q_field fo_62_4 rfl) <| KO.q rfl (q_load1D ck_60 rfl) <| KO.q rfl (q_field fo_62_5 rfl) <| KO.q rfl (q_load1D ck_60 rfl) <| KO.loud rfl (l_slice sz_188_2 rfl tF) ?_
      rintro _ _ ⟨b45, rfl, rfl⟩
      refine KO.st (fun w h => pv_flat (n := 1) (enc := Sl.cells) (hl := fun _ => rfl) (h1 := fun _ v h => by simp [Sl.cells] at h; subst h; rfl) [⟨o.z.q2, o.z.c2, o.x.msgs⟩, ⟨o.z.q3, o.z.c3, o.x.dead⟩] rfl h) <| KO.st (fun w h => nestSl_nil (k := Kd.msg) h) <| KO.st (fun w h => nestSl_cons (k := Kd.msg) (l := []) ⟨o.z.q3, o.z.c3, o.x.dead⟩ tM tM h) <| KO.st (fun w h => nestSl_cons (k := Kd.msg) (l := [⟨o.z.q3, o.z.c3, o.x.dead⟩]) ⟨o.z.q2, o.z.c2, o.x.msgs⟩ tM tM h) <| KO.loud rfl (OpL.callE rfl (cc_msg (some ⟨b45, 0, none⟩) 2 [⟨o.z.q2, o.z.c2, o.x.msgs⟩, ⟨o.z.q3, o.z.c3, o.x.dead⟩] (by simp) (by simp; omega))) ?_
      rintro _ _ ⟨_, ⟨q9, c9, rfl, rfl⟩, rfl⟩
      rw [show [(⟨o.z.q2, o.z.c2, o.x.msgs⟩ : Sl Msg), ⟨o.z.q3, o.z.c3, o.x.dead⟩].flatMap (·.l) = o.x.msgs ++ o.x.dead by simp]
      have hcl : (o.x.msgs ++ o.x.dead).length ≤ 1099511627776 := by rw [List.length_append]; exact hfo
      have hms : ((o.x.msgs ++ o.x.dead).map Msg.wt).sum = (o.x.msgs.map Msg.wt).sum + (o.x.dead.map Msg.wt).sum := by rw [List.map_append, List.sum_append]
      refine KO.q rfl (q_len Tryz.underlying60 rfl) <| KO.q rfl (q_move rfl) <| KO.done <| K.block ?_
      refine K.rounds2 (ι := { x : Nat // x ≤ (o.x.msgs ++ o.x.dead).length }) (fun x => [(48, .int .i64 x.1), (47, .int .i64 (o.x.msgs ++ o.x.dead).length), (46, .slice q9 (o.x.msgs ++ o.x.dead).length c9), (3, .int .i64 ((P + 50 + o.x.name.size + (o.x.rows.map Rw.size).sum + (((o.x.msgs ++ o.x.dead).take x.1).map Msg.wt).sum : Nat) : Int)), (13, .int .i64 i), (12, .int .i64 s.l.length), (11, .slice s.q s.l.length s.c)]) (fun x => [RowF Kd.msg q9 (o.x.msgs ++ o.x.dead), RowF Kd.oz s.q s.l, NestF s.l] ++ L) (fun x => (o.x.msgs ++ o.x.dead).length - x.1) ⟨0, Nat.zero_le _⟩ (Env.sub_cons rfl (Env.sub_cons rfl (Env.sub_cons rfl (Env.sub_cons (by refine congrArg (fun z => some (Value.int .i64 z)) ?_; simp) (Env.sub_cons rfl (Env.sub_cons rfl (Env.sub_cons rfl (Env.sub_nil _)))))))) (fun w h => h.fitD) (fun x ih3 => ?_)
      obtain ⟨k2, hk2⟩ := x
      have hle3 := sum_take_le (f := Msg.wt) (o.x.msgs ++ o.x.dead) k2
      dsimp only at hk2 ⊢
      refine K.seq <| K.region <| KO.q rfl (q_lt rfl rfl) <| KO.done <| K.seq ?_
      refine K.dcond (s := 49) rfl (fun g49 => ?_) (fun g49 => ?_)
      · obtain ⟨m, hm⟩ : ∃ e, (o.x.msgs ++ o.x.dead)[k2]? = some e := ⟨_, List.getElem?_eq_getElem tO⟩
        have hss := sum_succ (f := Msg.wt) hm
        have hle2 := sum_take_le (f := Msg.wt) (o.x.msgs ++ o.x.dead) (k2 + 1)
        rw [show Msg.wt m = 60 + m.corr.size + m.body.size from rfl] at hss
        refine K.skip <| K.seq <| K.block <| K.seq <| K.region ?_
        first | refine KO.q rfl (q_ix _ se_60 rfl rfl rfl isF tM rfl tL) ?_ | refine KO.q rfl (q_ix _ se_60 rfl rfl rfl isO tM rfl tL) ?_
        first | refine KO.q rfl (q_ldEN ck_56 rfl isF tM tE) ?_ | refine KO.q rfl (q_ldEN ck_56 rfl isO tM tE) ?_
        refine KO.loud rfl (l_alloc zo_56) ?_
        rintro _ _ ⟨b9, rfl, rfl⟩
        refine KO.loudN rfl (l_storeAll ck_56 rfl rfl ⟨rfl, rfl⟩ (msg_one _) tP) ?_
        rintro _ _ ⟨rfl, rfl⟩
        refine KO.done <| K.region <| KO.q rfl (q_move rfl) <| KO.q rfl (q_field fo_56_4 rfl) <| KO.q rfl (q_load1D ck_9 rfl) <| KO.q rfl (q_lenS Tryz.underlying9 rfl) <| KO.q rfl (q_add rfl rfl tN tN) <| KO.q rfl (q_field fo_56_5 rfl) <| KO.q rfl (q_load1D ck_9 rfl) <| KO.q rfl (q_lenS Tryz.underlying9 rfl) ?_
        refine KO.q rfl (q_add rfl rfl tN tN) <| KO.q rfl (q_add rfl rfl tN tN) <| KO.q rfl (q_assign rfl) <| KO.done <| K.inBlock <| K.region <| KO.q rfl (q_add rfl rfl tN tN) <| KO.q rfl (q_move rfl) <| KO.done ?_
        refine K.weak (Env.sub_cons rfl (Env.sub_cons rfl (Env.sub_cons rfl (Env.sub_cons ?_ (Env.sub_cons rfl (Env.sub_cons rfl (Env.sub_cons rfl (Env.sub_nil _)))))))) (fun w h => h.fitD) (ih3 ⟨k2 + 1, by omega⟩ (by show (o.x.msgs ++ o.x.dead).length - (k2 + 1) < (o.x.msgs ++ o.x.dead).length - k2; omega))
        show _ = some (Value.int .i64 ((P + 50 + o.x.name.size + (o.x.rows.map Rw.size).sum + (((o.x.msgs ++ o.x.dead).take (k2 + 1)).map Msg.wt).sum : Nat) : Int))
        refine congrArg (fun z => some (Value.int .i64 z)) ?_
        omega
      · obtain rfl : k2 = (o.x.msgs ++ o.x.dead).length := by omega
        rw [List.take_length, hms]
        refine K.exit rfl <| K.inBlock <| K.region <| KO.q rfl (q_add rfl rfl tN tN) <| KO.q rfl (q_move rfl) <| KO.done ?_
        refine K.weak (Env.sub_cons rfl (Env.sub_cons rfl (Env.sub_cons rfl (Env.sub_cons ?_ (Env.sub_nil _))))) (fun w h => h.fitD) (ih ⟨i + 1, by omega⟩ (by show s.l.length - (i + 1) < s.l.length - i; omega))
        show _ = some (Value.int .i64 ((16 + ((s.l.take (i + 1)).map (fun o => o.x.size)).sum : Nat) : Int))
        refine congrArg (fun z => some (Value.int .i64 z)) ?_
        omega
  · obtain rfl : i = s.l.length := by omega
    have hfin : 16 + ((s.l.take s.l.length).map (fun o => o.x.size)).sum = s.st.size := by
      rw [List.take_length]
      unfold Stt.size Sz.st
      rw [List.map_map]; rfl
    rw [hfin]
    refine K.exit rfl <| K.seq <| K.region <| KO.q rfl (q_move rfl) <| KO.q rfl (q_assign rfl) <| KO.done ?_
    refine kr1 Tryz.func54 Tryz.results54 rfl (fun w hs => ?_)
    exact ⟨_, [], rfl, ⟨rfl, rfl⟩, hs.fitD⟩
end Go.Proofs.YtkbhldicnamcdaaGreat.L
namespace Go.Proofs.YtkbhldicnamcdaaGreat.L
open Go
structure Ks where
  st : Stt
  epoch : Int
  dead : Bool
  lg : Lg
def recsS : Stt → List (List UInt8) → Option Stt
  | s, [] => some s
  | s, b :: l => match effRead b with
    | none => none
    | some es => if (applyS s es).2 = 0 then recsS (applyS s es).1 l else none
def kBegin (d : Dk) (epoch : Int) : Lg := Lg.opened d 194 160 epoch
def kStart (d : Dk) : Option (Stt × Int) :=
  match rtRead d with
  | none => some (⟨1, []⟩, 0)
  | some p => (imgRead p.2).map (fun s => (s, p.1))
def kRead (d : Dk) : Option Ks :=
  match kStart d with
  | none => none
  | some p => (recsS p.1 (kBegin d p.2).recs).map (fun s => ⟨s, p.2, false, kBegin d p.2⟩)
def kRenew (k : Ks) (d : Dk) : Int × Ks × Dk :=
  let w := rtWrite (i64 (k.epoch + 1)) (imgBytes k.st) d
  if w.1 = 0 then (0, { k with epoch := i64 (k.epoch + 1), lg := kBegin w.2 (i64 (k.epoch + 1)) }, w.2) else (12, k, w.2)
def kOpen (d : Dk) : Int × Ks × Dk :=
  match kRead d with
  | none => (11, ⟨⟨0, []⟩, 0, false, ⟨0, 0, 0, 0, [], false⟩⟩, d)
  | some k =>
    if claimsS k.st = [] ∧ 0 < k.epoch then (0, k, d)
    else if (applyS k.st (claimsS k.st)).2 = 0 then kRenew { k with st := (applyS k.st (claimsS k.st)).1 } d
    else (11, k, d)
def kAppend (k : Ks) (b : List UInt8) (d : Dk) : Int × Ks × Dk :=
  if k.lg.room < (b.length : Int) then
    if 10176 < (b.length : Int) then (9, k, d)
    else
      let r := kRenew k d
      if r.1 = 0 then let a := r.2.1.lg.append b r.2.2; (a.1, { r.2.1 with lg := a.2.1 }, a.2.2) else r
  else let a := k.lg.append b d; (a.1, { k with lg := a.2.1 }, a.2.2)
def kDo (k : Ks) (l : List Eff) (d : Dk) : Int × Ks × Dk :=
  if k.dead = true then (12, k, d)
  else if ¬ (applyS k.st l).2 = 0 then ((applyS k.st l).2, k, d)
  else if (6000 : Int) < ((applyS k.st l).1.size : Nat) then (9, k, d)
  else if l = [] then (0, k, d)
  else let r := kAppend k (effsBytes l) d
    (r.1, { r.2.1 with dead := decide (r.1 = 12), st := if r.1 = 0 then (applyS k.st l).1 else k.st }, r.2.2)
theorem kBegin_wf {d : Dk} (h : d.wf) (e : Int) : (kBegin d e).wf := Lg.opened_wf h tD tD tD
theorem scan_at (d : Dk) : ∀ (n : Nat) (g : Lg), (Lg.scan d n g).at_ = g.at_ ∧ (Lg.scan d n g).end_ = g.end_
  | 0, _ => ⟨rfl, rfl⟩
  | n + 1, g => by
    have hs : (Lg.step d g).2.at_ = g.at_ ∧ (Lg.step d g).2.end_ = g.end_ := by unfold Lg.step; split <;> exact ⟨rfl, rfl⟩
    unfold Lg.scan
    split
    · split
      · have := scan_at d n (Lg.step d g).2
        exact ⟨this.1.trans hs.1, this.2.trans hs.2⟩
      · exact ⟨rfl, rfl⟩
    · exact ⟨rfl, rfl⟩
theorem kBegin_at (d : Dk) (e : Int) : (kBegin d e).end_ ≤ 354 ∧ 194 ≤ (kBegin d e).at_ := by
  have := scan_at d (160 : Int).toNat ⟨194, 194 + 160, 194, e, [], false⟩
  have h1 : (kBegin d e).at_ = 194 := this.1
  have h2 : (kBegin d e).end_ = 194 + 160 := this.2
  omega
theorem kRenew_wf (k : Ks) {d : Dk} (h : d.wf) : (kRenew k d).2.2.wf := by
  unfold kRenew
  dsimp only
  split <;> exact rtWrite_wf _ _ h
theorem kRenew_cnt (k : Ks) (d : Dk) : d.cnt ≤ (kRenew k d).2.2.cnt ∧ (kRenew k d).2.2.cnt ≤ d.cnt + 97 := by
  unfold kRenew
  dsimp only
  split <;> exact rtWrite_cnt _ _ _
theorem kRenew_lg {k : Ks} {d : Dk} (h : d.wf) (hk : k.lg.wf) : (kRenew k d).2.1.lg.wf := by
  unfold kRenew
  dsimp only
  split
  · exact kBegin_wf (rtWrite_wf _ _ h) _
  · exact hk
theorem kRenew_st (k : Ks) (d : Dk) : (kRenew k d).2.1.st = k.st := by
  unfold kRenew
  dsimp only
  split <;> rfl
theorem kRenew_dead (k : Ks) (d : Dk) : (kRenew k d).2.1.dead = k.dead := by
  unfold kRenew
  dsimp only
  split <;> rfl
theorem kRead_wf {d : Dk} (h : d.wf) {k : Ks} (hk : kRead d = some k) : k.lg.wf := by
  unfold kRead at hk
  split at hk
  · cases hk
  · rename_i p _
    cases hr : recsS p.1 (kBegin d p.2).recs with
    | none => rw [hr] at hk; cases hk
    | some s => rw [hr] at hk; cases hk; exact kBegin_wf h _
theorem kOpen_wf {d : Dk} (h : d.wf) : (kOpen d).2.2.wf := by
  unfold kOpen
  split
  · exact h
  · split
    · exact h
    · split
      · exact kRenew_wf _ h
      · exact h
end Go.Proofs.YtkbhldicnamcdaaGreat.L
namespace Go.Proofs.YtkbhldicnamcdaaGreat.L
open Go
set_option linter.unusedVariables false
set_option linter.unusedSimpArgs false
theorem laid_get : ∀ (l : List (Nat × Sec)) (s : List Sec) (i : Nat), (∀ w ∈ l, w.1 ≠ i) → (laid s l)[i]? = s[i]?
  | [], _, _, _ => rfl
  | w :: l, s, i, h => by
    show (laid (s.set w.1 w.2) l)[i]? = _
    rw [laid_get l _ i (fun v hv => h v (List.mem_cons_of_mem _ hv)), List.getElem?_set_ne (h w List.mem_cons_self)]
structure Only (R : Nat → Prop) (d d' : Dk) : Prop where
  sure : d'.sure = d.sure
  wr : ∃ W, d'.l = d.l ++ W ∧ ∀ w ∈ W, R w.1
theorem Only.refl (R : Nat → Prop) (d : Dk) : Only R d d := ⟨rfl, [], by simp, fun w hw => by cases hw⟩
theorem Only.trans {R : Nat → Prop} {a b c : Dk} (h : Only R a b) (k : Only R b c) : Only R a c := by
  obtain ⟨h1, W, h2, h3⟩ := h
  obtain ⟨k1, V, k2, k3⟩ := k
  exact ⟨k1.trans h1, W ++ V, by rw [k2, h2, List.append_assoc], fun w hw => (List.mem_append.1 hw).elim (h3 w) (k3 w)⟩
theorem Only.mono {R Q : Nat → Prop} {a b : Dk} (h : Only R a b) (hi : ∀ i, R i → Q i) : Only Q a b := ⟨h.sure, h.wr.imp fun W hw => ⟨hw.1, fun w hm => hi _ (hw.2 w hm)⟩⟩
theorem only_write (d : Dk) (i : Int) (b : Sec) : Only (fun j => (j : Int) = i) d (d.write i b).2 := by
  unfold Dk.write
  split
  · rename_i hm
    unfold Dk.may at hm
    simp only [Bool.and_eq_true, decide_eq_true_eq] at hm
    exact ⟨rfl, [(i.toNat, b)], rfl, fun w hw => by rw [List.mem_singleton.1 hw]; show ((i.toNat : Nat) : Int) = i; omega⟩
  · exact Only.refl _ _
theorem only_puts : ∀ (l : List Sec) (d : Dk) (i : Int), Only (fun j => i ≤ (j : Int) ∧ (j : Int) < i + l.length) d (d.puts i l).2
  | [], d, i => Only.refl _ _
  | s :: l, d, i => by
    have hw := (only_write d i s).mono (Q := fun j => i ≤ (j : Int) ∧ (j : Int) < i + (s :: l).length) (fun j hj => by rw [List.length_cons]; omega)
    rw [Dk.puts_cons]
    split
    · exact hw.trans ((only_puts l _ _).mono (fun j hj => by rw [List.length_cons]; omega))
    · exact hw
theorem only_spanPut (d : Dk) (i : Int) (b : List UInt8) : Only (fun j => i ≤ (j : Int) ∧ (j : Int) < i + need b.length) d (d.spanPut i b).2 := by
  have hn := need_nn (b.length : Int)
  unfold Dk.spanPut
  split
  · exact Only.refl _ _
  · split
    · exact (only_puts _ _ _).mono (fun j hj => by rw [secsOf_len] at hj; omega)
    · exact Only.refl _ _
theorem Only.now {R : Nat → Prop} {d d' : Dk} (h : Only R d d') (hl : d.l = []) {i : Nat} (hi : ¬ R i) : d'.now[i]? = d.now[i]? := by
  obtain ⟨h1, W, h2, h3⟩ := h
  unfold Dk.now
  rw [h1, h2, hl, List.nil_append]
  exact laid_get W d.sure i (fun w hw e => hi (e ▸ h3 w hw))
theorem Only.crash {R : Nat → Prop} {d d' : Dk} (h : Only R d d') (hl : d.l = []) (keep : List Bool) {i : Nat} (hi : ¬ R i) : (d'.crash keep).now[i]? = d.now[i]? := by
  obtain ⟨h1, W, h2, h3⟩ := h
  show (laid d'.sure (Dk.stay d'.l keep))[i]? = (laid d.sure d.l)[i]?
  rw [h1, h2, hl, List.nil_append]
  exact laid_get _ d.sure i (fun w hw e => hi (e ▸ h3 w (Dk.stay_mem hw)))
theorem read_agree {d d' : Dk} (hl : d'.len = d.len) {i : Int} (h : ∀ j : Nat, (j : Int) = i → d'.now[j]? = d.now[j]?) : d'.read i = d.read i := by
  unfold Dk.read
  rw [hl]
  split
  · rw [List.getD_eq_getElem?_getD, List.getD_eq_getElem?_getD, h i.toNat tO]
  · rfl
theorem lies_agree {d d' : Dk} (hl : d'.len = d.len) (i n : Int) : d'.lies i n = d.lies i n := by unfold Dk.lies; rw [hl]
theorem reads_agree {d d' : Dk} {i : Int} : ∀ n : Nat, (∀ j : Int, i ≤ j → j < i + n → d'.read j = d.read j) → d'.reads i n = d.reads i n
  | 0, _ => rfl
  | n + 1, h => by
    rw [Dk.reads_succ, Dk.reads_succ, reads_agree n (fun j h1 h2 => h j h1 tO), h (i + n) tO tO]
theorem spanGet_agree {d d' : Dk} (hl : d'.len = d.len) {i n : Int} (h : ∀ j : Int, i ≤ j → j < i + need (Dk.cutN n) → d'.read j = d.read j) : d'.spanGet i n = d.spanGet i n := by
  have hn := need_nn (Dk.cutN n)
  unfold Dk.spanGet
  rw [lies_agree hl, reads_agree _ (fun j h1 h2 => h j h1 tO)]
theorem rtOne_bit {d : Dk} {w : Int} {p : Int × List UInt8} (h : rtOne d w = some p) : bit0 p.1 = w ∧ 1 ≤ p.1 := by
  unfold rtOne at h
  dsimp only at h
  split at h
  · cases h
  · rename_i hc
    cases h
    simp only [Bool.or_eq_true, decide_eq_true_eq, not_or, Decidable.not_not] at hc
    exact ⟨hc.1.1.1.1.2, by have := hc.1.1.1.1.1; show 1 ≤ _; omega⟩
theorem rtE_agree {d d' : Dk} (hl : d'.len = d.len) {w : Int} (h : d'.read w = d.read w) : (rtOne d' w).map (·.1) = (rtOne d w).map (·.1) := by
  unfold rtOne
  rw [h]
  dsimp only
  rw [lies_agree hl]
  split <;> rfl
theorem rtOne_agree {d d' : Dk} (hl : d'.len = d.len) {w : Int} (h : d'.read w = d.read w) (ha : ∀ e : Int, bit0 e = w → ∀ j : Int, rtPlace e ≤ j → j < rtPlace e + 96 → d'.read j = d.read j) : rtOne d' w = rtOne d w := by
  unfold rtOne
  rw [h]
  dsimp only
  rw [lies_agree hl]
  split
  · rfl
  · rename_i hc
    simp only [Bool.or_eq_true, decide_eq_true_eq, not_or, Decidable.not_not] at hc
    have h1 := hc.1.1.1.1.2
    have h2 : ¬ 6144 < (rtSize (d.read w)).2 := hc.1.1.2
    rw [spanGet_agree hl (fun j a b => ha _ h1 j a ?_)]
    have h3 : Dk.cutN (rtSize (d.read w)).2 ≤ 6144 := by unfold Dk.cutN; omega
    have h4 : need (Dk.cutN (rtSize (d.read w)).2) ≤ 96 := by
      by_cases hz : Dk.cutN (rtSize (d.read w)).2 < 1
      · unfold need; rw [if_pos hz]; decide
      · rw [need_pos tO]; omega
    omega
theorem rtRead_some {d : Dk} {e : Int} {b : List UInt8} : rtRead d = some (e, b) ↔ rtOne d (bit0 e) = some (e, b) ∧ ((rtOne d (1 - bit0 e)).map (·.1)).getD 0 < e := by
  have hb : ∀ {w : Int} {p : Int × List UInt8}, rtOne d w = some p → bit0 p.1 = w ∧ 1 ≤ p.1 := fun h => rtOne_bit h
  constructor
  · intro h
    unfold rtRead at h
    rcases h1 : rtOne d 1 with _ | p
    · rw [h1] at h
      have h : rtOne d 0 = some (e, b) := h
      obtain ⟨h2, h3⟩ := hb h
      have h2 : bit0 e = 0 := h2
      rw [h2]
      refine ⟨h, ?_⟩
      show ((rtOne d 1).map (·.1)).getD 0 < e
      rw [h1]; exact h3
    · rw [h1] at h
      have h : (if ((rtOne d 0).map (·.1)).getD 0 < p.1 then some p else rtOne d 0) = some (e, b) := h
      split at h
      · rename_i hlt
        cases h
        obtain ⟨h2, h3⟩ := hb h1
        have h2 : bit0 e = 1 := h2
        rw [h2]
        exact ⟨h1, hlt⟩
      · rename_i hlt
        obtain ⟨h2, h3⟩ := hb h
        have h2 : bit0 e = 0 := h2
        rw [h2]
        refine ⟨h, ?_⟩
        show ((rtOne d 1).map (·.1)).getD 0 < e
        rw [h1]
        rw [h] at hlt
        have hlt : ¬ e < p.1 := hlt
        obtain ⟨h4, h5⟩ := hb h1
        have : ¬ p.1 = e := fun he => by rw [he, h2] at h4; exact absurd h4 tD
        show p.1 < e
        omega
  · rintro ⟨h1, h2⟩
    unfold rtRead
    have hc : bit0 e = 0 ∨ bit0 e = 1 := by unfold bit0; omega
    rcases hc with hc | hc
    · rw [hc] at h1 h2
      have h2 : ((rtOne d 1).map (·.1)).getD 0 < e := h2
      rcases h3 : rtOne d 1 with _ | p
      · exact h1
      · show (if ((rtOne d 0).map (·.1)).getD 0 < p.1 then some p else rtOne d 0) = _
        rw [h3] at h2
        have h2 : p.1 < e := h2
        rw [if_neg (by rw [h1]; show ¬ e < p.1; omega), h1]
    · rw [hc] at h1 h2
      have h2 : ((rtOne d 0).map (·.1)).getD 0 < e := h2
      rw [h1]
      show (if ((rtOne d 0).map (·.1)).getD 0 < e then some (e, b) else rtOne d 0) = _
      rw [if_pos h2]
namespace Lg
theorem step_next (d : Dk) (g : Lg) : g.next ≤ (step d g).2.next := by
  unfold step
  split
  · exact Int.le_refl _
  · have := need_nn (size (d.read g.next)); show g.next ≤ g.next + 1 + _; omega
theorem scan_next (d : Dk) : ∀ (n : Nat) (g : Lg), g.next ≤ (scan d n g).next
  | 0, g => Int.le_refl _
  | n + 1, g => by
    unfold scan
    split
    · split
      · exact Int.le_trans (step_next d g) (scan_next d n _)
      · exact Int.le_refl _
    · exact Int.le_refl _
theorem step_agree {d d' : Dk} (hl : d'.len = d.len) {g : Lg} (h0 : d'.read g.next = d.read g.next) (h : (step d g).1 = true → ∀ j : Int, g.next < j → j < (step d g).2.next → d'.read j = d.read j) : step d' g = step d g := by
  by_cases hs : (step d g).1 = true
  · have h := h hs
    unfold step at hs h ⊢
    rw [h0]
    split
    · rfl
    · rename_i hc
      rw [if_neg hc] at h
      have h : ∀ j : Int, g.next < j → j < g.next + 1 + need (size (d.read g.next)) → d'.read j = d.read j := h
      have hsz : 0 ≤ size (d.read g.next) := by
        simp only [Bool.or_eq_true, decide_eq_true_eq, not_or] at hc; have := hc.1.1; omega
      have hc2 : Dk.cutN (size (d.read g.next)) ≤ size (d.read g.next) := by unfold Dk.cutN; omega
      have hc3 : 0 ≤ Dk.cutN (size (d.read g.next)) := by unfold Dk.cutN; omega
      have hnm : need (Dk.cutN (size (d.read g.next))) ≤ need (size (d.read g.next)) := by
        by_cases hz : Dk.cutN (size (d.read g.next)) < 1
        · have := need_nn (size (d.read g.next)); unfold need; rw [if_pos hz]; exact this
        · rw [need_pos tO, need_pos tO]; omega
      rw [spanGet_agree hl (fun j a b => h j tO tO)]
  · unfold step at hs ⊢
    rw [h0]
    split
    · rfl
    · rename_i hc; rw [if_neg hc] at hs; exact absurd rfl hs
theorem scan_succ (d : Dk) (n : Nat) (g : Lg) : scan d (n + 1) g = if g.fits 0 = true then (if (step d g).1 = true then scan d n (step d g).2 else g) else g := rfl
theorem scan_agree {d d' : Dk} (hl : d'.len = d.len) : ∀ (n : Nat) (g : Lg), (∀ j : Int, g.next ≤ j → j ≤ (scan d n g).next → d'.read j = d.read j) → scan d' n g = scan d n g
  | 0, g, _ => rfl
  | n + 1, g, h => by
    rw [scan_succ] at h
    rw [scan_succ, scan_succ]
    by_cases hf : g.fits 0 = true
    · rw [if_pos hf] at h ⊢
      rw [if_pos hf]
      have hst : step d' g = step d g := by
        refine step_agree hl ?_ (fun hs j a b => ?_)
        · refine h g.next (Int.le_refl _) ?_
          split
          · exact Int.le_trans (step_next d g) (scan_next d n _)
          · exact Int.le_refl _
        · rw [if_pos hs] at h
          exact h j tO (Int.le_trans (Int.le_of_lt b) (scan_next d n _))
      rw [hst]
      by_cases hs : (step d g).1 = true
      · rw [if_pos hs] at h ⊢
        rw [if_pos hs]
        exact scan_agree hl n _ (fun j a b => h j (Int.le_trans (step_next d g) a) b)
      · rw [if_neg hs, if_neg hs]
    · rw [if_neg hf, if_neg hf]
theorem scan_cont {d d' : Dk} (hl : d'.len = d.len) : ∀ (n : Nat) (g : Lg), g.end_ - g.next ≤ n → (∀ j : Int, g.next ≤ j → j < (scan d n g).next → d'.read j = d.read j) →
    ∃ m : Nat, scan d' n g = scan d' m (scan d n g) ∧ g.end_ - (scan d n g).next ≤ m
  | 0, g, hn, _ => ⟨0, rfl, hn⟩
  | n + 1, g, hn, h => by
    rw [scan_succ d] at h ⊢
    by_cases hf : g.fits 0 = true
    · rw [if_pos hf] at h ⊢
      by_cases hs : (step d g).1 = true
      · rw [if_pos hs] at h ⊢
        have hd := step_down hs
        have hst : step d' g = step d g := step_agree hl (h g.next (Int.le_refl _) (Int.lt_of_lt_of_le hd (scan_next d n _))) (fun _ j a b => h j tO (Int.lt_of_lt_of_le b (scan_next d n _)))
        have he := step_end d g
        obtain ⟨m, h1, h2⟩ := scan_cont hl n (step d g).2 (by rw [he]; omega) (fun j a b => h j tO b)
        refine ⟨m, ?_, by rw [he] at h2; exact h2⟩
        rw [scan_succ d', if_pos hf, hst, if_pos hs, h1]
      · rw [if_neg hs] at h ⊢
        exact ⟨n + 1, rfl, hn⟩
    · rw [if_neg hf] at h ⊢
      exact ⟨n + 1, rfl, hn⟩
end Lg
end Go.Proofs.YtkbhldicnamcdaaGreat.L
namespace Go.Proofs.YtkbhldicnamcdaaGreat.L
open Go
set_option linter.unusedVariables false
set_option linter.unusedSimpArgs false
theorem head_text (e k n : Int) : ∃ z, Rd.text ⟨lgHead e k n, false⟩ = (recT, ⟨wInt e ++ (wInt k ++ (wInt n ++ z)), false⟩) := by
  refine ⟨List.replicate ((need (wText recT ++ wInt e ++ wInt k ++ wInt n).length).toNat * 64 - (wText recT ++ wInt e ++ wInt k ++ wInt n).length) 0, ?_⟩
  unfold lgHead fillB
  generalize List.replicate _ (0 : UInt8) = z
  rw [List.append_assoc, List.append_assoc, List.append_assoc]
  exact Rd.text_app' recT tD _
theorem root_text (e n : Int) : ∃ z, Rd.text ⟨rootS e n, false⟩ = (rootT, ⟨wInt e ++ (wInt n ++ z), false⟩) := by
  refine ⟨List.replicate ((need (wText rootT ++ wInt e ++ wInt n).length).toNat * 64 - (wText rootT ++ wInt e ++ wInt n).length) 0, ?_⟩
  unfold rootS fillB
  generalize List.replicate _ (0 : UInt8) = z
  rw [List.append_assoc, List.append_assoc]
  exact Rd.text_app' rootT tD _
def I64 (n : Int) : Prop := -9223372036854775808 ≤ n ∧ n ≤ 9223372036854775807
theorem head_size {e k n : Int} (he : I64 e) (hk : I64 k) (hn : I64 n) : Lg.size (lgHead e k n) = n := by
  obtain ⟨z, hz⟩ := head_text e k n
  unfold Lg.size
  rw [hz]
  dsimp only
  rw [Rd.int_app he.1 he.2]
  dsimp only
  rw [Rd.int_app hk.1 hk.2]
  dsimp only
  rw [Rd.int_app hn.1 hn.2]
theorem head_epoch {e k n e' k' n' : Int} (he : I64 e) (he' : I64 e') (h : lgHead e k n = lgHead e' k' n') : e = e' := by
  obtain ⟨z, hz⟩ := head_text e k n
  obtain ⟨z', hz'⟩ := head_text e' k' n'
  rw [h, hz'] at hz
  have hz := congrArg (fun p : ByteArray × Rd => (p.2.int).1) hz
  dsimp only at hz
  rw [Rd.int_app he.1 he.2, Rd.int_app he'.1 he'.2] at hz
  exact hz.symm
theorem root_size {e n : Int} (he : I64 e) (hn : I64 n) : rtSize (rootS e n) = (e, n) := by
  obtain ⟨z, hz⟩ := root_text e n
  unfold rtSize
  rw [hz]
  dsimp only
  rw [Rd.int_app he.1 he.2]
  dsimp only
  rw [Rd.int_app hn.1 hn.2]
theorem zero_head (e k n : Int) : zSec ≠ lgHead e k n := fun h => by
  obtain ⟨z, hz⟩ := head_text e k n
  rw [← h] at hz
  have := congrArg (fun p : ByteArray × Rd => p.1.size) hz
  exact absurd (show (Rd.text ⟨zSec, false⟩).1.size = 3 from this) tD
theorem write_read {d : Dk} {i : Int} {s : Sec} (h : (d.write i s).1 = true) : (d.write i s).2.read i = s ∧ 0 ≤ i ∧ i < (d.len : Int) := by
  unfold Dk.write at h ⊢
  split at h
  · rename_i hm
    rw [if_pos hm]
    unfold Dk.may at hm
    simp only [Bool.and_eq_true, decide_eq_true_eq] at hm
    obtain ⟨⟨⟨h0, h1⟩, _⟩, _⟩ := hm
    refine ⟨?_, h0, h1⟩
    unfold Dk.read
    rw [if_pos ⟨h0, by rw [Dk.put_len]; exact h1⟩]
    have hn : (d.put i.toNat s).now = d.now.set i.toNat s := laid_snoc _ _ _ _
    rw [hn, List.getD_eq_getElem?_getD, List.getElem?_set_self (by rw [Dk.now_len]; omega)]
    rfl
  · cases h
theorem write_other {d : Dk} {i j : Int} {s : Sec} (h : j ≠ i) : (d.write i s).2.read j = d.read j := by
  refine read_agree (Dk.write_len _ _ _) (fun n hn => ?_)
  unfold Dk.write
  split
  · rename_i hm
    unfold Dk.may at hm
    simp only [Bool.and_eq_true, decide_eq_true_eq] at hm
    have hs : (d.put i.toNat s).now = d.now.set i.toNat s := laid_snoc _ _ _ _
    show (d.put i.toNat s).now[n]? = _
    rw [hs, List.getElem?_set_ne tO]
  · rfl
theorem puts_other : ∀ (l : List Sec) (d : Dk) (i j : Int), j < i → (d.puts i l).2.read j = d.read j
  | [], _, _, _, _ => rfl
  | s :: l, d, i, j, h => by
    rw [Dk.puts_cons]
    split
    · rw [puts_other l _ _ _ tO, write_other tO]
    · exact write_other tO
theorem puts_reads : ∀ (l : List Sec) (d : Dk) (i : Int), (d.puts i l).1 = true → (d.puts i l).2.reads i l.length = l.flatten
  | [], _, _, _ => rfl
  | s :: l, d, i, h => by
    rw [Dk.puts_cons] at h ⊢
    split at h
    · rename_i hw
      rw [if_pos hw]
      have ih := puts_reads l (d.write i s).2 (i + 1) h
      have h0 : (Dk.puts (d.write i s).2 (i + 1) l).2.read i = s := by rw [puts_other _ _ _ _ tO]; exact (write_read hw).1
      rw [List.flatten_cons, ← ih]
      have key : ∀ (D : Dk) (n : Nat), D.reads i (n + 1) = D.read i ++ D.reads (i + 1) n := fun D n => by
        induction n with
        | zero => unfold Dk.reads; simp
        | succ n ih => rw [Dk.reads_succ, ih, Dk.reads_succ, List.append_assoc]; congr 3; omega
      rw [List.length_cons, key, h0]
    · cases h
theorem spanPut_get {d : Dk} {i : Int} {b : List UInt8} (h : (d.spanPut i b).1 = true) (hb : b.length ≤ 262144) : (d.spanPut i b).2.spanGet i b.length = b := by
  have hcut : Dk.cutN b.length = (b.length : Int) := by unfold Dk.cutN; omega
  unfold Dk.spanPut at h ⊢
  split at h
  · rename_i h0
    rw [if_pos h0]
    have hb0 : b = [] := List.length_eq_zero_iff.1 tO
    subst hb0
    unfold Dk.spanGet
    split <;> rfl
  · rename_i h0
    rw [if_neg h0]
    split at h
    · rename_i hl
      rw [if_pos hl]
      have hr := puts_reads (secsOf b) d i h
      have hj : (secsOf b).flatten = fillB b := secs_join _ _ (fillB_len b)
      rw [secsOf_len, hj] at hr
      unfold Dk.spanGet
      rw [hcut, lies_agree (Dk.puts_len _ _ _), if_pos hl, hr, Int.toNat_natCast]
      unfold fillB
      exact List.take_left
    · cases h
def top : Int := 4611686018427387904
structure IC (k : Ks) (d : Dk) : Prop where
  rd : kRead d = some k
  len : d.len = 354
  ep : 1 ≤ k.epoch
  fresh : ∀ e' n : Int, k.epoch < e' → e' ≤ top → d.read 194 ≠ lgHead e' 1 n
theorem kRead_iff {d : Dk} {k : Ks} (he : 1 ≤ k.epoch) : kRead d = some k ↔ ∃ b s0, rtRead d = some (k.epoch, b) ∧ imgRead b = some s0 ∧ k.lg = kBegin d k.epoch ∧ recsS s0 k.lg.recs = some k.st ∧ k.dead = false := by
  constructor
  · intro h
    unfold kRead kStart at h
    rcases hr : rtRead d with _ | p
    · rw [hr] at h
      dsimp only at h
      cases hs : recsS ⟨1, []⟩ (kBegin d 0).recs with
      | none => rw [hs] at h; cases h
      | some s => rw [hs] at h; cases h; exact absurd he (by show ¬ (1 : Int) ≤ 0; decide)
    · rw [hr] at h
      dsimp only at h
      cases hi : imgRead p.2 with
      | none => rw [hi] at h; cases h
      | some s0 =>
        rw [hi] at h
        dsimp only [Option.map_some] at h
        cases hs : recsS s0 (kBegin d p.1).recs with
        | none => rw [hs] at h; cases h
        | some s => rw [hs] at h; cases h; exact ⟨p.2, s0, rfl, hi, rfl, hs, rfl⟩
  · rintro ⟨b, s0, h1, h2, h3, h4, h5⟩
    unfold kRead kStart
    rw [h1]
    dsimp only
    rw [h2]
    dsimp only [Option.map_some]
    rw [← h3, h4]
    obtain ⟨st, ep, dd, lg⟩ := k
    cases h5
    rfl
theorem kBegin_next (d : Dk) (e : Int) : 194 ≤ (kBegin d e).next := Lg.scan_next d _ ⟨194, 194 + 160, 194, e, [], false⟩
theorem scan_ep (d : Dk) : ∀ (n : Nat) (g : Lg), (Lg.scan d n g).epoch = g.epoch ∧ (Lg.scan d n g).failed = g.failed
  | 0, _ => ⟨rfl, rfl⟩
  | n + 1, g => by
    have hs : (Lg.step d g).2.epoch = g.epoch ∧ (Lg.step d g).2.failed = g.failed := by unfold Lg.step; split <;> exact ⟨rfl, rfl⟩
    rw [Lg.scan_succ]
    split
    · split
      · have := scan_ep d n (Lg.step d g).2
        exact ⟨this.1.trans hs.1, this.2.trans hs.2⟩
      · exact ⟨rfl, rfl⟩
    · exact ⟨rfl, rfl⟩
theorem kBegin_eq (d : Dk) (e : Int) : (kBegin d e).at_ = 194 ∧ (kBegin d e).end_ = 354 ∧ (kBegin d e).epoch = e ∧ (kBegin d e).failed = false := by
  have h1 := scan_at d (160 : Int).toNat ⟨194, 194 + 160, 194, e, [], false⟩
  have h2 := scan_ep d (160 : Int).toNat ⟨194, 194 + 160, 194, e, [], false⟩
  exact ⟨h1.1, h1.2, h2.1, h2.2⟩
theorem rtPlace_rng (e : Int) : 2 ≤ rtPlace e ∧ rtPlace e + 96 ≤ 194 := by unfold rtPlace bit0; omega
def Dep (k : Ks) (j : Int) : Prop := j = 0 ∨ j = 1 ∨ (rtPlace k.epoch ≤ j ∧ j < rtPlace k.epoch + 96) ∨ (194 ≤ j ∧ j ≤ k.lg.next)
theorem bit0_01 (n : Int) : bit0 n = 0 ∨ bit0 n = 1 := by unfold bit0; omega
theorem IC.agree {k : Ks} {d d' : Dk} (h : IC k d) (hl : d'.len = d.len) (ha : ∀ j, Dep k j → d'.read j = d.read j) : IC k d' := by
  obtain ⟨b, s0, h1, h2, h3, h4, h5⟩ := (kRead_iff h.ep).1 h.rd
  have hb : ∀ w : Int, w = 0 ∨ w = 1 → d'.read w = d.read w := fun w hw => ha w (hw.elim .inl (fun e => .inr (.inl e)))
  obtain ⟨r1, r2⟩ := rtRead_some.1 h1
  have hrt : rtRead d' = some (k.epoch, b) := by
    refine rtRead_some.2 ⟨?_, ?_⟩
    · rw [rtOne_agree hl (hb _ (bit0_01 _)) (fun e he j a c => ha j (.inr (.inr (.inl ?_)))), r1]
      unfold rtPlace at a c ⊢
      rw [he] at a c
      exact ⟨a, c⟩
    · rw [rtE_agree hl (hb _ (by have := bit0_01 k.epoch; omega))]; exact r2
  have hlg : kBegin d' k.epoch = kBegin d k.epoch := Lg.scan_agree hl _ _ (fun j a c => ha j (.inr (.inr (.inr ⟨a, by rw [h3]; exact c⟩))))
  have hn := kBegin_next d k.epoch
  rw [← h3] at hn
  exact ⟨(kRead_iff h.ep).2 ⟨b, s0, hrt, h2, by rw [hlg]; exact h3, h4, h5⟩, hl.trans h.len, h.ep, fun e' n a c => by rw [ha 194 (.inr (.inr (.inr ⟨Int.le_refl _, hn⟩)))]; exact h.fresh e' n a c⟩
theorem IC.head {k : Ks} {d d' : Dk} {b : List UInt8} {es : List Eff} {st' : Stt} (h : IC k d) (hep : k.epoch ≤ top) (hw : k.lg.wf) (hl : d'.len = d.len) (ha : ∀ j, Dep k j → j ≠ k.lg.next → d'.read j = d.read j)
    (hf : k.lg.fits b.length = true) (hh : d'.read k.lg.next = lgHead k.epoch (k.lg.recs.length + 1) b.length) (hb : d'.spanGet (k.lg.next + 1) b.length = b) (hz : k.lg.behind b < 354 → d'.read (k.lg.behind b) = zSec)
    (he : effRead b = some es) (hs : applyS k.st es = (st', 0)) : IC { k with st := st', lg := { k.lg with recs := k.lg.recs ++ [b], next := k.lg.behind b } } d' := by
  obtain ⟨b0, s0, h1, h2, h3, h4, h5⟩ := (kRead_iff h.ep).1 h.rd
  have hbe := kBegin_eq d k.epoch
  rw [← h3] at hbe
  have hn := kBegin_next d k.epoch
  rw [← h3] at hn
  have hnx := hw.nx
  have hgl := hw.len
  have hfi := Lg.fits_iff.1 hf
  have hsz := Lg.fits_size hw (Int.natCast_nonneg _) hf
  have hnn := need_nn (b.length : Int)
  have hbn : ∀ w : Int, w = 0 ∨ w = 1 → d'.read w = d.read w := fun w hw' => ha w (hw'.elim .inl (fun e => .inr (.inl e))) tO
  obtain ⟨r1, r2⟩ := rtRead_some.1 h1
  have hpl := rtPlace_rng k.epoch
  have hrt : rtRead d' = some (k.epoch, b0) := by
    refine rtRead_some.2 ⟨?_, ?_⟩
    · rw [rtOne_agree hl (hbn _ (bit0_01 _)) (fun e he j a c => ?_), r1]
      have e1 : rtPlace e = rtPlace k.epoch := by unfold rtPlace; rw [he]
      rw [e1] at a c
      exact ha j (.inr (.inr (.inl ⟨a, c⟩))) tO
    · rw [rtE_agree hl (hbn _ (by have := bit0_01 k.epoch; omega))]; exact r2
  have hE : I64 k.epoch := ⟨by have := h.ep; omega, by unfold top at hep; omega⟩
  have hK : I64 ((k.lg.recs.length : Int) + 1) := ⟨by omega, by omega⟩
  have hN : I64 (b.length : Int) := ⟨by omega, by omega⟩
  have hhs := head_size hE hK hN
  -- the scan goes on
  obtain ⟨m, hm1, hm2⟩ := Lg.scan_cont (d := d) (d' := d') hl (160 : Int).toNat ⟨194, 194 + 160, 194, k.epoch, [], false⟩ (by show (194 : Int) + 160 - 194 ≤ ((160 : Int).toNat : Int); decide) (fun j a c => by
    have c : j < (kBegin d k.epoch).next := c
    rw [← h3] at c
    exact ha j (.inr (.inr (.inr ⟨a, by omega⟩))) tO)
  have hm1 : kBegin d' k.epoch = Lg.scan d' m (kBegin d k.epoch) := hm1
  have hm2 : (194 : Int) + 160 - (kBegin d k.epoch).next ≤ m := hm2
  rw [← h3] at hm1 hm2
  obtain ⟨m', rfl⟩ : ∃ m', m = m' + 1 := ⟨m - 1, by omega⟩
  have hst : Lg.step d' k.lg = (true, { k.lg with recs := k.lg.recs ++ [b], next := k.lg.behind b }) := by
    have e1 : Lg.size (d'.read k.lg.next) = (b.length : Int) := by rw [hh]; exact hhs
    have e2 : d'.read k.lg.next = lgHead k.lg.epoch (k.lg.recs.length + 1) b.length := by rw [hbe.2.2.1]; exact hh
    unfold Lg.step
    rw [e1, hb, if_neg]
    · rfl
    · rw [hf, decide_eq_true e2]; simp
  have hf0 : k.lg.fits 0 = true := Lg.fits_iff.2 ⟨hfi.1, by show (0 : Int) ≤ _; omega⟩
  have hstop : ∀ q : Nat, Lg.scan d' q { k.lg with recs := k.lg.recs ++ [b], next := k.lg.behind b } = { k.lg with recs := k.lg.recs ++ [b], next := k.lg.behind b } := fun q => by
    cases q with
    | zero => rfl
    | succ q =>
      rw [Lg.scan_succ]
      split
      · rename_i hff
        have hb354 : k.lg.behind b < 354 := by have := (Lg.fits_iff.1 hff).1; dsimp only at this; omega
        rw [if_neg]
        unfold Lg.step
        dsimp only
        rw [hz hb354, if_pos]
        · exact Bool.false_ne_true
        · rw [decide_eq_false (zero_head _ _ _)]; simp
      · rfl
  have hlg : kBegin d' k.epoch = { k.lg with recs := k.lg.recs ++ [b], next := k.lg.behind b } := by
    rw [hm1, Lg.scan_succ, if_pos hf0, hst, if_pos rfl]
    exact hstop m'
  have hrec : ∀ (l : List (List UInt8)) (s t : Stt), recsS s l = some t → recsS s (l ++ [b]) = (match effRead b with | none => none | some es => if (applyS t es).2 = 0 then some (applyS t es).1 else none) := by
    intro l
    induction l with
    | nil => intro s t hh; cases hh; rfl
    | cons x l ih =>
      intro s t hh
      rw [List.cons_append]
      unfold recsS at hh ⊢
      split at hh
      · cases hh
      · split at hh
        · rename_i hz'; rw [if_pos hz']; exact ih _ _ hh
        · cases hh
  refine ⟨(kRead_iff (k := { k with st := st', lg := { k.lg with recs := k.lg.recs ++ [b], next := k.lg.behind b } }) h.ep).2 ⟨b0, s0, hrt, h2, hlg.symm, ?_, h5⟩, hl.trans h.len, h.ep, fun e' n a c => ?_⟩
  · show recsS s0 (k.lg.recs ++ [b]) = some st'
    rw [hrec _ _ _ h4, he]
    dsimp only
    rw [hs, if_pos rfl]
  · have a : k.epoch < e' := a
    by_cases h194 : k.lg.next = 194
    · rw [h194] at hh
      rw [hh]
      intro hq
      have := head_epoch hE ⟨by have := h.ep; omega, by unfold top at c; omega⟩ hq
      omega
    · rw [ha 194 (.inr (.inr (.inr ⟨Int.le_refl _, hn⟩))) tO]
      exact h.fresh e' n a c
theorem IC.root {d' : Dk} {E : Int} {img : List UInt8} {s' : Stt} (h1 : 1 ≤ E) (h2 : E ≤ top) (hl : d'.len = 354) (hr : d'.read (bit0 E) = rootS E img.length) (hg : d'.spanGet (rtPlace E) img.length = img) (hi : img.length ≤ 6144) (hs : imgRead img = some s')
    (ho : ((rtOne d' (1 - bit0 E)).map (·.1)).getD 0 < E) (hf : ∀ e' n : Int, E ≤ e' → e' ≤ top → d'.read 194 ≠ lgHead e' 1 n) : IC ⟨s', E, false, ⟨194, 354, 194, E, [], false⟩⟩ d' := by
  have hE : I64 E := ⟨by omega, by unfold top at h2; omega⟩
  have hN : I64 (img.length : Int) := ⟨by omega, by omega⟩
  have hpl := rtPlace_rng E
  have hneed : need (img.length : Int) ≤ 96 := by
    by_cases hz : (img.length : Int) < 1
    · unfold need; rw [if_pos hz]; decide
    · rw [need_pos tO]; omega
  have hly : d'.lies (rtPlace E) (need img.length) = true := by
    unfold Dk.lies
    rw [hl]
    simp only [Bool.and_eq_true, decide_eq_true_eq]
    omega
  have hone : rtOne d' (bit0 E) = some (E, img) := by
    unfold rtOne
    rw [hr, root_size hE hN]
    dsimp only
    rw [if_neg, hg]
    rw [hly]
    simp
    omega
  have hrt : rtRead d' = some (E, img) := rtRead_some.2 ⟨hone, ho⟩
  have hlg : kBegin d' E = ⟨194, 354, 194, E, [], false⟩ := by
    show Lg.scan d' (160 : Int).toNat ⟨194, 194 + 160, 194, E, [], false⟩ = _
    rw [show (160 : Int).toNat = 159 + 1 from rfl, Lg.scan_succ]
    split
    · rw [if_neg]
      · rfl
      · unfold Lg.step
        dsimp only
        rw [if_pos]
        · exact Bool.false_ne_true
        · have hne : decide (d'.read 194 = lgHead E ((([] : List (List UInt8)).length : Int) + 1) (Lg.size (d'.read 194))) = false := decide_eq_false (hf E _ (Int.le_refl _) h2)
          rw [hne]; simp
    · rfl
  exact ⟨(kRead_iff (k := ⟨s', E, false, ⟨194, 354, 194, E, [], false⟩⟩) h1).2 ⟨img, s', hrt, hs, hlg.symm, rfl, rfl⟩, hl, h1, fun e' n a c => hf e' n (Int.le_of_lt a) c⟩
end Go.Proofs.YtkbhldicnamcdaaGreat.L
namespace Go.Proofs.YtkbhldicnamcdaaGreat.L
open Go
set_option linter.unusedVariables false
set_option linter.unusedSimpArgs false
theorem mright_fits {m : Msg} (h : m.right = true) : m.fits := by
  unfold Msg.right at h
  simp only [Bool.and_eq_true, decide_eq_true_eq] at h
  exact ⟨by omega, by omega, by omega, trivial, by omega, by omega⟩
theorem effName_le {s : ByteArray} (h : effName s = true) : (s.size : Int) ≤ 16 := by
  unfold effName at h
  rw [Bool.and_eq_true, decide_eq_true_eq, decide_eq_true_eq] at h
  exact h.2
theorem effId_le {n : Int} (h : effId n = true) : 1 ≤ n ∧ n ≤ 1099511627776 := by
  unfold effId at h
  rw [Bool.and_eq_true, decide_eq_true_eq, decide_eq_true_eq] at h
  exact h
theorem rwKey_le {s : ByteArray} (h : rwKey s = true) : (s.size : Int) ≤ 40 := by
  unfold rwKey at h
  rw [Bool.and_eq_true, decide_eq_true_eq, decide_eq_true_eq] at h
  exact h.2
theorem zmsg_fits : (⟨0, 0, 0, false, ⟨#[]⟩, ⟨#[]⟩⟩ : Msg).fits := ⟨by decide, by decide, by decide, trivial, by decide, by decide⟩
theorem right_fits {e : Eff} (h : e.right = true) : e.fits := by
  unfold Eff.right at h
  rw [Bool.and_eq_true, decide_eq_true_eq] at h
  obtain ⟨hn, hk⟩ := h
  have z1 : -9223372036854775808 ≤ (0 : Int) ∧ (0 : Int) ≤ 9223372036854775807 := by decide
  have z0 : (((⟨#[]⟩ : ByteArray).size : Nat) : Int) ≤ 9223372036854775807 := by decide
  unfold Eff.rightK at hk
  unfold Eff.named at hn
  dsimp only at hn
  split at hk
  · rename_i k
    rw [if_pos k] at hn
    rw [Bool.and_eq_true] at hk
    have := effName_le hk.1
    have hl : (1 ≤ e.n ∧ e.n ≤ 2) ∧ 0 ≤ e.limit ∧ e.limit ≤ 1000 := by
      have h3 := hk.2
      unfold effKind at h3
      split at h3
      · have := of_decide_eq_true h3; omega
      · split at h3
        · rw [Bool.and_eq_true, decide_eq_true_eq, decide_eq_true_eq] at h3; omega
        · cases h3
    rw [hn]
    exact ⟨by show _ ≤ e.kind ∧ e.kind ≤ _; omega, by show (e.object.size : Int) ≤ _; omega, z0, z0, by show _ ≤ e.n ∧ e.n ≤ _; omega, by show _ ≤ e.limit ∧ e.limit ≤ _; omega, trivial, zmsg_fits⟩
  · rename_i k1
    rw [if_neg k1] at hn
    split at hk
    · rename_i k
      rw [if_pos k] at hn
      rw [Bool.and_eq_true] at hk
      have h1 := effName_le hk.1
      have h2 := hk.2
      unfold Rw.right at h2
      rw [Bool.and_eq_true, decide_eq_true_eq] at h2
      have h3 := rwKey_le h2.1
      have h4 := h2.2
      dsimp only at h3 h4
      rw [hn]
      exact ⟨by show _ ≤ e.kind ∧ e.kind ≤ _; omega, by show (e.object.size : Int) ≤ _; omega, by show (e.key.size : Int) ≤ _; omega, by show (e.value.size : Int) ≤ _; omega, z1, z1, trivial, zmsg_fits⟩
    · rename_i k2
      rw [if_neg k2] at hn
      split at hk
      · rename_i k
        rw [if_pos k] at hn
        rw [Bool.and_eq_true] at hk
        have h1 := effName_le hk.1
        have h3 := rwKey_le hk.2
        rw [hn]
        exact ⟨by show _ ≤ e.kind ∧ e.kind ≤ _; omega, by show (e.object.size : Int) ≤ _; omega, by show (e.key.size : Int) ≤ _; omega, z0, z1, z1, trivial, zmsg_fits⟩
      · rename_i k3
        rw [if_neg k3] at hn
        split at hk
        · rename_i k
          rw [if_pos k] at hn
          rw [Bool.and_eq_true] at hk
          have h1 := effName_le hk.1
          have h3 := mright_fits hk.2
          rw [hn]
          exact ⟨by show _ ≤ e.kind ∧ e.kind ≤ _; omega, by show (e.object.size : Int) ≤ _; omega, z0, z0, z1, z1, trivial, h3⟩
        · rename_i k4
          rw [if_neg k4] at hn
          split at hk
          · rename_i k
            rw [Bool.and_eq_true] at hk
            have h1 := effName_le hk.1
            have h3 := effId_le hk.2
            by_cases k56 : e.kind = 5 ∨ e.kind = 6
            · rw [if_pos k56] at hn
              rw [hn]
              exact ⟨by show _ ≤ e.kind ∧ e.kind ≤ _; omega, by show (e.object.size : Int) ≤ _; omega, z0, z0, by show _ ≤ e.n ∧ e.n ≤ _; omega, z1, trivial, zmsg_fits⟩
            · have k7 : e.kind = 7 := by omega
              rw [if_neg k56, if_pos k7] at hn
              rw [hn]
              exact ⟨by show _ ≤ e.kind ∧ e.kind ≤ _; omega, by show (e.object.size : Int) ≤ _; omega, z0, z0, by show _ ≤ e.n ∧ e.n ≤ _; omega, z1, trivial, zmsg_fits⟩
          · rename_i k5
            split at hk
            · rename_i k
              have h3 := effId_le hk
              rw [if_neg tO, if_neg tO, if_pos k] at hn
              rw [hn]
              exact ⟨by show _ ≤ e.kind ∧ e.kind ≤ _; omega, z0, z0, z0, by show _ ≤ e.n ∧ e.n ≤ _; omega, z1, trivial, zmsg_fits⟩
            · cases hk
theorem doS_right {s : Stt} {e : Eff} (h : (doS s e).2 = 0) : e.right = true := by
  unfold doS at h
  split at h
  · exact absurd (show (1 : Int) = 0 from h) tD
  · rename_i hr; simpa using hr
theorem doAll_rights : ∀ {l : List Eff} {s : Stt}, (doAll s l).2 = 0 → ∀ e ∈ l, e.right = true
  | [], _, _, e, he => by cases he
  | x :: l, s, h, e, he => by
    unfold doAll at h
    by_cases c : (doS s x).2 = 0
    · rw [if_pos c] at h
      rcases List.mem_cons.1 he with rfl | he
      · exact doS_right c
      · exact doAll_rights h e he
    · rw [if_neg c] at h; exact absurd h c
theorem effs_back {s : Stt} {l : List Eff} (h : (applyS s l).2 = 0) (hl : l.length ≤ 10000) : effRead (effsBytes l) = some l := by
  have hr : ∀ e ∈ l, e.right = true := by
    rw [(apply_right h).2.2] at h
    exact doAll_rights h
  have := effRead_bytes l [] hl (fun e he => right_fits (hr e he))
  rw [List.append_nil] at this
  rw [this, if_pos ⟨List.all_eq_true.2 hr, rfl⟩]
theorem cd (n : Int) (h : 0 ≤ n ∧ n ≤ 7 := by decide) : 0 ≤ n ∧ n ≤ 7 := h
theorem doS_code (s : Stt) (e : Eff) : 0 ≤ (doS s e).2 ∧ (doS s e).2 ≤ 7 := by
  have hm : 0 ≤ (makeS s e).2 ∧ (makeS s e).2 ≤ 7 := by
    unfold makeS; split
    · exact cd 4
    · split
      · exact cd 6
      · exact cd 0
  have hn : 0 ≤ (nextS s e.n).2 ∧ (nextS s e.n).2 ≤ 7 := by
    unfold nextS; split
    · exact cd 1
    · exact cd 0
  have ht : ∀ o, 0 ≤ (tableO o e).2 ∧ (tableO o e).2 ≤ 7 := fun o => by
    unfold tableO; split
    · exact cd 0
    · dsimp only; split <;> decide
  have hq : ∀ o, 0 ≤ (queueO s o e).2 ∧ (queueO s o e).2 ≤ 7 := fun o => by
    unfold queueO
    split
    · split
      · exact cd 1
      · split
        · exact cd 4
        · exact cd 0
    · split
      · dsimp only; split <;> decide
      · split
        · split
          · exact cd 7
          · dsimp only; split <;> decide
        · split
          · dsimp only; split <;> decide
          · exact cd 7
  unfold doS
  split
  · exact cd 1
  · split
    · exact hm
    · split
      · exact hn
      · split
        · exact cd 3
        · split
          · exact cd 5
          · split
            · exact ht _
            · exact hq _
theorem doAll_code : ∀ (l : List Eff) (s : Stt), 0 ≤ (doAll s l).2 ∧ (doAll s l).2 ≤ 7
  | [], _ => cd 0
  | e :: l, s => by
    unfold doAll
    split
    · exact doAll_code l _
    · exact doS_code s e
theorem apply_code (s : Stt) (l : List Eff) : 0 ≤ (applyS s l).2 ∧ (applyS s l).2 ≤ 7 := by
  unfold applyS
  split
  · exact cd 1
  · exact doAll_code l s
theorem recsS_ok : ∀ {l : List (List UInt8)} {s t : Stt}, recsS s l = some t → s.right = true → t.right = true ∧ t.cnt ≤ s.cnt + (l.map List.length).sum
  | [], s, t, h, hr => by cases h; exact ⟨hr, Nat.le_refl _⟩
  | b :: l, s, t, h, hr => by
    unfold recsS at h
    split at h
    · cases h
    · rename_i es he
      split at h
      · rename_i h0
        obtain ⟨h1, h2⟩ := recsS_ok h (apply_right h0).2.1
        have h3 := apply_cnt s es
        have h4 := effRead_len he
        refine ⟨h1, ?_⟩
        rw [List.map_cons, List.sum_cons]; omega
      · cases h
theorem rtRead_le {d : Dk} {p : Int × List UInt8} (h : rtRead d = some p) : p.2.length ≤ 6144 := by
  have key : ∀ {w : Int} {p : Int × List UInt8}, rtOne d w = some p → p.2.length ≤ 6144 := fun h => by
    unfold rtOne at h
    dsimp only at h
    split at h
    · cases h
    · rename_i w p hc
      cases h
      have h1 := Dk.spanGet_cut d (rtPlace (rtSize (d.read w)).1) (rtSize (d.read w)).2
      simp only [Bool.or_eq_true, decide_eq_true_eq, not_or] at hc
      have h2 : ¬ 6144 < (rtSize (d.read w)).2 := hc.1.1.2
      have h3 : ¬ (rtSize (d.read w)).2 < 0 := hc.1.1.1.2
      have h4 : Dk.cutN (rtSize (d.read w)).2 ≤ 6144 := by unfold Dk.cutN; omega
      show (d.spanGet _ _).length ≤ 6144
      omega
  unfold rtRead at h
  split at h
  · rename_i p1 h1
    split at h
    · cases h; exact key h1
    · exact key h
  · exact key h
structure KsOk (k : Ks) : Prop where
  right : k.st.right = true
  cnt : k.st.cnt ≤ 30000
  lg : k.lg.wf
theorem kRead_ok {d : Dk} {k : Ks} (hw : d.wf) (h : kRead d = some k) : KsOk k := by
  have hlg := kRead_wf hw h
  have key : ∀ p : Stt × Int, kStart d = some p → p.1.right = true ∧ p.1.cnt ≤ 6144 := fun p hp => by
    unfold kStart at hp
    split at hp
    · cases hp; exact ⟨init_right, Nat.zero_le _⟩
    · rename_i q hq
      obtain ⟨s, hs, rfl⟩ := Option.map_eq_some_iff.1 hp
      have h1 := imgRead_can hs
      have h2 := cnt_bytes s
      rw [← h1.1] at h2
      exact ⟨h1.2, Nat.le_trans h2 (rtRead_le hq)⟩
  unfold kRead at h
  split at h
  · cases h
  · rename_i p hp
    obtain ⟨t, ht, rfl⟩ := Option.map_eq_some_iff.1 h
    obtain ⟨k1, k2⟩ := key p hp
    obtain ⟨r1, r2⟩ := recsS_ok ht k1
    have hb := kBegin_eq d p.2
    have h3 := hlg.tot
    have h4 := hlg.nx
    dsimp only at h3 h4
    rw [hb.1] at h3
    rw [hb.2.1] at h4
    exact ⟨r1, by show t.cnt ≤ 30000; omega, hlg⟩
end Go.Proofs.YtkbhldicnamcdaaGreat.L
namespace Go.Proofs.YtkbhldicnamcdaaGreat.L
open Go Go.Proofs
attribute [local irreducible] pv fv pt fz RowF RowO rowP old pure_ elA Rd.int Rd.text Rd.flag Rd.msg Rd.rint Rd.rtext Rd.rflag Rd.rmsg
set_option maxRecDepth 100000
set_option linter.unusedSimpArgs false
set_option linter.unusedVariables false
attribute [local irreducible] DkX
abbrev ksC (vl : Value) (p : Nat) (s : Sz) (epoch : Int) (dead : Bool) : List Value := [vl, .pointer (some ⟨p, 0, none⟩), .int .i64 s.next, .slice s.q s.l.length s.c, .int .i64 epoch, .bool dead]
structure KsI (k : Ks) where
  l : Nat
  zl : LgI k.lg
  sz : Sz
  hs : sz.st = k.st
  room : sz.l.length ≤ sz.c
  cap : ∀ o ∈ sz.l, o.cap
abbrev KsF (s p : Nat) (k : Ks) (z : KsI k) : List HP := pv s 97 (ksC (.pointer (some ⟨z.l, 0, none⟩)) p z.sz k.epoch k.dead) :: LgF z.l p k.lg z.zl ++ StL z.sz
def KsX (s p : Nat) (k : Ks) : HP := HP.ex (KsF s p k)
theorem KsI.good {k : Ks} (z : KsI k) (h : KsOk k) : z.sz.good 30000 := ⟨by rw [z.hs]; exact st_small h.right h.cnt tD, z.room, z.cap⟩
theorem KsI.ok {k : Ks} (z : KsI k) (h : KsOk k) : z.sz.ok := Sz.ok_of (z.good h).sm z.room z.cap
theorem KsI.cnt {k : Ks} (z : KsI k) (h : KsOk k) : z.sz.cnt z.sz.l.length ≤ 40000 := by rw [Sz.cnt_st, z.hs]; have := h.cnt; omega
theorem ks_begin (s p : Nat) (d : Dk) (vl : Value) (sz : Sz) (e : Int) (dead : Bool) (hw : d.wf) (h354 : 354 ≤ d.len) : Fn Tryz.prog 68 [.pointer (some ⟨s, 0, none⟩)].toArray [pv s 97 (ksC vl p sz e dead), DkX p d]
    (fun r post => ∃ l, ∃ z : LgI (kBegin d e), r = .tuple #[] ∧ post = pv s 97 (ksC (.pointer (some ⟨l, 0, none⟩)) p sz e dead) :: LgF l p (kBegin d e) z ++ [DkX p d]) := by
  refine Fn.enter (N := 15) Tryz.func68 rfl Tryz.ntmps68 tK rfl (fun ρ L => ?_)
  refine K.drawS [pv s 97 (ksC vl p sz e dead)] (fun _ h => h.subD) mixed <| dq 0 rfl (q_move rfl) <| dq 1 rfl (q_move rfl) <| dq 2 rfl (q_nilCheck rfl) <| dq 3 rfl (q_field fo_97_1 rfl) <| dq 4 rfl (q_load1D ck_25 rfl) <| dq 6 rfl (q_move rfl) <| dq 7 rfl (q_nilCheck rfl) <| dq 8 rfl (q_field fo_97_3 rfl) <| dq 9 rfl (q_load1D ck_3 rfl) ?_
  refine dq1 5 rfl (OpL.callD rfl (h := rt_Need)) (.inr (by rintro _ _ ⟨_, ⟨rfl, rfl⟩, rfl⟩ w h; exact h.subD)) ?_
  rintro _ _ ⟨_, ⟨rfl, rfl⟩, rfl⟩
  refine dq1 10 rfl (OpL.callD rfl (h := lg_Open p d 194 160 e hw tD tD tO)) (.inr (by rintro _ _ ⟨_, ⟨l, z, rfl, rfl⟩, rfl⟩ w h; exact h.subD)) ?_
  rintro _ _ ⟨_, ⟨l, z, rfl, rfl⟩, rfl⟩
  refine dq1 11 rfl (OpQ.loud (q_nilCheck rfl)) (.inl tK) ?_
  rintro _ _ ⟨rfl, rfl⟩
  refine dq1 12 rfl (OpQ.loud (q_field fo_97_0 rfl)) (.inl tK) ?_
  rintro _ _ ⟨rfl, rfl⟩
  refine dq1N 13 rfl (l_store1 ck_95 rfl rfl rfl tP tA) (.inl tK) ?_
  rintro _ _ ⟨rfl, rfl⟩
  refine D.done tK ?_
  refine K.fin (fn := Tryz.f68) Tryz.func68 (fun a w hk hs => res0 Tryz.results68) (fun w hs => ?_)
  exact ⟨_, pv s 97 (ksC (.pointer (some ⟨l, 0, none⟩)) p sz e dead) :: LgF l p (kBegin d e) z ++ [DkX p d], rfl, ⟨l, z, rfl, rfl⟩, hs.fitD⟩
set_option maxHeartbeats 1600000 in
theorem ks_renew (s p : Nat) (d : Dk) (k : Ks) (z : KsI k) (hk : KsOk k) (hw : d.wf) (h354 : 354 ≤ d.len) (hc : d.cnt ≤ 80000000) : Fn Tryz.prog 45 [.pointer (some ⟨s, 0, none⟩)].toArray (KsF s p k z ++ [DkX p d])
    (fun r post => ∃ z' : KsI (kRenew k d).2.1, r = .int .i64 (kRenew k d).1 ∧ post = KsF s p (kRenew k d).2.1 z' ++ [DkX p (kRenew k d).2.2]) := by
  have hok := z.ok hk
  have hcn := z.cnt hk
  have hzs := z.hs
  have hw2 := rtWrite_wf (i64 (k.epoch + 1)) (imgBytes k.st) hw
  have hl2 := rtWrite_len (i64 (k.epoch + 1)) (imgBytes k.st) d
  refine Fn.enter (N := 28) Tryz.func45 rfl Tryz.ntmps45 tK rfl (fun ρ L => ?_)
  refine K.seq <| K.region <| KO.q rfl (q_assign rfl) <| KO.done <| K.seq <| K.seq <| K.drawS [pv s 97 (ksC (.pointer (some ⟨z.l, 0, none⟩)) p z.sz k.epoch k.dead)] (fun _ h => h.subD) mixed <| dq 0 rfl (q_move rfl) <| dq 1 rfl (q_nilCheck rfl) <| dq 2 rfl (q_field fo_97_1 rfl) <| dq 3 rfl (q_load1D ck_25 rfl) ?_
  refine dq 4 rfl (q_move rfl) <| dq 5 rfl (q_nilCheck rfl) <| dq 6 rfl (q_field fo_97_3 rfl) <| dq 7 rfl (q_load1D ck_3 rfl) <| dq 8 rfl (q_is (q_addw rfl rfl) (congrArg (Value.int .i64) (wrap_i64_i64 (k.epoch + 1)))) <| dq 9 rfl (q_move rfl) <| dq 10 rfl (q_nilCheck rfl) <| dq 11 rfl (q_field fo_97_2 rfl) <| dq 12 rfl (q_as_sz (l_ := z.sz.l) (q_loadN ck_47 rfl rfl (cells_pvAt tM rfl)) rfl) <| dq1 13 rfl (OpL.callD rfl (h := im_Bytes z.sz hok hcn)) (.inr (by rintro _ _ ⟨_, ⟨qb, cb, rfl, rfl, hcb⟩, rfl⟩ w h; exact h.subD)) ?_
  rintro _ _ ⟨_, ⟨qb, cb, rfl, rfl, hcb⟩, rfl⟩
  rw [hzs] at hcb ⊢
  refine dq1 14 rfl (OpL.callD rfl (h := rt_Write (RowF Kd.u8 qb (imgBytes k.st)) p d (i64 (k.epoch + 1)) qb cb (imgBytes k.st) isF hw hc)) (.inr (by rintro _ _ ⟨_, ⟨rfl, rfl⟩, rfl⟩ w h; exact h.subD)) ?_
  rintro _ _ ⟨_, ⟨rfl, rfl⟩, rfl⟩
  refine dq 15 rfl (q_ne rfl rfl) <| D.done tK ?_
  refine K.dcond (s := 18) rfl (fun g18 => ?_) (fun g18 => ?_)
  · have hr : kRenew k d = (12, k, (rtWrite (i64 (k.epoch + 1)) (imgBytes k.st) d).2) := by unfold kRenew; dsimp only; rw [if_neg g18]
    refine K.seq <| K.region <| KO.q rfl (q_assign rfl) <| KO.done ?_
    refine kr1 Tryz.func45 Tryz.results45 rfl (fun w hs => ?_)
    rw [hr]
    exact ⟨_, KsF s p k z ++ [DkX p (rtWrite (i64 (k.epoch + 1)) (imgBytes k.st) d).2], rfl, ⟨z, rfl, rfl⟩, hs.fitD⟩
  · obtain ⟨d2, hd2⟩ : ∃ d2, d2 = (rtWrite (i64 (k.epoch + 1)) (imgBytes k.st) d).2 := ⟨_, rfl⟩
    have hr : kRenew k d = (0, { k with epoch := i64 (k.epoch + 1), lg := kBegin d2 (i64 (k.epoch + 1)) }, d2) := by unfold kRenew; dsimp only; rw [if_pos (Decidable.not_not.1 g18), hd2]
    rw [← hd2] at hw2 hl2 ⊢
    refine K.skip <| K.seq <| K.region <| KO.q rfl (q_move rfl) <| KO.q rfl (q_nilCheck rfl) <| KO.q rfl (q_field fo_97_3 rfl) <| KO.q rfl (q_load1D ck_3 rfl) <| KO.q rfl (q_is (q_addw rfl rfl) (congrArg (Value.int .i64) (wrap_i64_i64 (k.epoch + 1)))) <| KO.q rfl (q_nilCheck rfl) <| KO.q rfl (q_field fo_97_3 rfl) <| KO.loudN rfl (l_store1 ck_3 rfl rfl rfl tP tA) ?_
    rintro _ _ ⟨rfl, rfl⟩
    refine KO.done <| K.seq <| K.region <| KO.q rfl (q_move rfl) <| KO.loud rfl (OpL.callD rfl (h := ks_begin s p d2 (.pointer (some ⟨z.l, 0, none⟩)) z.sz (i64 (k.epoch + 1)) k.dead hw2 tO)) ?_
    rintro _ _ ⟨_, ⟨l2, z2, rfl, rfl⟩, rfl⟩
    refine KO.done <| K.seq <| K.region <| KO.q rfl (q_assign rfl) <| KO.done ?_
    refine kr1 Tryz.func45 Tryz.results45 rfl (fun w hs => ?_)
    rw [hr]
    exact ⟨_, KsF s p { k with epoch := i64 (k.epoch + 1), lg := kBegin d2 (i64 (k.epoch + 1)) } ⟨l2, z2, z.sz, z.hs, z.room, z.cap⟩ ++ [DkX p d2], rfl, ⟨_, rfl, rfl⟩, hs.fitD⟩
theorem kRenew_ok {k : Ks} {d : Dk} (hk : KsOk k) (hw : d.wf) : KsOk (kRenew k d).2.1 := ⟨by rw [kRenew_st]; exact hk.right, by rw [kRenew_st]; exact hk.cnt, kRenew_lg hw hk.lg⟩
set_option maxHeartbeats 1600000 in
theorem ks_append (A : HP) (s p : Nat) (d : Dk) (k : Ks) (z : KsI k) (qb : Option Addr) (cb : Nat) (b : List UInt8) (hA : IsRow A Kd.u8 qb b) (hk : KsOk k) (hw : d.wf) (h354 : 354 ≤ d.len) (hc : d.cnt ≤ 70000000) : Fn Tryz.prog 55 [.pointer (some ⟨s, 0, none⟩), .slice qb b.length cb].toArray (A :: KsF s p k z ++ [DkX p d])
    (fun r post => ∃ z' : KsI (kAppend k b d).2.1, r = .int .i64 (kAppend k b d).1 ∧ post = A :: KsF s p (kAppend k b d).2.1 z' ++ [DkX p (kAppend k b d).2.2]) := by
  have hrm : k.lg.room ≤ 64 * 4096 := by have := hk.lg.nx; have := hk.lg.pl; unfold Lg.room; omega
  have hc2 := kRenew_cnt k d
  have hw2 := kRenew_wf k hw
  have hok2 := kRenew_ok hk hw
  refine Fn.enter (N := 28) Tryz.func55 rfl Tryz.ntmps55 tK rfl (fun ρ L => ?_)
  refine K.seq <| K.region <| KO.q rfl (q_assign rfl) <| KO.done <| K.seq <| K.seq <| K.region <| KO.q rfl (q_move rfl) <| KO.q rfl (q_len Tryz.underlying23 rfl) <| KO.q rfl (q_move rfl) <| KO.q rfl (q_nilCheck rfl) ?_
  refine KO.q rfl (q_field fo_97_0 rfl) <| KO.q rfl (q_load1D ck_95 rfl) <| KO.loud rfl (OpL.callD rfl (h := lg_Room z.l p k.lg z.zl.q z.zl.R.length z.zl.c hk.lg)) ?_
  rintro _ _ ⟨_, ⟨rfl, rfl⟩, rfl⟩
  refine KO.q rfl (q_gt rfl rfl) <| KO.done ?_
  refine K.dcond (s := 13) rfl (fun g13 => ?_) (fun g13 => ?_)
  · refine K.seq <| K.seq <| K.region <| KO.q rfl (q_move rfl) <| KO.q rfl (q_len Tryz.underlying23 rfl) <| KO.q rfl (q_gt rfl rfl) <| KO.done ?_
    refine K.dcond (s := 16) rfl (fun g16 => ?_) (fun g16 => ?_)
    · have hr : kAppend k b d = (9, k, d) := by unfold kAppend; rw [if_pos g13, if_pos g16]
      refine K.seq <| K.region <| KO.q rfl (q_assign rfl) <| KO.done ?_
      refine kr1 Tryz.func55 Tryz.results55 rfl (fun w hs => ?_)
      rw [hr]
      exact ⟨_, A :: KsF s p k z ++ [DkX p d], rfl, ⟨z, rfl, rfl⟩, hs.fitD⟩
    · refine K.skip <| K.seq <| K.region <| KO.q rfl (q_move rfl) <| KO.loud rfl (OpL.callD rfl (h := ks_renew s p d k z hk hw h354 tO)) ?_
      rintro _ _ ⟨_, ⟨z2, rfl, rfl⟩, rfl⟩
      refine KO.q rfl (q_assign rfl) <| KO.done <| K.seq <| K.region <| KO.q rfl (q_move rfl) <| KO.q rfl (q_ne rfl rfl) <| KO.done ?_
      refine K.dcond (s := 20) rfl (fun g20 => ?_) (fun g20 => ?_)
      · have hr : kAppend k b d = kRenew k d := by unfold kAppend; rw [if_pos g13, if_neg g16]; dsimp only; rw [if_neg g20]
        refine K.seq <| K.region <| KO.q rfl (q_move rfl) <| KO.q rfl (q_assign rfl) <| KO.done ?_
        refine kr1 Tryz.func55 Tryz.results55 rfl (fun w hs => ?_)
        rw [hr]
        exact ⟨_, A :: KsF s p (kRenew k d).2.1 z2 ++ [DkX p (kRenew k d).2.2], rfl, ⟨z2, rfl, rfl⟩, hs.fitD⟩
      · obtain ⟨k2, d2, hkd⟩ : ∃ k2 d2, (kRenew k d).2 = (k2, d2) := ⟨_, _, rfl⟩
        have hr : kAppend k b d = ((k2.lg.append b d2).1, { k2 with lg := (k2.lg.append b d2).2.1 }, (k2.lg.append b d2).2.2) := by
          unfold kAppend; rw [if_pos g13, if_neg g16]; dsimp only; rw [if_pos (Decidable.not_not.1 g20), hkd]
        revert z2
        rw [hkd] at hw2 hc2 hok2 ⊢
        dsimp only at hw2 hc2 hok2 ⊢
        intro z2
        refine K.skip <| K.seq <| K.region <| KO.q rfl (q_move rfl) <| KO.q rfl (q_nilCheck rfl) <| KO.q rfl (q_field fo_97_0 rfl) <| KO.q rfl (q_load1D ck_95 rfl) <| KO.q rfl (q_move rfl) <| KO.loud rfl (OpL.callD rfl (h := lg_Append A z2.l p d2 k2.lg z2.zl qb cb b hA hok2.lg hw2 tO tO)) ?_
        rintro _ _ ⟨_, ⟨z3, rfl, rfl⟩, rfl⟩
        refine KO.q rfl (q_assign rfl) <| KO.done ?_
        refine kr1 Tryz.func55 Tryz.results55 rfl (fun w hs => ?_)
        rw [hr]
        exact ⟨_, A :: KsF s p { k2 with lg := (k2.lg.append b d2).2.1 } ⟨z2.l, z3, z2.sz, z2.hs, z2.room, z2.cap⟩ ++ [DkX p (k2.lg.append b d2).2.2], rfl, ⟨_, rfl, rfl⟩, hs.fitD⟩
  · have hr : kAppend k b d = ((k.lg.append b d).1, { k with lg := (k.lg.append b d).2.1 }, (k.lg.append b d).2.2) := by unfold kAppend; rw [if_neg g13]
    refine K.skip <| K.seq <| K.region <| KO.q rfl (q_move rfl) <| KO.q rfl (q_nilCheck rfl) <| KO.q rfl (q_field fo_97_0 rfl) <| KO.q rfl (q_load1D ck_95 rfl) <| KO.q rfl (q_move rfl) <| KO.loud rfl (OpL.callD rfl (h := lg_Append A z.l p d k.lg z.zl qb cb b hA hk.lg hw tO tO)) ?_
    rintro _ _ ⟨_, ⟨z3, rfl, rfl⟩, rfl⟩
    refine KO.q rfl (q_assign rfl) <| KO.done ?_
    refine kr1 Tryz.func55 Tryz.results55 rfl (fun w hs => ?_)
    rw [hr]
    exact ⟨_, A :: KsF s p { k with lg := (k.lg.append b d).2.1 } ⟨z.l, z3, z.sz, z.hs, z.room, z.cap⟩ ++ [DkX p (k.lg.append b d).2.2], rfl, ⟨_, rfl, rfl⟩, hs.fitD⟩
end Go.Proofs.YtkbhldicnamcdaaGreat.L
namespace Go.Proofs.YtkbhldicnamcdaaGreat.L
open Go Go.Proofs
attribute [local irreducible] pv fv pt fz RowF RowO rowP old pure_ elA Rd.int Rd.text Rd.flag Rd.msg Rd.rint Rd.rtext Rd.rflag Rd.rmsg
set_option maxRecDepth 100000
set_option linter.unusedSimpArgs false
set_option linter.unusedVariables false
attribute [local irreducible] DkX
theorem kAppend_st (k : Ks) (b : List UInt8) (d : Dk) : (kAppend k b d).2.1.st = k.st ∧ (kAppend k b d).2.1.dead = k.dead := by
  unfold kAppend
  split
  · split
    · exact ⟨rfl, rfl⟩
    · dsimp only
      split
      · exact ⟨kRenew_st k d, kRenew_dead k d⟩
      · exact ⟨kRenew_st k d, kRenew_dead k d⟩
  · exact ⟨rfl, rfl⟩
set_option maxHeartbeats 3200000 in
theorem ks_Do (s p : Nat) (d : Dk) (k : Ks) (z : KsI k) (q : Option Addr) (c : Nat) (l : List Eff) (hk : KsOk k) (hw : d.wf) (h354 : 354 ≤ d.len) (hc : d.cnt ≤ 60000000) (hl : l.length ≤ 10000) : Fn Tryz.prog 24 [.pointer (some ⟨s, 0, none⟩), .slice q l.length c].toArray (RowF Kd.eff q l :: KsF s p k z ++ [DkX p d])
    (fun r post => ∃ z' : KsI (kDo k l d).2.1, r = .int .i64 (kDo k l d).1 ∧ post = KsF s p (kDo k l d).2.1 z' ++ [DkX p (kDo k l d).2.2]) := by
  have hg := z.good hk
  have hcn := apply_cnt k.st l
  have hk30 := hk.cnt
  refine Fn.enter (N := 52) Tryz.func24 rfl Tryz.ntmps24 tK rfl (fun ρ L => ?_)
  refine K.seq <| K.region <| KO.q rfl (q_assign rfl) <| KO.done <| K.seq <| K.seq <| K.region <| KO.q rfl (q_move rfl) <| KO.q rfl (q_pnil Tryz.underlying36 rfl rfl) <| KO.q rfl (q_move rfl) <| KO.q rfl (q_move rfl) ?_
  refine KO.q rfl (q_nilCheck rfl) <| KO.q rfl (q_field fo_97_4 rfl) <| KO.q rfl (q_load1D ck_4 rfl) <| KO.q rfl (q_pickF rfl rfl) <| KO.done ?_
  first | refine K.dcond (s := 14) rfl (fun g14 => ?_) (fun g14 => ?_) | refine K.bcond (s := 14) rfl (fun g14 => ?_) (fun g14 => ?_)
  · have hr : kDo k l d = (12, k, d) := by unfold kDo; rw [if_pos g14]
    refine K.seq <| K.region <| KO.q rfl (q_assign rfl) <| KO.done ?_
    refine kr1 Tryz.func24 Tryz.results24 rfl (fun w hs => ?_)
    rw [hr]
    exact ⟨_, KsF s p k z ++ [DkX p d], rfl, ⟨z, rfl, rfl⟩, hs.fitD⟩
  · have hdd : ¬ k.dead = true := by simpa using g14
    refine K.skip <| K.seq <| K.region <| KO.q rfl (q_move rfl) <| KO.q rfl (q_nilCheck rfl) <| KO.q rfl (q_field fo_97_2 rfl) <| KO.q rfl (q_as_sz (l_ := z.sz.l) (q_loadN ck_47 rfl rfl (cells_pvAt tM rfl)) rfl) <| KO.q rfl (q_move rfl) <| KO.loud rfl (OpL.callD rfl (h := st_Apply (RowF Kd.eff q l) z.sz 30000 q c l isF hg tO)) ?_
    rintro _ _ ⟨_, ⟨s', rfl, hs1, rfl, hs2⟩, rfl⟩
    rw [z.hs] at hs1 ⊢
    refine KO.q rfl (q_move rfl) <| KO.q rfl (q_extract rfl rfl) <| KO.q rfl (q_extract rfl rfl) <| KO.loud rfl (l_alloc zo_47) ?_
    rintro _ _ ⟨b5, rfl, rfl⟩
    refine KO.loudN rfl (l_storeAll ck_47 rfl rfl ⟨rfl, rfl⟩ (sz_one _) tP) ?_
    rintro _ _ ⟨rfl, rfl⟩
    refine KO.q rfl (q_assign rfl) <| KO.done <| K.seq <| K.block <| K.seq <| K.region <| KO.q rfl (q_move rfl) <| KO.q rfl (q_ne rfl rfl) <| KO.q rfl (q_assign rfl) <| KO.done ?_
    refine K.dcond (s := 24) rfl (fun g24 => ?_) (fun g24 => ?_)
    · have hr : kDo k l d = ((applyS k.st l).2, k, d) := by unfold kDo; rw [if_neg hdd, if_pos g24]
      refine K.seq <| K.region <| KO.q rfl (q_move rfl) <| KO.q rfl (q_assign rfl) <| KO.done ?_
      refine kr1 Tryz.func24 Tryz.results24 rfl (fun w hs => ?_)
      rw [hr]
      exact ⟨_, KsF s p k z ++ [DkX p d], rfl, ⟨z, rfl, rfl⟩, hs.fitD⟩
    · have h0 := Decidable.not_not.1 g24
      have ha := apply_right h0
      have hsz := size_right ha.2.1
      have hok' := Sz.ok_of hs2.sm hs2.room hs2.cap
      have hfw' := Sz.few_of hs2.sm tO
      refine K.seq <| K.region <| KO.q rfl (q_as_sz (l_ := s'.l) (q_loadN ck_47 rfl rfl tC) rfl) <| KO.loud rfl (OpL.callD rfl (h := st_Size s' hok' hfw' (by rw [hs1]; omega))) ?_
      rintro _ _ ⟨_, ⟨rfl, rfl⟩, rfl⟩
      rw [hs1]
      refine KO.q rfl (q_gt rfl rfl) <| KO.q rfl (q_assign rfl) <| KO.done ?_
      refine K.dcond (s := 28) rfl (fun g28 => ?_) (fun g28 => ?_)
      · have hr : kDo k l d = (9, k, d) := by unfold kDo; rw [if_neg hdd, if_neg g24, if_pos g28]
        refine K.seq <| K.region <| KO.q rfl (q_assign rfl) <| KO.done ?_
        refine kr1 Tryz.func24 Tryz.results24 rfl (fun w hs => ?_)
        rw [hr]
        exact ⟨_, KsF s p k z ++ [DkX p d], rfl, ⟨z, rfl, rfl⟩, hs.fitD⟩
      · refine K.seq <| K.region <| KO.q rfl (q_move rfl) <| KO.q rfl (q_len Tryz.underlying64 rfl) <| KO.q rfl (q_eq rfl rfl) <| KO.q rfl (q_assign rfl) <| KO.done ?_
        refine K.dcond (s := 32) rfl (fun g32 => ?_) (fun g32 => ?_)
        · have hl0 : l = [] := List.length_eq_zero_iff.1 tO
          have hr : kDo k l d = (0, k, d) := by unfold kDo; rw [if_neg hdd, if_neg g24, if_neg g28, if_pos hl0]
          refine K.seq <| K.region <| KO.q rfl (q_assign rfl) <| KO.done ?_
          refine kr1 Tryz.func24 Tryz.results24 rfl (fun w hs => ?_)
          rw [hr]
          exact ⟨_, KsF s p k z ++ [DkX p d], rfl, ⟨z, rfl, rfl⟩, hs.fitD⟩
        · have hl0 : ¬ l = [] := fun e => g32 (by rw [e]; rfl)
          obtain ⟨r, hrr⟩ : ∃ r, kAppend k (effsBytes l) d = r := ⟨_, rfl⟩
          have hr : kDo k l d = (r.1, { r.2.1 with dead := decide (r.1 = 12), st := if r.1 = 0 then (applyS k.st l).1 else k.st }, r.2.2) := by unfold kDo; rw [if_neg hdd, if_neg g24, if_neg g28, if_neg hl0]; dsimp only; rw [hrr]
          have hst := kAppend_st k (effsBytes l) d
          rw [hrr] at hst
          refine K.skip <| K.inBlock <| K.seq <| K.region <| KO.q rfl (q_move rfl) <| KO.q rfl (q_move rfl) <| KO.loud rfl (OpL.callD rfl (h := eff_Bytes q c l tO)) ?_
          rintro _ _ ⟨_, ⟨qb, cb, rfl, rfl, hcb⟩, rfl⟩
          refine KO.loud rfl (OpL.callD rfl (h := ks_append (RowF Kd.u8 qb (effsBytes l)) s p d k z qb cb (effsBytes l) isF hk hw h354 tO)) ?_
          rintro _ _ ⟨_, ⟨z2, rfl, rfl⟩, rfl⟩
          revert z2
          rw [hrr]
          intro z2
          refine KO.q rfl (q_assign rfl) <| KO.done <| K.seq <| K.region <| KO.q rfl (q_move rfl) <| KO.q rfl (q_move rfl) <| KO.q rfl (q_eq rfl rfl) <| KO.q rfl (q_nilCheck rfl) <| KO.q rfl (q_field fo_97_4 rfl) <| KO.loudN rfl (l_store1 ck_4 rfl rfl rfl tP tA) ?_
          rintro _ _ ⟨rfl, rfl⟩
          refine KO.done <| K.seq <| K.seq <| K.region <| KO.q rfl (q_move rfl) <| KO.q rfl (q_eq rfl rfl) <| KO.done ?_
          refine K.dcond (s := 46) rfl (fun g46 => ?_) (fun g46 => ?_)
          · have hr2 : kDo k l d = (r.1, { r.2.1 with dead := decide (r.1 = 12), st := (applyS k.st l).1 }, r.2.2) := by rw [hr, if_pos g46]
            refine K.region <| KO.q rfl (q_move rfl) <| KO.q rfl (q_as_sz (l_ := s'.l) (q_loadN ck_47 rfl rfl tC) rfl) <| KO.q rfl (q_nilCheck rfl) <| KO.q rfl (q_field fo_97_2 rfl) <| KO.loudN rfl (l_storeN ck_47 rfl rfl rfl (sz_one _) tP tSN) ?_
            rintro _ _ ⟨rfl, rfl⟩
            refine KO.done <| K.seq <| K.region <| KO.q rfl (q_move rfl) <| KO.q rfl (q_assign rfl) <| KO.done ?_
            refine kr1 Tryz.func24 Tryz.results24 rfl (fun w hs => ?_)
            rw [hr2]
            exact ⟨_, KsF s p { r.2.1 with dead := decide (r.1 = 12), st := (applyS k.st l).1 } ⟨z2.l, z2.zl, s', hs1, hs2.room, hs2.cap⟩ ++ [DkX p r.2.2], rfl, ⟨_, rfl, rfl⟩, hs.fitD⟩
          · have hr2 : kDo k l d = (r.1, { r.2.1 with dead := decide (r.1 = 12), st := k.st }, r.2.2) := by rw [hr, if_neg g46]
            refine K.skip <| K.seq <| K.region <| KO.q rfl (q_move rfl) <| KO.q rfl (q_assign rfl) <| KO.done ?_
            refine kr1 Tryz.func24 Tryz.results24 rfl (fun w hs => ?_)
            rw [hr2]
            exact ⟨_, KsF s p { r.2.1 with dead := decide (r.1 = 12), st := k.st } ⟨z2.l, z2.zl, z2.sz, by rw [z2.hs]; exact hst.1, z2.room, z2.cap⟩ ++ [DkX p r.2.2], rfl, ⟨_, rfl, rfl⟩, hs.fitD⟩
theorem ks_Epoch (s p : Nat) (k : Ks) (z : KsI k) : Fn Tryz.prog 22 [.pointer (some ⟨s, 0, none⟩)].toArray (KsF s p k z) (fun r post => r = .int .i64 k.epoch ∧ post = KsF s p k z) := by
  refine Fn.enter (N := 9) Tryz.func22 rfl Tryz.ntmps22 tK rfl (fun ρ L => ?_)
  refine K.seq <| K.region <| KO.q rfl (q_assign rfl) <| KO.done <| K.seq <| K.seq <| K.region <| KO.q rfl (q_move rfl) <| KO.q rfl (q_pnil Tryz.underlying36 rfl rfl) <| KO.done <| K.no rfl ?_
  refine K.skip <| K.seq <| K.region <| KO.q rfl (q_move rfl) <| KO.q rfl (q_nilCheck rfl) <| KO.q rfl (q_field fo_97_3 rfl) <| KO.q rfl (q_load1D ck_3 rfl) <| KO.q rfl (q_assign rfl) <| KO.done ?_
  refine kr1 Tryz.func22 Tryz.results22 rfl (fun w hs => ?_)
  exact ⟨_, KsF s p k z, rfl, ⟨rfl, rfl⟩, hs.fitD⟩
theorem ks_State (s p : Nat) (k : Ks) (z : KsI k) (hk : KsOk k) : Fn Tryz.prog 21 [.pointer (some ⟨s, 0, none⟩)].toArray (KsF s p k z) (fun r post => ∃ s' : Sz, r = .agg s'.cells.toArray ∧ s'.st = k.st ∧ s'.good 30000 ∧ post = StL s' ++ KsF s p k z) := by
  have hg := z.good hk
  have hlen := Sz.len_of hg.sm
  refine Fn.enter (N := 11) Tryz.func21 rfl Tryz.ntmps21 tK rfl (fun ρ L => ?_)
  refine K.seq <| K.region <| KO.loud rfl (l_alloc zo_47) ?_
  rintro _ _ ⟨b2, rfl, rfl⟩
  refine KO.done <| K.seq <| K.seq <| K.region <| KO.q rfl (q_move rfl) <| KO.q rfl (q_pnil Tryz.underlying36 rfl rfl) <| KO.done <| K.no rfl <| K.skip <| K.seq <| K.region <| KO.q rfl (q_move rfl) ?_
  refine KO.q rfl (q_nilCheck rfl) <| KO.q rfl (q_field fo_97_2 rfl) <| KO.q rfl (q_as_sz (l_ := z.sz.l) (q_loadN ck_47 rfl rfl (cells_pvAt tM rfl)) rfl) <| KO.loud rfl (OpL.callD rfl (h := st_CloneO z.sz hlen (fun o ho => Oz.le_of (hg.sm.oz ho) tD))) ?_
  rintro _ _ ⟨_, ⟨q', c', l', rfl, rfl, hl1, hl2, hl3⟩, rfl⟩
  refine KO.loudN rfl (l_storeAll ck_47 rfl rfl ⟨rfl, rfl⟩ (sz_one _) tP) ?_
  rintro _ _ ⟨rfl, rfl⟩
  refine KO.done <| K.st (fun w h => rowO_freeze (k := Kd.oz) (e := 62) (p := q') (cap := c') (xs := l') (h.pick tP)) <| K.st (fun w h => allO_freeze (l := l') (h.pick tP)) ?_
  have hst : Sz.st ⟨z.sz.next, q', c', l'⟩ = k.st := by rw [← z.hs]; unfold Sz.st; rw [hl1]
  have hgd : Sz.good ⟨z.sz.next, q', c', l'⟩ 30000 := ⟨by rw [hst]; exact st_small hk.right hk.cnt tD, hl2, hl3⟩
  refine K.ret (fn := Tryz.f21) Tryz.func21 (fun a w hk hs => resC Tryz.results21 hk rfl ck_47 rfl (cells_pv tM w hs)) (fun w hs => ?_)
  exact ⟨_, StL ⟨z.sz.next, q', c', l'⟩ ++ KsF s p k z, rfl, ⟨⟨z.sz.next, q', c', l'⟩, rfl, hst, hgd, rfl⟩, hs.fitD⟩
end Go.Proofs.YtkbhldicnamcdaaGreat.L
namespace Go.Proofs.YtkbhldicnamcdaaGreat.L
open Go Go.Proofs
attribute [local irreducible] pv fv pt fz RowF RowO rowP old pure_ elA Rd.int Rd.text Rd.flag Rd.msg Rd.rint Rd.rtext Rd.rflag Rd.rmsg
set_option maxRecDepth 100000
set_option linter.unusedSimpArgs false
set_option linter.unusedVariables false
attribute [local irreducible] DkX
theorem rtOne_le {d : Dk} {w : Int} {p : Int × List UInt8} (h : rtOne d w = some p) : p.2.length ≤ 6144 := by
  unfold rtOne at h
  dsimp only at h
  split at h
  · cases h
  · rename_i hc
    cases h
    have h1 := Dk.spanGet_cut d (rtPlace (rtSize (d.read w)).1) (rtSize (d.read w)).2
    simp only [Bool.or_eq_true, decide_eq_true_eq, not_or] at hc
    have h2 : ¬ 6144 < (rtSize (d.read w)).2 := hc.1.1.2
    have h3 : ¬ (rtSize (d.read w)).2 < 0 := hc.1.1.1.2
    have h4 : Dk.cutN (rtSize (d.read w)).2 ≤ 6144 := by unfold Dk.cutN; omega
    show (d.spanGet _ _).length ≤ 6144
    omega
theorem rtB_le (d : Dk) : (rtB (rtRead d)).length ≤ 6144 := by
  have key : ∀ o : Option (Int × List UInt8), (∀ p, o = some p → p.2.length ≤ 6144) → (rtB o).length ≤ 6144 := fun o h => by
    cases o with
    | none => exact Nat.zero_le _
    | some p => exact h p rfl
  refine key _ (fun p hp => ?_)
  unfold rtRead at hp
  split at hp
  · rename_i p1 h1
    split at hp
    · cases hp; exact rtOne_le h1
    · exact rtOne_le hp
  · exact rtOne_le hp
theorem Sz.cap_of {s : Sz} (h : s.ok) : s.l.length ≤ s.c ∧ ∀ o ∈ s.l, o.cap := ⟨h.2.2.1, fun o ho => (h.2.2.2 o ho).2⟩
theorem none_of {α : Type} {o : Option α} (h : ¬ (if o.isSome = true then (0 : Int) else 11) = 0) : o = none := by
  rcases o with _ | x
  · rfl
  · exact absurd rfl h
theorem some_of {α : Type} {o : Option α} (h : ¬ ¬ (if o.isSome = true then (0 : Int) else 11) = 0) : ∃ x, o = some x := by
  rcases o with _ | x
  · exact absurd (show (11 : Int) = 0 from Decidable.not_not.1 h) tD
  · exact ⟨x, rfl⟩
theorem none_of' {α : Type} {o : Option α} (h : ¬ o.isSome = true) : o = none := by
  rcases o with _ | x
  · rfl
  · exact absurd rfl h
set_option maxHeartbeats 3200000 in
theorem ks_read (s p : Nat) (d : Dk) (hw : d.wf) (h354 : 354 ≤ d.len) : Fn Tryz.prog 42 [.pointer (some ⟨s, 0, none⟩)].toArray [pv s 97 (ksC (.pointer none) p ⟨0, none, 0, []⟩ 0 false), DkX p d]
    (fun r post => (r = .int .i64 11 ∧ post = [DkX p d] ∧ kRead d = none) ∨ ∃ k, ∃ z : KsI k, r = .int .i64 0 ∧ post = KsF s p k z ++ [DkX p d] ∧ kRead d = some k ∧ KsOk k) := by
  have hbl := rtB_le d
  have hfail : ∀ {w' : World} {ρ : World} {L : List HP}, kRead d = none → St ρ ([DkX p d] ++ L) w' → Post ρ L (fun r post => (r = .int .i64 11 ∧ post = [DkX p d] ∧ kRead d = none) ∨ ∃ k, ∃ z : KsI k, r = .int .i64 0 ∧ post = KsF s p k z ++ [DkX p d] ∧ kRead d = some k ∧ KsOk k) (.returned (.int .i64 11)) w' := fun hn hs => ⟨_, [DkX p d], rfl, .inl ⟨rfl, rfl, hn⟩, hs⟩
  refine Fn.enter (N := 75) Tryz.func42 rfl Tryz.ntmps42 tK rfl (fun ρ L => ?_)
  refine K.seq <| K.region <| KO.q rfl (q_assign rfl) <| KO.done <| K.seq <| K.region <| KO.q rfl (q_move rfl) <| KO.q rfl (q_as_sz (l_ := []) (q_build st_47 rfl tF) rfl) <| KO.q rfl (q_nilCheck rfl) <| KO.q rfl (q_field fo_97_2 rfl) ?_
  refine KO.loudN rfl (l_storeN ck_47 rfl rfl rfl (sz_one _) tP tSN) ?_
  rintro _ _ ⟨rfl, rfl⟩
  refine KO.done <| K.seq <| K.region <| KO.q rfl (q_move rfl) <| KO.q rfl (q_nilCheck rfl) <| KO.q rfl (q_field fo_97_1 rfl) <| KO.q rfl (q_load1D ck_25 rfl) <| KO.loud rfl (OpL.callD rfl (h := rt_Read p d hw)) ?_
  rintro _ _ ⟨_, ⟨qi, ci, rfl, rfl, hci⟩, rfl⟩
  refine KO.q rfl (q_move rfl) <| KO.q rfl (q_extract rfl rfl) <| KO.q rfl (q_extract rfl rfl) <| KO.q rfl (q_extract rfl rfl) <| KO.q rfl (q_assign rfl) <| KO.q rfl (q_assign rfl) <| KO.q rfl (q_assign rfl) <| KO.done <| K.seq <| K.seq <| K.region ?_
  refine KO.q rfl (q_move rfl) <| KO.done ?_
  refine K.via (ι := { x : Sz × Int // kStart d = some (x.1.st, x.2) ∧ x.1.st.right = true ∧ x.1.st.cnt ≤ 6144 ∧ x.1.l.length ≤ x.1.c ∧ ∀ o ∈ x.1.l, o.cap }) (I := fun x => ([(0, .pointer (some ⟨s, 0, none⟩))], pv s 97 (ksC (.pointer none) p x.1.1 x.1.2 false) :: StL x.1.1 ++ [DkX p d] ++ L)) (fun x => ?_) (fun cont => ?_)
  · obtain ⟨⟨s0, e0⟩, hstart, hr0, hc0, hcp0⟩ := x
    dsimp only at hstart hr0 hc0 hcp0 ⊢
    refine K.seq <| K.region <| KO.q rfl (q_move rfl) <| KO.loud rfl (OpL.callD rfl (h := ks_begin s p d (.pointer none) s0 e0 false hw h354)) ?_
    rintro _ _ ⟨_, ⟨l, zl, rfl, rfl⟩, rfl⟩
    have hlgw := kBegin_wf hw e0
    have hkr : kRead d = (recsS s0.st (kBegin d e0).recs).map (fun t => ⟨t, e0, false, kBegin d e0⟩) := by unfold kRead; rw [hstart]
    have htot := hlgw.tot
    have hnxe := hlgw.nx
    have hend : (kBegin d e0).end_ ≤ 354 ∧ 194 ≤ (kBegin d e0).at_ := kBegin_at d e0
    generalize kBegin d e0 = g at hlgw hkr htot hnxe hend zl ⊢
    refine KO.done <| K.seq <| K.seq <| K.region <| KO.q rfl (q_move rfl) <| KO.q rfl (q_nilCheck rfl) <| KO.q rfl (q_field fo_97_0 rfl) <| KO.q rfl (q_load1D ck_95 rfl) <| KO.loud rfl (OpL.callD rfl (h := lg_Records l p g zl hlgw)) ?_
    rintro _ _ ⟨_, ⟨qr, cr, R, rfl, hR, hRc, rfl⟩, rfl⟩
    have hRl : R.length = g.recs.length := by rw [← hR, List.length_map]
    have hgl := hlgw.len
    refine KO.q rfl (q_len Tryz.underlying80 rfl) <| KO.q rfl (q_move rfl) <| KO.done <| K.block ?_
    refine K.rounds2 (ι := { x : Nat × Sz // x.1 ≤ R.length ∧ recsS s0.st g.recs = recsS x.2.st (g.recs.drop x.1) ∧ x.2.st.right = true ∧ x.2.st.cnt ≤ 6144 + ((g.recs.take x.1).map List.length).sum ∧ x.2.l.length ≤ x.2.c ∧ ∀ o ∈ x.2.l, o.cap }) (fun x => [(49, .int .i64 x.1.1), (48, .int .i64 R.length), (47, .slice qr R.length cr), (0, .pointer (some ⟨s, 0, none⟩))]) (fun x => pv s 97 (ksC (.pointer (some ⟨l, 0, none⟩)) p x.1.2 e0 false) :: LgF l p g zl ++ StL x.1.2 ++ [RowO Kd.sb 23 qr cr R, NestSl Kd.u8 R, DkX p d] ++ L) (fun x => R.length - x.1.1) ⟨(0, s0), Nat.zero_le _, rfl, hr0, by show s0.st.cnt ≤ 6144 + _; omega, hcp0⟩ tS (fun w h => h.fitD) (fun x ih => ?_)
    obtain ⟨⟨i, si⟩, hi, hrec, hri, hci2, hrm, hcpi⟩ := x
    dsimp only at hi hrec hri hci2 hrm hcpi ⊢
    have hbnd := sum_take_le (f := List.length) g.recs i
    have hgd : si.good 20000 := ⟨st_small hri tO tD, hrm, hcpi⟩
    refine K.seq <| K.region <| KO.q rfl (q_lt rfl rfl) <| KO.done <| K.seq ?_
    refine K.dcond (s := 50) rfl (fun g50 => ?_) (fun g50 => ?_)
    · obtain ⟨sl, hsl⟩ : ∃ sl, R[i]? = some sl := ⟨_, List.getElem?_eq_getElem tO⟩
      have hbr : g.recs[i]? = some sl.l := by rw [← hR, List.getElem?_map, hsl]; rfl
      have hbm := List.mem_of_getElem? hsl
      have hb26 := hlgw.sz _ (List.mem_of_getElem? hbr)
      have hdr : g.recs.drop i = sl.l :: g.recs.drop (i + 1) := by
        obtain ⟨h1, h2⟩ := List.getElem?_eq_some_iff.1 hbr
        rw [← h2, List.getElem_cons_drop h1]
      have hsum := sum_succ (f := List.length) hbr
      have hb2 := sum_take_le (f := List.length) g.recs (i + 1)
      rw [hdr] at hrec
      refine K.st (fun w h => nestSl_at (l := R) (s := sl) tM hbm h) <| K.skip <| K.seq <| K.block <| K.seq <| K.region <| KO.q rfl (q_ix (xs := R) i se_80 rfl rfl rfl isO tM rfl tO) <| KO.q rfl (q_ldE (xs := R) (el := sl) ck_23 rfl isO tM hsl rfl) <| KO.q rfl (q_assign rfl) <| KO.done <| K.seq <| K.region <| KO.q rfl (q_move rfl) ?_
      refine KO.loud rfl (OpL.callD rfl (h := eff_Read sl.q sl.c sl.l tO)) ?_
      rintro _ _ ⟨_, ⟨qe, ce, rfl, rfl, hce⟩, rfl⟩
      refine KO.q rfl (q_move rfl) <| KO.q rfl (q_extract rfl rfl) <| KO.q rfl (q_extract rfl rfl) <| KO.q rfl (q_assign rfl) <| KO.q rfl (q_assign rfl) <| KO.done <| K.seq <| K.seq <| K.region <| KO.q rfl (q_move rfl) <| KO.q rfl (q_ne rfl rfl) ?_
      refine KO.done ?_
      refine K.dcond (s := 59) rfl (fun g59 => ?_) (fun g59 => ?_)
      · have hkn : kRead d = none := by
          have h1 : effRead sl.l = none := none_of g59
          rw [hkr, hrec]; unfold recsS; rw [h1]; rfl
        refine K.seq <| K.region <| KO.q rfl (q_assign rfl) <| KO.done ?_
        refine kr1 Tryz.func42 Tryz.results42 rfl (fun w hs => ?_)
        exact hfail hkn (hs.fit (M := [DkX p d]) (L := L) tG (by repeat (first | exact Drop.refl | apply Drop.skip)))
      · obtain ⟨es, hes⟩ : ∃ es, effRead sl.l = some es := some_of g59
        have hel := effRead_len hes
        rw [hes]
        dsimp only [Option.getD_some]
        have hac := apply_cnt si.st es
        refine K.skip <| K.seq <| K.region <| KO.q rfl (q_move rfl) <| KO.q rfl (q_move rfl) <| KO.q rfl (q_nilCheck rfl) <| KO.q rfl (q_field fo_97_2 rfl) <| KO.q rfl (q_as_sz (l_ := si.l) (q_loadN ck_47 rfl rfl (cells_pvAt tM rfl)) rfl) <| KO.q rfl (q_move rfl) <| KO.loud rfl (OpL.callD rfl (h := st_Apply (RowF Kd.eff qe es) si 20000 qe ce es isF hgd tO)) ?_
        rintro _ _ ⟨_, ⟨s', rfl, hs1, rfl, hs2⟩, rfl⟩
        refine KO.q rfl (q_move rfl) <| KO.q rfl (q_extract rfl rfl) <| KO.q rfl (q_extract rfl rfl) <| KO.q rfl (q_nilCheck rfl) <| KO.q rfl (q_field fo_97_2 rfl) <| KO.loudN rfl (l_storeN ck_47 rfl rfl rfl (sz_one _) tP tSN) ?_
        rintro _ _ ⟨rfl, rfl⟩
        refine KO.q rfl (q_assign rfl) <| KO.done <| K.seq <| K.region <| KO.q rfl (q_move rfl) <| KO.q rfl (q_ne rfl rfl) <| KO.done ?_
        refine K.dcond (s := 73) rfl (fun g73 => ?_) (fun g73 => ?_)
        · have hkn : kRead d = none := by rw [hkr, hrec]; unfold recsS; rw [hes]; dsimp only; rw [if_neg g73]; rfl
          refine K.seq <| K.region <| KO.q rfl (q_assign rfl) <| KO.done ?_
          refine kr1 Tryz.func42 Tryz.results42 rfl (fun w hs => ?_)
          exact hfail hkn (hs.fit (M := [DkX p d]) (L := L) tG (by repeat (first | exact Drop.refl | apply Drop.skip)))
        · have h0 := Decidable.not_not.1 g73
          have har := apply_right h0
          have hrec2 : recsS s0.st g.recs = recsS s'.st (g.recs.drop (i + 1)) := by rw [hrec]; show (match effRead sl.l with | none => _ | some es => _) = _; rw [hes]; dsimp only; rw [if_pos h0, hs1]
          refine K.skip <| K.inBlock <| K.region <| KO.q rfl (q_add rfl rfl tN tN) <| KO.q rfl (q_move rfl) <| KO.done ?_
          exact K.weak tS (fun w h => h.fitD) (ih ⟨(i + 1, s'), by show i + 1 ≤ _; omega, hrec2, by show s'.st.right = true; rw [hs1]; exact har.2.1, by show s'.st.cnt ≤ _; rw [hs1]; show _ ≤ 6144 + ((g.recs.take (i + 1)).map List.length).sum; omega, hs2.room, hs2.cap⟩ (by show R.length - (i + 1) < R.length - i; omega))
    · obtain rfl : i = R.length := by omega
      have hkf : kRead d = some ⟨si.st, e0, false, g⟩ := by rw [hkr, hrec, hRl, List.drop_length]; rfl
      clear ih
      refine K.exit rfl <| K.seq <| K.region <| KO.q rfl (q_assign rfl) <| KO.done ?_
      refine kr1 Tryz.func42 Tryz.results42 rfl (fun w hs => ?_)
      exact ⟨_, KsF s p ⟨si.st, e0, false, g⟩ ⟨l, zl, si, rfl, hrm, hcpi⟩ ++ [DkX p d], rfl, .inr ⟨_, _, rfl, rfl, hkf, ⟨hri, by show si.st.cnt ≤ 30000; omega, hlgw⟩⟩, hs.fitD⟩
  · first | refine K.dcond (s := 25) rfl (fun g25 => ?_) (fun g25 => ?_) | refine K.bcond (s := 25) rfl (fun g25 => ?_) (fun g25 => ?_)
    · obtain ⟨pr, hpr⟩ : ∃ pr, rtRead d = some pr := Option.isSome_iff_exists.1 g25
      have hEe : rtE (rtRead d) = pr.1 := by rw [hpr]; rfl
      have hBe : rtB (rtRead d) = pr.2 := by rw [hpr]; rfl
      refine K.seq <| K.region <| KO.q rfl (q_move rfl) <| KO.loud rfl (OpL.callD rfl (h := im_Read qi ci (rtB (rtRead d)) tO)) ?_
      rintro _ _ ⟨_, ⟨sz, rfl, rfl, hok, hfew, hst⟩, rfl⟩
      refine KO.q rfl (q_move rfl) <| KO.q rfl (q_extract rfl rfl) <| KO.q rfl (q_extract rfl rfl) <| KO.loud rfl (l_alloc zo_47) ?_
      rintro _ _ ⟨b6, rfl, rfl⟩
      refine KO.loudN rfl (l_storeAll ck_47 rfl rfl ⟨rfl, rfl⟩ (sz_one _) tP) ?_
      rintro _ _ ⟨rfl, rfl⟩
      refine KO.q rfl (q_assign rfl) <| KO.done <| K.seq <| K.seq <| K.region <| KO.q rfl (q_move rfl) <| KO.q rfl (q_ne rfl rfl) <| KO.done ?_
      refine K.dcond (s := 32) rfl (fun g32 => ?_) (fun g32 => ?_)
      · have hkn : kRead d = none := by
          have h1 : imgRead pr.2 = none := by rw [← hBe]; exact none_of g32
          unfold kRead kStart; rw [hpr]; dsimp only; rw [h1]; rfl
        refine K.seq <| K.region <| KO.q rfl (q_assign rfl) <| KO.done ?_
        refine kr1 Tryz.func42 Tryz.results42 rfl (fun w hs => ?_)
        exact hfail hkn (hs.fit (M := [DkX p d]) (L := L) tG (by repeat (first | exact Drop.refl | apply Drop.skip)))
      · obtain ⟨x, hx⟩ : ∃ x, imgRead pr.2 = some x := by rw [hBe] at g32; exact some_of g32
        have hszx : sz.st = x := by rw [hst, hBe, hx]; rfl
        have hstart : kStart d = some (sz.st, rtE (rtRead d)) := by unfold kStart; rw [hpr]; dsimp only; rw [hx, hszx]; rfl
        have hcan := imgRead_can hx
        have hr0 : sz.st.right = true := by rw [hszx]; exact hcan.2
        have hc0 : sz.st.cnt ≤ 6144 := by
          have h1 := cnt_bytes x
          rw [← hcan.1, ← hBe] at h1
          rw [hszx]; omega
        refine K.skip <| K.region <| KO.q rfl (q_move rfl) <| KO.q rfl (q_move rfl) <| KO.q rfl (q_as_sz (l_ := sz.l) (q_loadN ck_47 rfl rfl tC) rfl) <| KO.q rfl (q_move rfl) <| KO.q rfl (q_nilCheck rfl) <| KO.q rfl (q_field fo_97_2 rfl) <| KO.loudN rfl (l_storeN ck_47 rfl rfl rfl (sz_one _) tP tSN) ?_
        rintro _ _ ⟨rfl, rfl⟩
        refine KO.q rfl (q_nilCheck rfl) <| KO.q rfl (q_field fo_97_3 rfl) <| KO.loudN rfl (l_store1 ck_3 rfl rfl rfl tP tA) ?_
        rintro _ _ ⟨rfl, rfl⟩
        refine KO.done ?_
        exact K.weak tS (fun w h => h.fitD) (cont ⟨(sz, rtE (rtRead d)), hstart, hr0, hc0, Sz.cap_of hok⟩)
    · refine K.skip ?_
      have hpr : rtRead d = none := none_of' (by rw [g25]; decide)
      have hstart : kStart d = some (Sz.st ⟨1, none, 0, []⟩, 0) := by unfold kStart; rw [hpr]; rfl
      refine K.st (fun w h => nestF_nil (rowF_nilA (k := Kd.oz) h)) ?_
      exact K.weak tS (fun w h => h.fitD) (cont ⟨(⟨1, none, 0, []⟩, 0), hstart, init_right, Nat.zero_le _, Nat.le_refl _, fun o ho => by cases ho⟩)
theorem kRenew_err (k : Ks) (d : Dk) : (kRenew k d).1 = 0 ∨ (kRenew k d).1 = 12 := by
  unfold kRenew
  dsimp only
  split
  · exact .inl rfl
  · exact .inr rfl
theorem claims_cnt (s : Stt) : (claimsS s).length ≤ s.cnt := by
  refine claims_len s ?_
  unfold Stt.cnt
  have key : ∀ l : List Ob, (l.map (fun o => o.msgs.length)).sum ≤ (l.map Ob.cnt).sum := fun l => by
    induction l with
    | nil => exact Nat.le_refl _
    | cons o l ih =>
      have : o.msgs.length ≤ o.cnt := by unfold Ob.cnt; omega
      simp only [List.map_cons, List.sum_cons]; omega
  exact key _
theorem freed_cnt (s : Stt) : Stt.cnt ⟨s.next, s.objs.map freedO⟩ = s.cnt := by
  unfold Stt.cnt
  dsimp only
  rw [List.map_map]
  congr 1
  refine List.map_congr_left (fun o _ => ?_)
  have := freedO_len o
  show (freedO o).cnt = o.cnt
  unfold Ob.cnt
  have hr : (freedO o).rows = o.rows := rfl
  rw [hr]; omega
theorem ks_Need : Fn Tryz.prog 23 ([] : List Value).toArray [] (fun r post => r = .int .i64 354 ∧ post = []) := by
  refine Fn.enter (N := 3) Tryz.func23 rfl Tryz.ntmps23 tK rfl (fun ρ L => ?_)
  refine K.seq <| K.region <| KO.q rfl (q_assign rfl) <| KO.done <| K.seq <| K.region <| KO.loud rfl (OpL.callD rfl (h := rt_Need)) ?_
  rintro _ _ ⟨_, ⟨rfl, rfl⟩, rfl⟩
  refine KO.q rfl (q_add rfl rfl tN tN) <| KO.q rfl (q_assign rfl) <| KO.done ?_
  refine kr1 Tryz.func23 Tryz.results23 rfl (fun w hs => ?_)
  exact ⟨_, [], rfl, ⟨rfl, rfl⟩, hs.fitD⟩
def OpenP (p : Nat) (d : Dk) (r : Value) (post : List HP) : Prop :=
  (¬ (kOpen d).1 = 0 ∧ r = .tuple #[.pointer none, .int .i64 (kOpen d).1] ∧ post = [DkX p (kOpen d).2.2]) ∨
  ((kOpen d).1 = 0 ∧ KsOk (kOpen d).2.1 ∧ ∃ s, ∃ z : KsI (kOpen d).2.1, r = .tuple #[.pointer (some ⟨s, 0, none⟩), .int .i64 0] ∧ post = KsF s p (kOpen d).2.1 z ++ [DkX p (kOpen d).2.2])
theorem ks_read_none (s p : Nat) (d : Dk) (hw : d.wf) (h354 : 354 ≤ d.len) (h : kRead d = none) : Fn Tryz.prog 42 [.pointer (some ⟨s, 0, none⟩)].toArray [pv s 97 (ksC (.pointer none) p ⟨0, none, 0, []⟩ 0 false), DkX p d]
    (fun r post => r = .int .i64 11 ∧ post = [DkX p d]) :=
  (ks_read s p d hw h354).mono fun r post hp => by
    rcases hp with ⟨h1, h2, _⟩ | ⟨k, z, _, _, h3, _⟩
    · exact ⟨h1, h2⟩
    · rw [h] at h3; cases h3
theorem ks_read_some (s p : Nat) (d : Dk) (hw : d.wf) (h354 : 354 ≤ d.len) {k : Ks} (h : kRead d = some k) : Fn Tryz.prog 42 [.pointer (some ⟨s, 0, none⟩)].toArray [pv s 97 (ksC (.pointer none) p ⟨0, none, 0, []⟩ 0 false), DkX p d]
    (fun r post => ∃ z : KsI k, r = .int .i64 0 ∧ post = KsF s p k z ++ [DkX p d] ∧ KsOk k) :=
  (ks_read s p d hw h354).mono fun r post hp => by
    rcases hp with ⟨_, _, h3⟩ | ⟨k', z, h1, h2, h3, h4⟩
    · rw [h] at h3; cases h3
    · rw [h] at h3; cases h3; exact ⟨z, h1, h2, h4⟩
theorem ks_Open_none (p : Nat) (d : Dk) (hw : d.wf) (h354 : 354 ≤ d.len) (h : kRead d = none) : Fn Tryz.prog 17 [.pointer (some ⟨p, 0, none⟩)].toArray [DkX p d] (OpenP p d) := by
  have hr : kOpen d = (11, ⟨⟨0, []⟩, 0, false, ⟨0, 0, 0, 0, [], false⟩⟩, d) := by unfold kOpen; rw [h]
  refine Fn.enter (N := 57) Tryz.func17 rfl Tryz.ntmps17 tK rfl (fun ρ L => ?_)
  refine K.seq <| K.region <| KO.q rfl (q_assign rfl) <| KO.q rfl (q_assign rfl) <| KO.done <| K.seq <| K.seq <| K.region <| KO.q rfl (q_move rfl) <| KO.loud rfl (OpL.callD rfl (h := dk_Len _ _)) ?_
  rintro _ _ ⟨_, ⟨rfl, rfl⟩, rfl⟩
  refine KO.loud rfl (OpL.callD rfl (h := ks_Need)) ?_
  rintro _ _ ⟨_, ⟨rfl, rfl⟩, rfl⟩
  refine KO.q rfl (q_lt rfl rfl) <| KO.done ?_
  refine K.dcond (s := 12) rfl (fun g12 => ?_) (fun g12 => ?_)
  · omega
  · refine K.skip <| K.seq <| K.region <| KO.q rfl (q_move rfl) <| KO.q rfl (q_build st_97 rfl tF) <| KO.loud rfl (l_box rfl rfl) ?_
    rintro _ _ ⟨b15, rfl, rfl⟩
    refine KO.q rfl (q_assign rfl) <| KO.done <| K.seq <| K.seq <| K.region <| KO.q rfl (q_move rfl) <| KO.loud rfl (OpL.callD rfl (h := ks_read_none b15 p d hw h354 h)) ?_
    rintro _ _ ⟨_, ⟨rfl, rfl⟩, rfl⟩
    refine KO.q rfl (q_assign rfl) <| KO.done <| K.seq <| K.region <| KO.q rfl (q_move rfl) <| KO.q rfl (q_ne rfl rfl) <| KO.done ?_
    refine K.dcond (s := 19) rfl (fun g19 => ?_) (fun g19 => ?_)
    · refine K.seq <| K.region <| KO.q rfl (q_move rfl) <| KO.q rfl (q_assign rfl) <| KO.q rfl (q_assign rfl) <| KO.done ?_
      refine kr2 Tryz.func17 Tryz.results17 rfl rfl (fun w hs => ?_)
      exact ⟨_, [DkX p d], rfl, .inl ⟨by rw [hr]; show ¬ (11 : Int) = 0; decide, by rw [hr], by rw [hr]⟩, hs.fitD⟩
    · exact absurd g19 tD
set_option maxHeartbeats 1600000 in
theorem ks_Open_some (p : Nat) (d : Dk) (hw : d.wf) (h354 : 354 ≤ d.len) (hc : d.cnt ≤ 60000000) {k : Ks} (h : kRead d = some k) : Fn Tryz.prog 17 [.pointer (some ⟨p, 0, none⟩)].toArray [DkX p d] (OpenP p d) := by
  have hr0 : kOpen d = if claimsS k.st = [] ∧ 0 < k.epoch then (0, k, d) else if (applyS k.st (claimsS k.st)).2 = 0 then kRenew { k with st := (applyS k.st (claimsS k.st)).1 } d else (11, k, d) := by unfold kOpen; rw [h]
  refine Fn.enter (N := 57) Tryz.func17 rfl Tryz.ntmps17 tK rfl (fun ρ L => ?_)
  refine K.seq <| K.region <| KO.q rfl (q_assign rfl) <| KO.q rfl (q_assign rfl) <| KO.done <| K.seq <| K.seq <| K.region <| KO.q rfl (q_move rfl) <| KO.loud rfl (OpL.callD rfl (h := dk_Len _ _)) ?_
  rintro _ _ ⟨_, ⟨rfl, rfl⟩, rfl⟩
  refine KO.loud rfl (OpL.callD rfl (h := ks_Need)) ?_
  rintro _ _ ⟨_, ⟨rfl, rfl⟩, rfl⟩
  refine KO.q rfl (q_lt rfl rfl) <| KO.done ?_
  refine K.dcond (s := 12) rfl (fun g12 => ?_) (fun g12 => ?_)
  · omega
  · refine K.skip <| K.seq <| K.region <| KO.q rfl (q_move rfl) <| KO.q rfl (q_build st_97 rfl tF) <| KO.loud rfl (l_box rfl rfl) ?_
    rintro _ _ ⟨b15, rfl, rfl⟩
    refine KO.q rfl (q_assign rfl) <| KO.done <| K.seq <| K.seq <| K.region <| KO.q rfl (q_move rfl) <| KO.loud rfl (OpL.callD rfl (h := ks_read_some b15 p d hw h354 h)) ?_
    rintro _ _ ⟨_, ⟨z, rfl, rfl, hk⟩, rfl⟩
    refine KO.q rfl (q_assign rfl) <| KO.done <| K.seq <| K.region <| KO.q rfl (q_move rfl) <| KO.q rfl (q_ne rfl rfl) <| KO.done ?_
    refine K.dcond (s := 19) rfl (fun g19 => ?_) (fun g19 => ?_)
    · exact absurd g19 tD
    · have hcl := claims_cnt k.st
      have hk30 := hk.cnt
      have hg := z.good hk
      have hcl2 : (claimsS z.sz.st).length ≤ 100000000 := by rw [z.hs]; omega
      have hap := apply_claims hk.right
      have hap0 : (applyS k.st (claimsS k.st)).2 = 0 := by rw [hap]
      have hapr := (apply_right hap0).2.1
      have hapc : (applyS k.st (claimsS k.st)).1.cnt ≤ 30000 := by rw [hap]; show Stt.cnt ⟨_, _⟩ ≤ _; rw [freed_cnt]; exact hk30
      have hk2 : KsOk { k with st := (applyS k.st (claimsS k.st)).1 } := ⟨hapr, hapc, hk.lg⟩
      refine K.skip <| K.seq <| K.region <| KO.q rfl (q_move rfl) <| KO.q rfl (q_nilCheck rfl) <| KO.q rfl (q_field fo_97_2 rfl) <| KO.q rfl (q_as_sz (l_ := z.sz.l) (q_loadN ck_47 rfl rfl (cells_pvAt tM rfl)) rfl) <| KO.loud rfl (OpL.callD rfl (h := st_Claims z.sz 30000 hg hcl2 tD)) ?_
      rintro _ _ ⟨_, ⟨qc, cc, rfl, rfl⟩, rfl⟩
      rw [z.hs]
      refine KO.q rfl (q_assign rfl) <| KO.done <| K.seq <| K.seq <| K.region <| KO.q rfl (q_move rfl) <| KO.q rfl (q_len Tryz.underlying64 rfl) <| KO.q rfl (q_eq rfl rfl) <| KO.q rfl (q_move rfl) ?_
      refine KO.dsplit 29 rfl (fun g29 => ?_) (fun g29 => ?_)
      · refine KO.q rfl (q_move rfl) <| KO.q rfl (q_nilCheck rfl) <| KO.q rfl (q_field fo_97_3 rfl) <| KO.q rfl (q_load1D ck_3 rfl) <| KO.q rfl (q_gt rfl rfl) <| KO.q rfl (q_pickT rfl rfl) <| KO.done ?_
        refine K.dcond (s := 35) rfl (fun g35 => ?_) (fun g35 => ?_)
        · have hcn : claimsS k.st = [] := List.length_eq_zero_iff.1 tO
          have hr : kOpen d = (0, k, d) := by rw [hr0, if_pos ⟨hcn, g35⟩]
          refine K.seq <| K.region <| KO.q rfl (q_move rfl) <| KO.q rfl (q_assign rfl) <| KO.q rfl (q_assign rfl) <| KO.done ?_
          refine kr2 Tryz.func17 Tryz.results17 rfl rfl (fun w hs => ?_)
          unfold OpenP; rw [hr]
          exact ⟨_, KsF b15 p k z ++ [DkX p d], rfl, .inr ⟨rfl, hk, b15, z, rfl, rfl⟩, hs.fitD⟩
        · have hr : kOpen d = kRenew { k with st := (applyS k.st (claimsS k.st)).1 } d := by rw [hr0, if_neg (fun hh => g35 hh.2), if_pos hap0]
          refine K.skip <| K.seq <| K.region <| KO.q rfl (q_assign rfl) <| KO.done <| K.seq <| K.seq <| K.region <| KO.q rfl (q_move rfl) <| KO.q rfl (q_move rfl) <| KO.q rfl (q_nilCheck rfl) <| KO.q rfl (q_field fo_97_2 rfl) ?_
          refine KO.q rfl (q_as_sz (l_ := z.sz.l) (q_loadN ck_47 rfl rfl (cells_pvAt tM rfl)) rfl) <| KO.q rfl (q_move rfl) <| KO.loud rfl (OpL.callD rfl (h := st_Apply (RowO Kd.eff 58 qc cc (claimsS k.st)) z.sz 30000 qc cc (claimsS k.st) isO hg tO)) ?_
          rintro _ _ ⟨_, ⟨s', rfl, hs1, rfl, hs2⟩, rfl⟩
          rw [z.hs] at hs1 ⊢
          refine KO.q rfl (q_move rfl) <| KO.q rfl (q_extract rfl rfl) <| KO.q rfl (q_extract rfl rfl) <| KO.q rfl (q_nilCheck rfl) <| KO.q rfl (q_field fo_97_2 rfl) <| KO.loudN rfl (l_storeN ck_47 rfl rfl rfl (sz_one _) tP tSN) ?_
          rintro _ _ ⟨rfl, rfl⟩
          refine KO.q rfl (q_assign rfl) <| KO.done <| K.seq <| K.region <| KO.q rfl (q_move rfl) <| KO.q rfl (q_ne rfl rfl) <| KO.done ?_
          refine K.dcond (s := 50) rfl (fun g50 => ?_) (fun g50 => ?_)
          · exact absurd hap0 g50
          · refine K.skip <| K.seq <| K.seq <| K.region <| KO.q rfl (q_move rfl) <| KO.loud rfl (OpL.callD rfl (h := ks_renew b15 p d { k with st := (applyS k.st (claimsS k.st)).1 } ⟨z.l, z.zl, s', hs1, hs2.room, hs2.cap⟩ hk2 hw h354 tO)) ?_
            rintro _ _ ⟨_, ⟨z2, rfl, rfl⟩, rfl⟩
            refine KO.q rfl (q_assign rfl) <| KO.done <| K.seq <| K.region <| KO.q rfl (q_move rfl) <| KO.q rfl (q_ne rfl rfl) <| KO.done ?_
            refine K.dcond (s := 54) rfl (fun g54 => ?_) (fun g54 => ?_)
            · have he := (kRenew_err { k with st := (applyS k.st (claimsS k.st)).1 } d).resolve_left g54
              refine K.seq <| K.region <| KO.q rfl (q_move rfl) <| KO.q rfl (q_assign rfl) <| KO.q rfl (q_assign rfl) <| KO.done ?_
              refine kr2 Tryz.func17 Tryz.results17 rfl rfl (fun w hs => ?_)
              unfold OpenP; rw [hr]
              exact ⟨_, [DkX p (kRenew { k with st := (applyS k.st (claimsS k.st)).1 } d).2.2], rfl, .inl ⟨g54, rfl, rfl⟩, hs.fitD⟩
            · have hok3 := kRenew_ok (d := d) hk2 hw
              refine K.skip <| K.seq <| K.region <| KO.q rfl (q_move rfl) <| KO.q rfl (q_assign rfl) <| KO.q rfl (q_assign rfl) <| KO.done ?_
              refine kr2 Tryz.func17 Tryz.results17 rfl rfl (fun w hs => ?_)
              unfold OpenP; rw [hr]
              exact ⟨_, KsF b15 p (kRenew { k with st := (applyS k.st (claimsS k.st)).1 } d).2.1 z2 ++ [DkX p (kRenew { k with st := (applyS k.st (claimsS k.st)).1 } d).2.2], rfl, .inr ⟨Decidable.not_not.1 g54, hok3, b15, z2, rfl, rfl⟩, hs.fitD⟩
      · have hr : kOpen d = kRenew { k with st := (applyS k.st (claimsS k.st)).1 } d := by rw [hr0, if_neg (fun hh => g29 (by rw [hh.1]; rfl)), if_pos hap0]
        refine KO.skip rfl <| KO.skip rfl <| KO.skip rfl <| KO.skip rfl <| KO.skip rfl <| KO.q rfl (q_pickF rfl rfl) <| KO.done <| K.no rfl <| K.skip <| K.seq <| K.region ?_
        refine KO.q rfl (q_assign rfl) <| KO.done <| K.seq <| K.seq <| K.region <| KO.q rfl (q_move rfl) <| KO.q rfl (q_move rfl) <| KO.q rfl (q_nilCheck rfl) <| KO.q rfl (q_field fo_97_2 rfl) <| KO.q rfl (q_as_sz (l_ := z.sz.l) (q_loadN ck_47 rfl rfl (cells_pvAt tM rfl)) rfl) <| KO.q rfl (q_move rfl) ?_
        refine KO.loud rfl (OpL.callD rfl (h := st_Apply (RowO Kd.eff 58 qc cc (claimsS k.st)) z.sz 30000 qc cc (claimsS k.st) isO hg tO)) ?_
        rintro _ _ ⟨_, ⟨s', rfl, hs1, rfl, hs2⟩, rfl⟩
        rw [z.hs] at hs1 ⊢
        refine KO.q rfl (q_move rfl) <| KO.q rfl (q_extract rfl rfl) <| KO.q rfl (q_extract rfl rfl) <| KO.q rfl (q_nilCheck rfl) <| KO.q rfl (q_field fo_97_2 rfl) <| KO.loudN rfl (l_storeN ck_47 rfl rfl rfl (sz_one _) tP tSN) ?_
        rintro _ _ ⟨rfl, rfl⟩
        refine KO.q rfl (q_assign rfl) <| KO.done <| K.seq <| K.region <| KO.q rfl (q_move rfl) <| KO.q rfl (q_ne rfl rfl) <| KO.done ?_
        refine K.dcond (s := 50) rfl (fun g50 => ?_) (fun g50 => ?_)
        · exact absurd hap0 g50
        · refine K.skip <| K.seq <| K.seq <| K.region <| KO.q rfl (q_move rfl) <| KO.loud rfl (OpL.callD rfl (h := ks_renew b15 p d { k with st := (applyS k.st (claimsS k.st)).1 } ⟨z.l, z.zl, s', hs1, hs2.room, hs2.cap⟩ hk2 hw h354 tO)) ?_
          rintro _ _ ⟨_, ⟨z2, rfl, rfl⟩, rfl⟩
          refine KO.q rfl (q_assign rfl) <| KO.done <| K.seq <| K.region <| KO.q rfl (q_move rfl) <| KO.q rfl (q_ne rfl rfl) <| KO.done ?_
          refine K.dcond (s := 54) rfl (fun g54 => ?_) (fun g54 => ?_)
          · have he := (kRenew_err { k with st := (applyS k.st (claimsS k.st)).1 } d).resolve_left g54
            refine K.seq <| K.region <| KO.q rfl (q_move rfl) <| KO.q rfl (q_assign rfl) <| KO.q rfl (q_assign rfl) <| KO.done ?_
            refine kr2 Tryz.func17 Tryz.results17 rfl rfl (fun w hs => ?_)
            unfold OpenP; rw [hr]
            exact ⟨_, [DkX p (kRenew { k with st := (applyS k.st (claimsS k.st)).1 } d).2.2], rfl, .inl ⟨g54, rfl, rfl⟩, hs.fitD⟩
          · have hok3 := kRenew_ok (d := d) hk2 hw
            refine K.skip <| K.seq <| K.region <| KO.q rfl (q_move rfl) <| KO.q rfl (q_assign rfl) <| KO.q rfl (q_assign rfl) <| KO.done ?_
            refine kr2 Tryz.func17 Tryz.results17 rfl rfl (fun w hs => ?_)
            unfold OpenP; rw [hr]
            exact ⟨_, KsF b15 p (kRenew { k with st := (applyS k.st (claimsS k.st)).1 } d).2.1 z2 ++ [DkX p (kRenew { k with st := (applyS k.st (claimsS k.st)).1 } d).2.2], rfl, .inr ⟨Decidable.not_not.1 g54, hok3, b15, z2, rfl, rfl⟩, hs.fitD⟩
theorem ks_OpenF (p : Nat) (d : Dk) (hw : d.wf) (h354 : 354 ≤ d.len) (hc : d.cnt ≤ 60000000) : Fn Tryz.prog 17 [.pointer (some ⟨p, 0, none⟩)].toArray [DkX p d] (OpenP p d) := by
  rcases h : kRead d with _ | k
  · exact ks_Open_none p d hw h354 h
  · exact ks_Open_some p d hw h354 hc h
end Go.Proofs.YtkbhldicnamcdaaGreat.L
namespace Go.Proofs.YtkbhldicnamcdaaGreat.L
open Go Go.Proofs
attribute [local irreducible] pv fv pt fz RowF RowO rowP old pure_ elA Rd.int Rd.text Rd.flag Rd.msg Rd.rint Rd.rtext Rd.rflag Rd.rmsg
set_option maxRecDepth 100000
set_option linter.unusedSimpArgs false
set_option linter.unusedVariables false
attribute [local irreducible] DkX
def ksI0 (k : Ks) : KsI k := ⟨0, lgI0 k.lg, ⟨k.st.next, none, k.st.objs.length, k.st.objs.map (fun o => ⟨o, ⟨none, o.rows.length, none, o.msgs.length, none, o.dead.length⟩⟩)⟩, by
    unfold Sz.st
    dsimp only
    rw [List.map_map]
    exact congrArg (Stt.mk k.st.next) (List.map_id' _), by show (k.st.objs.map _).length ≤ _; rw [List.length_map]; exact Nat.le_refl _, fun o ho => by
    obtain ⟨x, _, rfl⟩ := List.mem_map.1 ho
    exact ⟨Nat.le_refl _, Nat.le_refl _, Nat.le_refl _⟩⟩
theorem ks_EpochX (s p : Nat) (k : Ks) : Fn Tryz.prog 22 [.pointer (some ⟨s, 0, none⟩)].toArray [KsX s p k] (fun r post => r = .int .i64 k.epoch ∧ post = [KsX s p k]) :=
  (Fn.exPre (M0 := []) (ksI0 k) (fun z => (ks_Epoch s p k z).conv (fun _ _ _ h => h) (fun r post h => ⟨[KsX s p k], ⟨h.1, rfl⟩, fun ρ L w hs => by rw [h.2] at hs; exact St.exI z hs⟩)))
theorem ks_StateX (s p : Nat) (k : Ks) (hk : KsOk k) : Fn Tryz.prog 21 [.pointer (some ⟨s, 0, none⟩)].toArray [KsX s p k] (fun r post => ∃ s' : Sz, r = .agg s'.cells.toArray ∧ s'.st = k.st ∧ s'.good 30000 ∧ post = StL s' ++ [KsX s p k]) :=
  (Fn.exPre (M0 := []) (ksI0 k) (fun z => (ks_State s p k z hk).conv (fun _ _ _ h => h) (fun r post ⟨s', h1, h2, h3, h4⟩ => ⟨StL s' ++ [KsX s p k], ⟨s', h1, h2, h3, rfl⟩, fun ρ L w hs => by
    subst h4
    exact (St.exMid (M := StL s') (f := KsF s p k) z hs)⟩)))
theorem ks_DoX (s p : Nat) (d : Dk) (k : Ks) (q : Option Addr) (c : Nat) (l : List Eff) (hk : KsOk k) (hw : d.wf) (h354 : 354 ≤ d.len) (hc : d.cnt ≤ 60000000) (hl : l.length ≤ 10000) : Fn Tryz.prog 24 [.pointer (some ⟨s, 0, none⟩), .slice q l.length c].toArray [RowF Kd.eff q l, DkX p d, KsX s p k]
    (fun r post => r = .int .i64 (kDo k l d).1 ∧ post = [DkX p (kDo k l d).2.2, KsX s p (kDo k l d).2.1]) :=
  Fn.exPre (M0 := [RowF Kd.eff q l, DkX p d]) (ksI0 k) (fun z => (ks_Do s p d k z q c l hk hw h354 hc hl).conv (fun ρ L w h => h.fitD) (fun r post ⟨z', h1, h2⟩ => ⟨[DkX p (kDo k l d).2.2, KsX s p (kDo k l d).2.1], ⟨h1, rfl⟩, fun ρ L w hs => by
    subst h2
    have hs : St ρ ((DkX p (kDo k l d).2.2 :: KsF s p (kDo k l d).2.1 z') ++ L) w := hs.fitD
    exact St.exMid (M := [DkX p (kDo k l d).2.2]) (f := KsF s p (kDo k l d).2.1) z' hs⟩))
def OpenX (p : Nat) (d : Dk) (r : Value) (post : List HP) : Prop :=
  (¬ (kOpen d).1 = 0 ∧ r = .tuple #[.pointer none, .int .i64 (kOpen d).1] ∧ post = [DkX p (kOpen d).2.2]) ∨
  ((kOpen d).1 = 0 ∧ KsOk (kOpen d).2.1 ∧ ∃ s, r = .tuple #[.pointer (some ⟨s, 0, none⟩), .int .i64 0] ∧ post = [DkX p (kOpen d).2.2, KsX s p (kOpen d).2.1])
theorem ks_OpenX (p : Nat) (d : Dk) (hw : d.wf) (h354 : 354 ≤ d.len) (hc : d.cnt ≤ 60000000) : Fn Tryz.prog 17 [.pointer (some ⟨p, 0, none⟩)].toArray [DkX p d] (OpenX p d) :=
  (ks_OpenF p d hw h354 hc).conv (fun _ _ _ h => h) (fun r post hp => by
    rcases hp with ⟨h1, h2, h3⟩ | ⟨h1, h2, s, z, h3, h4⟩
    · exact ⟨post, .inl ⟨h1, h2, h3⟩, fun _ _ _ h => h⟩
    · refine ⟨[DkX p (kOpen d).2.2, KsX s p (kOpen d).2.1], .inr ⟨h1, h2, s, h3, rfl⟩, fun ρ L w hs => ?_⟩
      subst h4
      have hs : St ρ ((DkX p (kOpen d).2.2 :: KsF s p (kOpen d).2.1 z) ++ L) w := hs.fitD
      exact St.exMid (M := [DkX p (kOpen d).2.2]) (f := KsF s p (kOpen d).2.1) z hs)
theorem ks_OpenG (p : Nat) (d : Dk) (hw : d.wf) (h354 : 354 ≤ d.len) (hc : d.cnt ≤ 60000000) (h0 : (kOpen d).1 = 0) : Fn Tryz.prog 17 [.pointer (some ⟨p, 0, none⟩)].toArray [DkX p d] (fun r post => ∃ s, r = .tuple #[.pointer (some ⟨s, 0, none⟩), .int .i64 0] ∧ post = [DkX p (kOpen d).2.2, KsX s p (kOpen d).2.1]) :=
  (ks_OpenX p d hw h354 hc).mono fun r post hp => by
    rcases hp with ⟨h1, _⟩ | ⟨_, _, s, h3, h4⟩
    · exact absurd h0 h1
    · exact ⟨s, h3, h4⟩
end Go.Proofs.YtkbhldicnamcdaaGreat.L
