/- Plain: states as bytes. Walks: a state written, by the program and by the document. -/
import Derived.Test.YtlellgnklohclaaC7
import Derived.Test.YtlellgnklohclaaWF
namespace Go.Proofs.Ytlellgnklohclaa.L
open Go Go.Proofs
attribute [local irreducible] pv fv pt fz RowF RowO rowP old pure_ elA Rd.int Rd.text Rd.flag Rd.msg Rd.rint Rd.rtext Rd.rflag Rd.rmsg
set_option maxRecDepth 100000
set_option linter.unusedSimpArgs false
set_option linter.unusedVariables false

def Rw.bytes (r : Rw) : List UInt8 := wText r.key ++ wText r.value
def msgsBytes (l : List Msg) : List UInt8 := wInt l.length ++ l.flatMap Msg.bytes
def Ob.bytes (o : Ob) : List UInt8 := wText o.name ++ (wInt o.kind ++ (wInt o.limit ++ (wInt o.rows.length ++ (o.rows.flatMap Rw.bytes ++ (msgsBytes o.msgs ++ msgsBytes o.dead)))))
def Stt.bytes (s : Stt) : List UInt8 := wInt s.next ++ (wInt s.objs.length ++ s.objs.flatMap Ob.bytes)
def imgBytes (s : Stt) : List UInt8 := if s.right = true then s.bytes else []
theorem flatB_succ {α : Type} {f : α → List UInt8} {l : List α} {i : Nat} {x : α} (A : List UInt8) (h : l[i]? = some x) : A ++ (l.take (i + 1)).flatMap f = A ++ (l.take i).flatMap f ++ f x := by
  rw [List.take_add_one, h, List.flatMap_append]; simp
theorem rowsB_succ {l : List Rw} {i : Nat} {r : Rw} (A : List UInt8) (h : l[i]? = some r) : A ++ (l.take (i + 1)).flatMap Rw.bytes = A ++ (l.take i).flatMap Rw.bytes ++ wText r.key ++ wText r.value := by
  rw [flatB_succ A h]; simp [Rw.bytes]
theorem flatB_le {α : Type} {f : α → List UInt8} {c : Nat} : ∀ (l : List α), (∀ x ∈ l, (f x).length ≤ c) → (l.flatMap f).length ≤ l.length * c
  | [], _ => by simp
  | x :: l, h => by
    have h1 := h x List.mem_cons_self
    have h2 := flatB_le l (fun y hy => h y (List.mem_cons_of_mem _ hy))
    simp only [List.flatMap_cons, List.length_append, List.length_cons, Nat.succ_mul]
    omega
theorem flatB_take {α : Type} {f : α → List UInt8} {c : Nat} (l : List α) (h : ∀ x, (f x).length ≤ c) (i : Nat) : ((l.take i).flatMap f).length ≤ l.length * c :=
  Nat.le_trans (flatB_le _ (fun x _ => h x)) (Nat.mul_le_mul_right _ (by rw [List.length_take]; omega))
theorem Rw.bytes_length (r : Rw) : r.bytes.length ≤ 131100 := by
  unfold Rw.bytes
  rw [List.length_append, wText_length, wText_length]
  omega
theorem msgsBytes_length (l : List Msg) : (msgsBytes l).length ≤ 8 + l.length * 131100 := by
  have := flatB_le (f := Msg.bytes) l (fun m _ => m.bytes_length)
  unfold msgsBytes
  rw [List.length_append, wInt_length]
  omega
theorem Ob.bytes_length (o : Ob) : o.bytes.length ≤ o.cnt * 131100 := by
  have h1 := flatB_le (f := Rw.bytes) o.rows (fun m _ => m.bytes_length)
  have h2 := msgsBytes_length o.msgs
  have h3 := msgsBytes_length o.dead
  unfold Ob.bytes Ob.cnt
  simp only [List.length_append, wInt_length, wText_length]
  omega
def preB (s : Sz) (i : Nat) : List UInt8 := wInt s.next ++ (wInt s.l.length ++ (s.l.take i).flatMap (fun o => o.x.bytes))
theorem preB_zero (s : Sz) : [] ++ wInt s.next ++ wInt s.l.length = preB s 0 := by simp [preB]
theorem preB_all (s : Sz) : preB s s.l.length = s.st.bytes := by
  unfold preB Stt.bytes Sz.st
  rw [List.take_length, List.length_map, List.flatMap_map]
theorem preB_succ {s : Sz} {i : Nat} {o : Oz} (h : s.l[i]? = some o) : preB s i ++ wText o.x.name ++ wInt o.x.kind ++ wInt o.x.limit ++ wInt o.x.rows.length ++ o.x.rows.flatMap Rw.bytes ++ msgsBytes o.x.msgs ++ msgsBytes o.x.dead = preB s (i + 1) := by
  unfold preB
  rw [List.take_add_one, h, List.flatMap_append]
  simp [Ob.bytes]
theorem preB_len (s : Sz) (i : Nat) : (preB s i).length ≤ 16 + s.cnt i * 131100 := by
  have key : ∀ l : List Oz, (l.flatMap (fun o => o.x.bytes)).length ≤ (l.map (fun o => o.x.cnt)).sum * 131100 := fun l => by
    induction l with
    | nil => simp
    | cons o l ih =>
      have h1 := o.x.bytes_length
      simp only [List.flatMap_cons, List.length_append, List.map_cons, List.sum_cons, Nat.add_mul]
      omega
  have := key (s.l.take i)
  unfold preB Sz.cnt
  rw [List.length_append, List.length_append, wInt_length, wInt_length]
  omega
theorem few_of {s : Sz} (h : s.cnt s.l.length ≤ 200) : s.few := fun o ho => by
  obtain ⟨i, hi⟩ := List.mem_iff_getElem?.1 ho
  have h1 := cnt_succ hi
  have h2 := cnt_mono s (i + 1)
  unfold Ob.cnt at h1
  omega
--%call poste/image.messages := im_messages _ _ _ _ _ _ _ (by first | omega | (simp; omega)) (by first | omega | (simp [wInt_length, wFlag_length, wText_length]; omega)) !! ⟨_, ⟨q#, c#, rfl, rfl⟩, rfl⟩
set_option maxHeartbeats 800000 in
theorem im_messages (p : Nat) (q : Option Addr) (cap : Nat) (xs : List UInt8) (mq : Option Addr) (mc : Nat) (l : List Msg) (hl : l.length ≤ 200) (hb : xs.length ≤ 100000000000) : Fn Try.prog 84 [.pointer (some ⟨p, 0, none⟩), .slice mq l.length mc].toArray (WrL p q cap xs ++ [RowF Kd.msg mq l])
    (fun r post => ∃ q' cap', r = .tuple #[] ∧ post = WrL p q' cap' (xs ++ msgsBytes l)) := by
  have hfl := flatB_take (f := Msg.bytes) l (fun m => m.bytes_length)
  refine Fn.enter (N := 20) Try.func84 rfl Try.ntmps84 (by kernel_rfl) rfl (fun ρ L => ?_)
  refine K.seq ?_
  refine K.region ?_
  refine KO.q rfl (q_move rfl) ?_
  refine KO.q rfl (q_move rfl) ?_
  refine KO.q rfl (q_len Try.underlying26 rfl) ?_
  refine KO.loud rfl (OpL.callD rfl (h := wr_Int _ _ _ _ _ (by first | omega | (simp [wInt_length, wFlag_length, wText_length]; omega)))) ?_
  rintro _ _ ⟨_, ⟨q1, c1, rfl, rfl⟩, rfl⟩
  refine KO.done ?_
  refine K.seq ?_
  refine K.region ?_
  refine KO.q rfl (q_move rfl) ?_
  refine KO.q rfl (q_len Try.underlying26 rfl) ?_
  refine KO.q rfl (q_move rfl) ?_
  refine KO.done ?_
  refine K.block ?_
  obtain ⟨A, hA⟩ : ∃ A, A = xs ++ wInt l.length := ⟨_, rfl⟩
  have hAl : A.length ≤ 100000000008 := by rw [hA, List.length_append, wInt_length]; omega
  rw [← hA]
  refine K.rounds2 (ι := { x : Nat × Option Addr × Nat // x.1 ≤ l.length }) (fun x => [(12, .int .i64 x.1.1), (11, .int .i64 l.length), (10, .slice mq l.length mc), (0, .pointer (some ⟨p, 0, none⟩))]) (fun x => WrL p x.1.2.1 x.1.2.2 (A ++ (l.take x.1.1).flatMap Msg.bytes) ++ (RowF Kd.msg mq l :: L)) (fun x => l.length - x.1.1) ⟨(0, q1, c1), Nat.zero_le _⟩ (by repeat (first | exact Env.sub_nil _ | refine Env.sub_cons rfl ?_)) (fun w h => by rw [show A ++ (l.take 0).flatMap Msg.bytes = A by simp]; exact h.fitD) (fun x ih => ?_)
  obtain ⟨⟨i, q', cap'⟩, hi⟩ := x
  dsimp only at hi ⊢
  obtain ⟨B, hB⟩ : ∃ B, B = A ++ (l.take i).flatMap Msg.bytes := ⟨_, rfl⟩
  have hBl : B.length ≤ 100100000000 := by have := hfl i; rw [hB, List.length_append]; omega
  rw [← hB]
  refine K.seq ?_
  refine K.region ?_
  refine KO.q rfl (q_lt rfl rfl) ?_
  refine KO.done ?_
  refine K.seq ?_
  refine K.dcond (s := 13) rfl (fun g13 => ?_) (fun g13 => ?_)
  · obtain ⟨m, hm⟩ : ∃ e, l[i]? = some e := ⟨_, List.getElem?_eq_getElem (by omega)⟩
    refine K.skip <| K.seq <| K.block <| K.seq ?_
    refine K.region ?_
    first | refine KO.q rfl (q_ix _ se_26 rfl rfl rfl isF (by repeat (first | exact List.Mem.head _ | apply List.Mem.tail)) rfl (by first | assumption | omega | exact (List.getElem?_eq_some_iff.1 (by assumption)).1 | (simp; omega))) ?_ | refine KO.q rfl (q_ix _ se_26 rfl rfl rfl isO (by repeat (first | exact List.Mem.head _ | apply List.Mem.tail)) rfl (by first | assumption | omega | exact (List.getElem?_eq_some_iff.1 (by assumption)).1 | (simp; omega))) ?_
    first | refine KO.q rfl (q_ldEN ck_24 rfl isF (by repeat (first | exact List.Mem.head _ | apply List.Mem.tail)) (by first | assumption | exact List.getElem?_eq_getElem (by first | assumption | omega | (simp; omega)))) ?_ | refine KO.q rfl (q_ldEN ck_24 rfl isO (by repeat (first | exact List.Mem.head _ | apply List.Mem.tail)) (by first | assumption | exact List.getElem?_eq_getElem (by first | assumption | omega | (simp; omega)))) ?_
    refine KO.loud rfl (l_alloc zo_24) ?_
    rintro _ _ ⟨b5, rfl, rfl⟩
    refine KO.loudN rfl (l_storeAll ck_24 rfl rfl ⟨rfl, rfl⟩ (msg_one _) (by repeat (first | exact Pick.here | apply Pick.there))) ?_
    rintro _ _ ⟨rfl, rfl⟩
    refine KO.done ?_
    refine K.region ?_
    refine KO.q rfl (q_move rfl) ?_
    refine KO.q rfl (q_loadN ck_24 rfl rfl (by first | (apply cells_pv; (repeat (first | exact List.Mem.head _ | apply List.Mem.tail))) | (apply cells_fv; (repeat (first | exact List.Mem.head _ | apply List.Mem.tail))))) ?_
    refine KO.loud rfl (OpL.callD rfl (h := msg_WriteA _ _ _ _ _ (by first | omega | (simp [wInt_length, wFlag_length, wText_length]; omega)))) ?_
    rintro _ _ ⟨_, ⟨q2, c2, rfl, rfl⟩, rfl⟩
    refine KO.done ?_
    refine K.inBlock ?_
    refine K.region ?_
    refine KO.q rfl (q_add rfl rfl (by first | omega | (simp; omega)) (by first | omega | (simp; omega))) ?_
    refine KO.q rfl (q_move rfl) ?_
    refine KO.done ?_
    rw [hB, ← flatB_succ A hm]
    exact K.weak (by repeat (first | exact Env.sub_nil _ | refine Env.sub_cons rfl ?_)) (fun w h => h.fitD) (ih ⟨(i + 1, q2, c2), by show i + 1 ≤ l.length; omega⟩ (by show l.length - (i + 1) < l.length - i; omega))
  · obtain rfl : i = l.length := by omega
    rw [hB, List.take_length, hA, show xs ++ wInt l.length ++ l.flatMap Msg.bytes = xs ++ msgsBytes l by simp [msgsBytes]]
    refine K.exit rfl ?_
    refine K.fin (fn := Try.f84) Try.func84 (fun a w hk hs => res0 Try.results84) (fun w hs => ?_)
    exact ⟨_, WrL p q' cap' (xs ++ msgsBytes l), rfl, ⟨q', cap', rfl, rfl⟩, hs.fitD⟩
--%call poste/image.Bytes := im_Bytes _ (by assumption) (by assumption) !! ⟨_, ⟨q#, c#, rfl, rfl, hc#⟩, rfl⟩
set_option maxHeartbeats 1600000 in
theorem im_Bytes (s : Sz) (hok : s.ok) (hcnt : s.cnt s.l.length ≤ 200) : Fn Try.prog 55 [.agg s.cells.toArray].toArray (StL s)
    (fun r post => ∃ q cap, r = .slice q (imgBytes s.st).length cap ∧ post = [RowF Kd.u8 q (imgBytes s.st)] ∧ (imgBytes s.st).length ≤ cap) := by
  have hfew := few_of hcnt
  have hpre := preB_len s
  have hcm := cnt_mono s
  have hlc0 : s.l.length ≤ 200 := by
    have : s.l.length ≤ s.cnt s.l.length := by
      unfold Sz.cnt
      rw [List.take_length]
      clear hcnt hfew hpre hcm hok
      generalize s.l = l
      induction l with
      | nil => simp
      | cons o l ih =>
        have : 1 ≤ o.x.cnt := by unfold Ob.cnt; omega
        simp only [List.length_cons, List.map_cons, List.sum_cons]; omega
    omega
  refine Fn.enter (N := 73) Try.func55 rfl Try.ntmps55 (by kernel_rfl) rfl (fun ρ L => ?_)
  refine K.seq ?_
  refine K.region ?_
  refine KO.loud rfl (l_box rfl rfl) ?_
  rintro _ _ ⟨b1, rfl, rfl⟩
  refine KO.q rfl (q_assign rfl) ?_
  refine KO.done ?_
  refine K.seq <| K.seq ?_
  refine K.region ?_
  refine KO.q rfl (q_loadN ck_76 rfl rfl (by first | (apply cells_pv; (repeat (first | exact List.Mem.head _ | apply List.Mem.tail))) | (apply cells_fv; (repeat (first | exact List.Mem.head _ | apply List.Mem.tail))))) ?_
  refine KO.loud rfl (OpL.callD rfl (h := st_Right _ (by assumption) (by assumption))) ?_
  rintro _ _ ⟨_, ⟨rfl, rfl⟩, rfl⟩
  refine KO.q rfl (q_not rfl) ?_
  refine KO.done ?_
  refine K.bcond (s := 10) rfl (fun g10 => ?_) (fun g10 => ?_)
  · refine K.seq ?_
    have hr : imgBytes s.st = [] := if_neg (by simpa using g10)
    rw [hr]
    refine K.region ?_
    refine KO.q rfl (q_assign rfl) ?_
    refine KO.done ?_
    refine K.ret (fn := Try.f55) Try.func55 (fun a w hk hs => res1 Try.results55 hk rfl) (fun w hs => ?_)
    first
      | exact ⟨_, [RowF Kd.u8 none []], rfl, ⟨none, 0, rfl, rfl, Nat.le_refl _⟩, (rowF_nil (k := Kd.u8) none hs).fitD⟩
      | exact ⟨_, [RowF Kd.u8 q10 s.st.bytes], rfl, ⟨q10, c10, rfl, rfl, hc10⟩, hs.fitD⟩
  · refine K.skip <| K.seq ?_
    have hr : imgBytes s.st = s.st.bytes := if_pos (by simpa using g10)
    rw [hr]
    refine K.region ?_
    refine KO.q rfl (q_build st_35 rfl (by repeat (first | exact Fill.nil | (apply Fill.cons; rfl; rfl; rfl) | exact SetN.nil | apply SetN.cons | exact SetAt.here | apply SetAt.there))) ?_
    refine KO.loud rfl (l_box rfl rfl) ?_
    rintro _ _ ⟨b12, rfl, rfl⟩
    refine KO.q rfl (q_assign rfl) ?_
    refine KO.done ?_
    refine K.st (fun w h => rowO_nil (k := Kd.u8) 5 h) ?_
    refine K.seq ?_
    refine K.region ?_
    refine KO.q rfl (q_move rfl) ?_
    refine KO.q rfl (q_field fo_76_0 rfl) ?_
    refine KO.q rfl (q_load1D ck_3 rfl) ?_
    refine KO.loud rfl (OpL.callE rfl (wr_Int b12 none 0 [] _ (by simp))) ?_
    rintro _ _ ⟨_, ⟨q0, c0, rfl, rfl⟩, rfl⟩
    refine KO.done ?_
    refine K.seq ?_
    refine K.region ?_
    refine KO.q rfl (q_move rfl) ?_
    refine KO.q rfl (q_field fo_76_1 rfl) ?_
    refine KO.q rfl (q_load1D ck_74 rfl) ?_
    refine KO.q rfl (q_len Try.underlying74 rfl) ?_
    refine KO.loud rfl (OpL.callD rfl (h := wr_Int _ _ _ _ _ (by simp [wInt_length]))) ?_
    rintro _ _ ⟨_, ⟨qa, ca, rfl, rfl⟩, rfl⟩
    refine KO.done ?_
    refine K.seq <| K.seq ?_
    refine K.region ?_
    refine KO.q rfl (q_field fo_76_1 rfl) ?_
    refine KO.q rfl (q_load1D ck_74 rfl) ?_
    refine KO.q rfl (q_len Try.underlying74 rfl) ?_
    refine KO.q rfl (q_move rfl) ?_
    refine KO.done ?_
    refine K.block ?_
    rw [preB_zero]
    refine K.rounds2 (ι := { x : Nat × Option Addr × Nat // x.1 ≤ s.l.length }) (fun x => [(25, .int .i64 x.1.1), (24, .int .i64 s.l.length), (23, .slice s.q s.l.length s.c), (3, .pointer (some ⟨b12, 0, none⟩))]) (fun x => WrL b12 x.1.2.1 x.1.2.2 (preB s x.1.1) ++ (StL s ++ L)) (fun x => s.l.length - x.1.1) ⟨(0, qa, ca), Nat.zero_le _⟩ (by repeat (first | exact Env.sub_nil _ | refine Env.sub_cons rfl ?_)) (fun w h => h.fitD) (fun x ih => ?_)
    obtain ⟨⟨i, q', cap'⟩, hi⟩ := x
    have hpl := hpre i
    have hci := hcm i
    dsimp only at hi ⊢
    refine K.seq ?_
    refine K.region ?_
    refine KO.q rfl (q_lt rfl rfl) ?_
    refine KO.done ?_
    refine K.seq ?_
    refine K.dcond (s := 26) rfl (fun g26 => ?_) (fun g26 => ?_)
    · obtain ⟨o, ho⟩ : ∃ e, s.l[i]? = some e := ⟨_, List.getElem?_eq_getElem (by omega)⟩
      have hmo := List.mem_of_getElem? ho
      have hcs := cnt_succ ho
      have hc1 := hcm (i + 1)
      unfold Ob.cnt at hcs
      refine K.st (fun w h => nestF_at (l := s.l) (by repeat (first | exact List.Mem.head _ | apply List.Mem.tail)) hmo h) ?_
      refine K.skip <| K.seq <| K.block <| K.seq ?_
      refine K.region ?_
      first | refine KO.q rfl (q_ix _ se_74 rfl rfl rfl isF (by repeat (first | exact List.Mem.head _ | apply List.Mem.tail)) rfl (by first | assumption | omega | exact (List.getElem?_eq_some_iff.1 (by assumption)).1 | (simp; omega))) ?_ | refine KO.q rfl (q_ix _ se_74 rfl rfl rfl isO (by repeat (first | exact List.Mem.head _ | apply List.Mem.tail)) rfl (by first | assumption | omega | exact (List.getElem?_eq_some_iff.1 (by assumption)).1 | (simp; omega))) ?_
      first | refine KO.q rfl (q_ldEN ck_108 rfl isF (by repeat (first | exact List.Mem.head _ | apply List.Mem.tail)) (by first | assumption | exact List.getElem?_eq_getElem (by first | assumption | omega | (simp; omega)))) ?_ | refine KO.q rfl (q_ldEN ck_108 rfl isO (by repeat (first | exact List.Mem.head _ | apply List.Mem.tail)) (by first | assumption | exact List.getElem?_eq_getElem (by first | assumption | omega | (simp; omega)))) ?_
      refine KO.loud rfl (l_alloc zo_108) ?_
      rintro _ _ ⟨b5, rfl, rfl⟩
      refine KO.loudN rfl (l_storeAll ck_108 rfl rfl ⟨rfl, rfl⟩ (oz_one _) (by repeat (first | exact Pick.here | apply Pick.there))) ?_
      rintro _ _ ⟨rfl, rfl⟩
      refine KO.done ?_
      refine K.seq ?_
      refine K.region ?_
      refine KO.q rfl (q_move rfl) ?_
      refine KO.q rfl (q_field fo_108_0 rfl) ?_
      refine KO.q rfl (q_load1D ck_9 rfl) ?_
      refine KO.loud rfl (OpL.callD rfl (h := wr_TextA _ _ _ _ _ (by first | omega | (simp [wInt_length, wFlag_length, wText_length]; omega)))) ?_
      rintro _ _ ⟨_, ⟨q2, c2, rfl, rfl⟩, rfl⟩
      refine KO.done ?_
      refine K.seq ?_
      refine K.region ?_
      refine KO.q rfl (q_move rfl) ?_
      refine KO.q rfl (q_field fo_108_1 rfl) ?_
      refine KO.q rfl (q_load1D ck_3 rfl) ?_
      refine KO.loud rfl (OpL.callD rfl (h := wr_Int _ _ _ _ _ (by first | omega | (simp [wInt_length, wFlag_length, wText_length]; omega)))) ?_
      rintro _ _ ⟨_, ⟨q3, c3, rfl, rfl⟩, rfl⟩
      refine KO.done ?_
      refine K.seq ?_
      refine K.region ?_
      refine KO.q rfl (q_move rfl) ?_
      refine KO.q rfl (q_field fo_108_2 rfl) ?_
      refine KO.q rfl (q_load1D ck_3 rfl) ?_
      refine KO.loud rfl (OpL.callD rfl (h := wr_Int _ _ _ _ _ (by first | omega | (simp [wInt_length, wFlag_length, wText_length]; omega)))) ?_
      rintro _ _ ⟨_, ⟨q4, c4, rfl, rfl⟩, rfl⟩
      refine KO.done ?_
      refine K.seq ?_
      refine K.region ?_
      refine KO.q rfl (q_move rfl) ?_
      refine KO.q rfl (q_field fo_108_3 rfl) ?_
      refine KO.q rfl (q_load1D ck_106 rfl) ?_
      refine KO.q rfl (q_len Try.underlying106 rfl) ?_
      refine KO.loud rfl (OpL.callD rfl (h := wr_Int _ _ _ _ _ (by first | omega | (simp [wInt_length, wFlag_length, wText_length]; omega)))) ?_
      rintro _ _ ⟨_, ⟨q5, c5, rfl, rfl⟩, rfl⟩
      refine KO.done ?_
      refine K.seq <| K.seq ?_
      obtain ⟨A, hA⟩ : ∃ A, A = preB s i ++ wText o.x.name ++ wInt o.x.kind ++ wInt o.x.limit ++ wInt o.x.rows.length := ⟨_, rfl⟩
      have hAl : A.length ≤ 100000000 := by rw [hA]; simp only [List.length_append, wInt_length, wText_length]; omega
      rw [← hA]
      refine K.region ?_
      refine KO.q rfl (q_field fo_108_3 rfl) ?_
      refine KO.q rfl (q_load1D ck_106 rfl) ?_
      refine KO.q rfl (q_len Try.underlying106 rfl) ?_
      refine KO.q rfl (q_move rfl) ?_
      refine KO.done ?_
      refine K.block ?_
      refine K.rounds2 (ι := { x : Nat × Option Addr × Nat // x.1 ≤ o.x.rows.length }) (fun x => [(49, .int .i64 x.1.1), (48, .int .i64 o.x.rows.length), (47, .slice o.z.q1 o.x.rows.length o.z.c1), (5, .pointer (some ⟨b5, 0, none⟩)), (25, .int .i64 i), (24, .int .i64 s.l.length), (23, .slice s.q s.l.length s.c), (3, .pointer (some ⟨b12, 0, none⟩))]) (fun x => WrL b12 x.1.2.1 x.1.2.2 (A ++ (o.x.rows.take x.1.1).flatMap Rw.bytes) ++ (pv b5 108 o.cells :: ObL o ++ StL s ++ L)) (fun x => o.x.rows.length - x.1.1) ⟨(0, q5, c5), Nat.zero_le _⟩ (by repeat (first | exact Env.sub_nil _ | refine Env.sub_cons rfl ?_)) (fun w h => by rw [show A ++ (o.x.rows.take 0).flatMap Rw.bytes = A by simp]; exact h.fitD) (fun x ih2 => ?_)
      obtain ⟨⟨k, q'', cap''⟩, hk⟩ := x
      dsimp only at hk ⊢
      obtain ⟨B, hB⟩ : ∃ B, B = A ++ (o.x.rows.take k).flatMap Rw.bytes := ⟨_, rfl⟩
      have hBl : B.length ≤ 200000000 := by have := flatB_take (f := Rw.bytes) o.x.rows (fun r => r.bytes_length) k; rw [hB, List.length_append]; omega
      rw [← hB]
      refine K.seq ?_
      refine K.region ?_
      refine KO.q rfl (q_lt rfl rfl) ?_
      refine KO.done ?_
      refine K.seq ?_
      refine K.dcond (s := 50) rfl (fun g50 => ?_) (fun g50 => ?_)
      · obtain ⟨r, hr⟩ : ∃ e, o.x.rows[k]? = some e := ⟨_, List.getElem?_eq_getElem (by omega)⟩
        refine K.skip <| K.seq <| K.block <| K.seq ?_
        refine K.region ?_
        first | refine KO.q rfl (q_ix _ se_106 rfl rfl rfl isF (by repeat (first | exact List.Mem.head _ | apply List.Mem.tail)) rfl (by first | assumption | omega | exact (List.getElem?_eq_some_iff.1 (by assumption)).1 | (simp; omega))) ?_ | refine KO.q rfl (q_ix _ se_106 rfl rfl rfl isO (by repeat (first | exact List.Mem.head _ | apply List.Mem.tail)) rfl (by first | assumption | omega | exact (List.getElem?_eq_some_iff.1 (by assumption)).1 | (simp; omega))) ?_
        first | refine KO.q rfl (q_ldEN ck_103 rfl isF (by repeat (first | exact List.Mem.head _ | apply List.Mem.tail)) (by first | assumption | exact List.getElem?_eq_getElem (by first | assumption | omega | (simp; omega)))) ?_ | refine KO.q rfl (q_ldEN ck_103 rfl isO (by repeat (first | exact List.Mem.head _ | apply List.Mem.tail)) (by first | assumption | exact List.getElem?_eq_getElem (by first | assumption | omega | (simp; omega)))) ?_
        refine KO.loud rfl (l_alloc zo_103) ?_
        rintro _ _ ⟨b7, rfl, rfl⟩
        refine KO.loudN rfl (l_storeAll ck_103 rfl rfl ⟨rfl, rfl⟩ (rw_one _) (by repeat (first | exact Pick.here | apply Pick.there))) ?_
        rintro _ _ ⟨rfl, rfl⟩
        refine KO.done ?_
        refine K.seq ?_
        refine K.region ?_
        refine KO.q rfl (q_move rfl) ?_
        refine KO.q rfl (q_field fo_103_0 rfl) ?_
        refine KO.q rfl (q_load1D ck_9 rfl) ?_
        refine KO.loud rfl (OpL.callD rfl (h := wr_TextA _ _ _ _ _ (by first | omega | (simp [wInt_length, wFlag_length, wText_length]; omega)))) ?_
        rintro _ _ ⟨_, ⟨q6, c6, rfl, rfl⟩, rfl⟩
        refine KO.done ?_
        refine K.region ?_
        refine KO.q rfl (q_move rfl) ?_
        refine KO.q rfl (q_field fo_103_1 rfl) ?_
        refine KO.q rfl (q_load1D ck_9 rfl) ?_
        refine KO.loud rfl (OpL.callD rfl (h := wr_TextA _ _ _ _ _ (by first | omega | (simp [wInt_length, wFlag_length, wText_length]; omega)))) ?_
        rintro _ _ ⟨_, ⟨q7, c7, rfl, rfl⟩, rfl⟩
        refine KO.done ?_
        refine K.inBlock ?_
        refine K.region ?_
        refine KO.q rfl (q_add rfl rfl (by first | omega | (simp; omega)) (by first | omega | (simp; omega))) ?_
        refine KO.q rfl (q_move rfl) ?_
        refine KO.done ?_
        rw [hB, ← rowsB_succ A hr]
        exact K.weak (by repeat (first | exact Env.sub_nil _ | refine Env.sub_cons rfl ?_)) (fun w h => h.fitD) (ih2 ⟨(k + 1, q7, c7), by show k + 1 ≤ o.x.rows.length; omega⟩ (by show o.x.rows.length - (k + 1) < o.x.rows.length - k; omega))
      · obtain rfl : k = o.x.rows.length := by omega
        rw [List.take_length] at hB
        have hml := msgsBytes_length o.x.msgs
        refine K.exit rfl ?_
        refine K.seq ?_
        refine K.region ?_
        refine KO.q rfl (q_move rfl) ?_
        refine KO.q rfl (q_field fo_108_4 rfl) ?_
        refine KO.q rfl (q_load1D ck_26 rfl) ?_
        refine KO.loud rfl (OpL.callD rfl (h := im_messages _ _ _ _ _ _ _ (by first | omega | (simp; omega)) (by first | omega | (simp [wInt_length, wFlag_length, wText_length]; omega)))) ?_
        rintro _ _ ⟨_, ⟨q8, c8, rfl, rfl⟩, rfl⟩
        refine KO.done ?_
        refine K.region ?_
        refine KO.q rfl (q_move rfl) ?_
        refine KO.q rfl (q_field fo_108_5 rfl) ?_
        refine KO.q rfl (q_load1D ck_26 rfl) ?_
        refine KO.loud rfl (OpL.callD rfl (h := im_messages _ _ _ _ _ _ _ (by first | omega | (simp; omega)) (by first | omega | (simp [wInt_length, wFlag_length, wText_length]; omega)))) ?_
        rintro _ _ ⟨_, ⟨q9, c9, rfl, rfl⟩, rfl⟩
        refine KO.done ?_
        refine K.inBlock ?_
        refine K.region ?_
        refine KO.q rfl (q_add rfl rfl (by first | omega | (simp; omega)) (by first | omega | (simp; omega))) ?_
        refine KO.q rfl (q_move rfl) ?_
        refine KO.done ?_
        rw [hB, hA, preB_succ ho]
        exact K.weak (by repeat (first | exact Env.sub_nil _ | refine Env.sub_cons rfl ?_)) (fun w h => h.fitD) (ih ⟨(i + 1, q9, c9), by show i + 1 ≤ s.l.length; omega⟩ (by show s.l.length - (i + 1) < s.l.length - i; omega))
    · obtain rfl : i = s.l.length := by omega
      rw [preB_all] at hpl ⊢
      refine K.exit rfl ?_
      refine K.seq ?_
      refine K.region ?_
      refine KO.q rfl (q_move rfl) ?_
      refine KO.loud rfl (OpL.callD rfl (h := wr_Bytes _ _ _ _ (by first | omega | (simp [wInt_length, wFlag_length, wText_length]; omega)))) ?_
      rintro _ _ ⟨_, ⟨q10, c10, rfl, rfl, hc10⟩, rfl⟩
      refine KO.q rfl (q_assign rfl) ?_
      refine KO.done ?_
      refine K.ret (fn := Try.f55) Try.func55 (fun a w hk hs => res1 Try.results55 hk rfl) (fun w hs => ?_)
      first
        | exact ⟨_, [RowF Kd.u8 none []], rfl, ⟨none, 0, rfl, rfl, Nat.le_refl _⟩, (rowF_nil (k := Kd.u8) none hs).fitD⟩
        | exact ⟨_, [RowF Kd.u8 q10 s.st.bytes], rfl, ⟨q10, c10, rfl, rfl, hc10⟩, hs.fitD⟩
end Go.Proofs.Ytlellgnklohclaa.L
