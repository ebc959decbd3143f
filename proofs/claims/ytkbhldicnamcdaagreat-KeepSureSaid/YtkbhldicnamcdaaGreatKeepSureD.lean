/- Whatever stays at a crash, the state behind all changes that were answered OK is there, or also the one more that was not; no condition. -/
import Derived.Test.YtkbhldicnamcdaaGreatKeepSureC
open Go.Proofs.Tryz
set_option linter.unusedVariables false
set_option linter.unusedSimpArgs false
set_option maxRecDepth 100000
namespace Go.Proofs.YtkbhldicnamcdaaGreat.L
open Go Go.Proofs
attribute [local irreducible] pv fv pt fz RowF RowO rowP old pure_ elA Rd.int Rd.text Rd.flag Rd.msg Rd.rint Rd.rtext Rd.rflag Rd.rmsg
theorem idsTo_len (s : Sz) : ∀ i, (idsTo s i).length ≤ s.cnt i := by
 intro i
 have key : ∀ l : List Oz, (l.flatMap (fun o => o.x.ids)).length ≤ (l.map (fun o => o.x.cnt)).sum := fun l => by
  induction l with
  | nil => simp
  | cons o l ih =>
   have h1 : o.x.ids.length ≤ o.x.cnt := by
    unfold Ob.ids Ob.cnt
    rw [List.length_map, List.length_append]
    omega
   simp only [List.flatMap_cons, List.length_append, List.map_cons, List.sum_cons]
   omega
 exact key _
theorem count_step {A : List Int} {l : List Msg} {k : Nat} {m : Msg} (n : Int) (h : l[k]? = some m) : (A ++ (l.take (k + 1)).map (·.id)).count n = (A ++ (l.take k).map (·.id)).count n + (if m.id = n then 1 else 0) := by
 rw [ids_step h, List.count_append, List.count_singleton]
 by_cases e : m.id = n <;> simp [e]
set_option maxHeartbeats 1600000 in
theorem ref_total (s : Sz) (n : Int) (hok : s.ok) (hN : s.cnt s.l.length ≤ 9000000000000000000) : Fn Tryz.prog 116 [.agg s.cells.toArray, .int .i64 n].toArray (StL s) (fun v post => v = .int .i64 (s.st.ids.count n : Nat) ∧ post = []) := by
 have hlen := idsTo_len s
 have hcm := cnt_mono s
 obtain ⟨hn0, hl, hlc, hall⟩ := hok
 refine Fn.enter (N := 67) func116 rfl ntmps116 tK rfl (fun ρ L => ?_)
 refine ky<|kl (l_box rfl rfl) ?_
 rintro _ _ ⟨b2, rfl, rfl⟩
 refine ka rfl<|kz<|ka rfl<|zm<|ke<|ky<|ka rfl<|zm<|kB ?_
 refine kX (ι := { x : Nat // x ≤ s.l.length }) (fun x => [(6, .int .i64 x.1), (5, .int .i64 (((idsTo s x.1).count n : Nat) : Int)), (2, .pointer (some ⟨b2, 0, none⟩)), (1, .int .i64 n)]) (fun x => [pv b2 47 s.cells, RowF Kd.oz s.q s.l, NestF s.l] ++ L) (fun x => s.l.length - x.1) ⟨0, Nat.zero_le _⟩ tS (fun w h => h.fitD) (fun x ih => ?_)
 obtain ⟨i, hi⟩ := x
 dsimp only at hi ⊢
 refine ke<|ky<|km rfl<|kq (qO fo_47_1 rfl)<|kq (qD ck_45 rfl)<|kq (qG underlying45 rfl)<|kq (q_lt rfl rfl)<|zm ?_
 refine kD (s := 13) rfl (fun g13 => ?_) (fun g13 => ?_)
 ·obtain ⟨o, ho⟩ : ∃ e, s.l[i]? = some e := ⟨_, List.getElem?_eq_getElem tO⟩
  have hmo := List.mem_of_getElem? ho
  obtain ⟨⟨_, _, _, _, _, _, ha, hb, hd⟩, _⟩ := hall o hmo
  have hcs := cnt_succ ho
  have hc1 := hcm (i + 1)
  have hl0 := hlen i
  unfold Ob.cnt at hcs
  refine K.st (fun w h => nA (l := s.l) tM hmo h) ?_
  generalize hA : idsTo s i = A at hl0 ⊢
  refine za<|ke<|kB<|ke<|ky<|ka rfl<|zm<|kB ?_
  refine kX (ι := { x : Nat // x ≤ o.x.msgs.length }) (fun x => [(7, .int .i64 x.1), (6, .int .i64 i), (5, .int .i64 (((A ++ (o.x.msgs.take x.1).map (·.id)).count n : Nat) : Int)), (2, .pointer (some ⟨b2, 0, none⟩)), (1, .int .i64 n)]) (fun x => ObL o ++ [pv b2 47 s.cells, RowF Kd.oz s.q s.l, NestF s.l] ++ L) (fun x => o.x.msgs.length - x.1) ⟨0, Nat.zero_le _⟩ (eC rfl (eC rfl (eC (by refine congrArg (fun z => some (Value.int .i64 z)) ?_; simp) (eC rfl (eC rfl (Env.sub_nil _)))))) (fun w h => h.fitD) (fun x ih2 => ?_)
  obtain ⟨k, hk⟩ := x
  dsimp only at hk ⊢
  have hle : (A ++ (o.x.msgs.take k).map (·.id)).count n ≤ 9000000000000000000 - 1 - o.x.msgs.length + k := by
   refine Nat.le_trans List.count_le_length ?_
   rw [List.length_append, List.length_map, List.length_take]
   omega
  refine ke<|ky<|km rfl<|kq (qO fo_47_1 rfl)<|kq (qD ck_45 rfl)<|km rfl ?_
  first | refine kq (q_ix _ se_45 rfl rfl rfl isF tM rfl tL) ?_ | refine kq (q_ix _ se_45 rfl rfl rfl isO tM rfl tL) ?_
  refine kq (qE fo_62_4 rfl) ?_
  first | refine kq (q_ldE ck_60 rfl isF tM tE rfl) ?_ | refine kq (q_ldE ck_60 rfl isO tM tE rfl) ?_
  refine kq (qG underlying60 rfl)<|kq (q_lt rfl rfl)<|zm ?_
  refine kD (s := 24) rfl (fun g24 => ?_) (fun g24 => ?_)
  ·obtain ⟨m, hm⟩ : ∃ e, o.x.msgs[k]? = some e := ⟨_, List.getElem?_eq_getElem tO⟩
   have hst := count_step (A := A) n hm
   refine za<|ke<|kB<|ky<|kq (qO fo_47_1 rfl)<|kq (qD ck_45 rfl)<|km rfl ?_
   first | refine kq (q_ix _ se_45 rfl rfl rfl isF tM rfl tL) ?_ | refine kq (q_ix _ se_45 rfl rfl rfl isO tM rfl tL) ?_
   refine kq (qE fo_62_4 rfl) ?_
   first | refine kq (q_ldE ck_60 rfl isF tM tE rfl) ?_ | refine kq (q_ldE ck_60 rfl isO tM tE rfl) ?_
   refine km rfl ?_
   first | refine kq (q_ix _ se_60 rfl rfl rfl isF tM rfl tL) ?_ | refine kq (q_ix _ se_60 rfl rfl rfl isO tM rfl tL) ?_
   refine kq (qE fo_56_0 rfl) ?_
   first | refine kq (q_ldE ck_3 rfl isF tM tE rfl) ?_ | refine kq (q_ldE ck_3 rfl isO tM tE rfl) ?_
   refine km rfl<|kq (q_eq rfl rfl)<|zm ?_
   refine kD (s := 38) rfl (fun g38 => ?_) (fun g38 => ?_)
   ·refine kr<|km rfl<|kq (q_add rfl rfl tN tN)<|ka rfl<|zm<|zd<|kr<|km rfl<|kq (q_add rfl rfl tN tN)<|ka rfl<|zm ?_
    refine K.weak (eC rfl (eC rfl (eC ?_ (eC rfl (eC rfl (Env.sub_nil _)))))) (fun w h => h.fitD) (ih2 ⟨k + 1, by omega⟩ (by show o.x.msgs.length - (k + 1) < o.x.msgs.length - k; omega))
    show _ = some (Value.int .i64 (((A ++ (o.x.msgs.take (k + 1)).map (·.id)).count n : Nat) : Int))
    refine congrArg (fun z => some (Value.int .i64 z)) ?_
    first
     | rw [if_pos g38] at hst
     | rw [if_neg g38] at hst
    omega
   ·refine za<|zd<|kr<|km rfl<|kq (q_add rfl rfl tN tN)<|ka rfl<|zm ?_
    refine K.weak (eC rfl (eC rfl (eC ?_ (eC rfl (eC rfl (Env.sub_nil _)))))) (fun w h => h.fitD) (ih2 ⟨k + 1, by omega⟩ (by show o.x.msgs.length - (k + 1) < o.x.msgs.length - k; omega))
    show _ = some (Value.int .i64 (((A ++ (o.x.msgs.take (k + 1)).map (·.id)).count n : Nat) : Int))
    refine congrArg (fun z => some (Value.int .i64 z)) ?_
    first
     | rw [if_pos g38] at hst
     | rw [if_neg g38] at hst
    omega
  ·obtain rfl : k = o.x.msgs.length := by omega
   rw [List.take_length]
   refine K.exit rfl<|ky<|ka rfl<|zm<|kB ?_
   refine kX (ι := { x : Nat // x ≤ o.x.dead.length }) (fun x => [(8, .int .i64 x.1), (6, .int .i64 i), (5, .int .i64 (((A ++ o.x.msgs.map (·.id) ++ (o.x.dead.take x.1).map (·.id)).count n : Nat) : Int)), (2, .pointer (some ⟨b2, 0, none⟩)), (1, .int .i64 n)]) (fun x => ObL o ++ [pv b2 47 s.cells, RowF Kd.oz s.q s.l, NestF s.l] ++ L) (fun x => o.x.dead.length - x.1) ⟨0, Nat.zero_le _⟩ (eC rfl (eC rfl (eC (by refine congrArg (fun z => some (Value.int .i64 z)) ?_; simp) (eC rfl (eC rfl (Env.sub_nil _)))))) (fun w h => h.fitD) (fun x ih3 => ?_)
   obtain ⟨k2, hk2⟩ := x
   dsimp only at hk2 ⊢
   have hle2 : (A ++ o.x.msgs.map (·.id) ++ (o.x.dead.take k2).map (·.id)).count n ≤ 9000000000000000000 - 1 - o.x.dead.length + k2 := by
    refine Nat.le_trans List.count_le_length ?_
    rw [List.length_append, List.length_append, List.length_map, List.length_map, List.length_take]
    omega
   refine ke<|ky<|km rfl<|kq (qO fo_47_1 rfl)<|kq (qD ck_45 rfl)<|km rfl ?_
   first | refine kq (q_ix _ se_45 rfl rfl rfl isF tM rfl tL) ?_ | refine kq (q_ix _ se_45 rfl rfl rfl isO tM rfl tL) ?_
   refine kq (qE fo_62_5 rfl) ?_
   first | refine kq (q_ldE ck_60 rfl isF tM tE rfl) ?_ | refine kq (q_ldE ck_60 rfl isO tM tE rfl) ?_
   refine kq (qG underlying60 rfl)<|kq (q_lt rfl rfl)<|zm ?_
   refine kD (s := 49) rfl (fun g49 => ?_) (fun g49 => ?_)
   ·obtain ⟨m, hm⟩ : ∃ e, o.x.dead[k2]? = some e := ⟨_, List.getElem?_eq_getElem tO⟩
    have hst := count_step (A := A ++ o.x.msgs.map (·.id)) n hm
    refine za<|ke<|kB<|ky<|kq (qO fo_47_1 rfl)<|kq (qD ck_45 rfl)<|km rfl ?_
    first | refine kq (q_ix _ se_45 rfl rfl rfl isF tM rfl tL) ?_ | refine kq (q_ix _ se_45 rfl rfl rfl isO tM rfl tL) ?_
    refine kq (qE fo_62_5 rfl) ?_
    first | refine kq (q_ldE ck_60 rfl isF tM tE rfl) ?_ | refine kq (q_ldE ck_60 rfl isO tM tE rfl) ?_
    refine km rfl ?_
    first | refine kq (q_ix _ se_60 rfl rfl rfl isF tM rfl tL) ?_ | refine kq (q_ix _ se_60 rfl rfl rfl isO tM rfl tL) ?_
    refine kq (qE fo_56_0 rfl) ?_
    first | refine kq (q_ldE ck_3 rfl isF tM tE rfl) ?_ | refine kq (q_ldE ck_3 rfl isO tM tE rfl) ?_
    refine km rfl<|kq (q_eq rfl rfl)<|zm ?_
    refine kD (s := 63) rfl (fun g63 => ?_) (fun g63 => ?_)
    ·refine kr<|km rfl<|kq (q_add rfl rfl tN tN)<|ka rfl<|zm<|zd<|kr<|km rfl<|kq (q_add rfl rfl tN tN)<|ka rfl<|zm ?_
     refine K.weak (eC rfl (eC rfl (eC ?_ (eC rfl (eC rfl (Env.sub_nil _)))))) (fun w h => h.fitD) (ih3 ⟨k2 + 1, by omega⟩ (by show o.x.dead.length - (k2 + 1) < o.x.dead.length - k2; omega))
     show _ = some (Value.int .i64 (((A ++ o.x.msgs.map (·.id) ++ (o.x.dead.take (k2 + 1)).map (·.id)).count n : Nat) : Int))
     refine congrArg (fun z => some (Value.int .i64 z)) ?_
     first
      | rw [if_pos g63] at hst
      | rw [if_neg g63] at hst
     omega
    ·refine za<|zd<|kr<|km rfl<|kq (q_add rfl rfl tN tN)<|ka rfl<|zm ?_
     refine K.weak (eC rfl (eC rfl (eC ?_ (eC rfl (eC rfl (Env.sub_nil _)))))) (fun w h => h.fitD) (ih3 ⟨k2 + 1, by omega⟩ (by show o.x.dead.length - (k2 + 1) < o.x.dead.length - k2; omega))
     show _ = some (Value.int .i64 (((A ++ o.x.msgs.map (·.id) ++ (o.x.dead.take (k2 + 1)).map (·.id)).count n : Nat) : Int))
     refine congrArg (fun z => some (Value.int .i64 z)) ?_
     first
      | rw [if_pos g63] at hst
      | rw [if_neg g63] at hst
     omega
   ·obtain rfl : k2 = o.x.dead.length := by omega
    rw [List.take_length]
    have hfin : A ++ o.x.msgs.map (·.id) ++ o.x.dead.map (·.id) = idsTo s (i + 1) := by rw [idsTo_succ ho, hA]; unfold Ob.ids; rw [List.map_append, List.append_assoc]
    rw [hfin]
    refine K.exit rfl<|zd<|kr<|km rfl<|kq (q_add rfl rfl tN tN)<|ka rfl<|zm ?_
    refine K.weak tS (fun w h => h.fitD) (ih ⟨i + 1, by omega⟩ (by show s.l.length - (i + 1) < s.l.length - i; omega))
 ·obtain rfl : i = s.l.length := by omega
  rw [idsTo_all]
  refine K.exit rfl<|ky<|km rfl<|ka rfl<|zm ?_
  refine kr1 func116 results116 rfl (fun w hs => ?_)
  exact ⟨_, [], rfl, ⟨rfl, rfl⟩, hs.fitD⟩
theorem adj_at {α : Type} {f : α → α → Bool} : ∀ {l : List α}, adj f l = true ↔ ∀ (i : Nat) (x y : α), l[i]? = some x → l[i + 1]? = some y → f x y = true
 | [] => ⟨fun _ i x y h => by simp at h, fun _ => rfl⟩
 | [_] => ⟨fun _ i x y _ h => by simp at h, fun _ => rfl⟩
 | a :: b :: l => by
  unfold adj
  rw [Bool.and_eq_true, adj_at (l := b :: l)]
  constructor
  ·rintro ⟨h1, h2⟩ i x y hx hy
   cases i with
   | zero => simp at hx hy; subst hx; subst hy; exact h1
   | succ i => exact h2 i x y (by simpa using hx) (by simpa using hy)
  ·intro h
   exact ⟨h 0 a b rfl rfl, fun i x y hx hy => h (i + 1) x y (by simpa using hx) (by simpa using hy)⟩
def headB (i : Nat) (p o : Ob) : Bool := effName o.name && effKind o.kind o.limit && (decide ((i : Int) ≤ 0) || decide (cmpB p.name o.name < 0))
def objB (o : Ob) (next : Int) : Bool := !(decide (o.kind = 1) && decide (0 < (o.msgs.length : Int) + o.dead.length)) && !(decide (o.kind = 2) && decide (0 < (o.rows.length : Int))) && risesR o.rows && risesM o.msgs && msgsOk o.msgs next false && msgsOk o.dead next true
structure RF (s : Sz) (i : Nat) (o : Oz) : Prop where
 h1 : ∀ p, s.l[i - 1]? = some p → headB i p.x o.x = true
 h2 : objB o.x s.next = true
 rows : o.x.rows.all Rw.right = true
 c1 : ∀ m ∈ o.x.msgs, s.st.ids.count m.id = 1
 c2 : ∀ m ∈ o.x.dead, s.st.ids.count m.id = 1
theorem ids_at {s : Sz} {n : Int} : n ∈ s.st.ids ↔ ∃ (i : Nat) (o : Oz), s.l[i]? = some o ∧ ∃ m, (m ∈ o.x.msgs ∨ m ∈ o.x.dead) ∧ m.id = n := by
 unfold Stt.ids Sz.st Ob.ids
 simp only [List.flatMap_map, List.mem_flatMap, List.mem_map, List.mem_append]
 constructor
 ·rintro ⟨o, ho, m, hm, e⟩
  obtain ⟨i, hi⟩ := List.mem_iff_getElem?.1 ho
  exact ⟨i, o, hi, m, hm, e⟩
 ·rintro ⟨i, o, hi, m, hm, e⟩
  exact ⟨o, List.mem_of_getElem? hi, m, hm, e⟩
theorem effKind_or {k l : Int} (h : effKind k l = true) : k = 1 ∨ k = 2 := by
 unfold effKind at h
 split at h
 ·exact .inl (by assumption)
 ·split at h
  ·exact .inr (by assumption)
  ·cases h
theorem msgsOk_iff {l : List Msg} {next : Int} {d : Bool} : msgsOk l next d = true ↔ ∀ m ∈ l, m.right = true ∧ m.id < next ∧ (d = true → m.claimed = false) := by
 unfold msgsOk
 rw [List.all_eq_true]
 refine forall_congr' fun m => forall_congr' fun _ => ?_
 cases d <;> simp [Bool.and_eq_true, and_assoc]
theorem once_iff {s : Sz} : s.st.once = true ↔ (∀ (i : Nat) (o : Oz), s.l[i]? = some o → ∀ m, (m ∈ o.x.msgs ∨ m ∈ o.x.dead) → s.st.ids.count m.id = 1 ∧ m.id < s.next) := by
 unfold Stt.once
 rw [Bool.and_eq_true, decide_eq_true_eq, List.nodup_iff_count, List.all_eq_true]
 constructor
 ·rintro ⟨h1, h2⟩ i o ho m hm
  have hin := ids_at.2 ⟨i, o, ho, m, hm, rfl⟩
  have a := h1 m.id
  have b := List.count_pos_iff.2 hin
  exact ⟨by omega, of_decide_eq_true (h2 m.id hin)⟩
 ·intro h
  refine ⟨fun n => ?_, fun n hn => ?_⟩
  ·by_cases hn : n ∈ s.st.ids
   ·obtain ⟨i, o, ho, m, hm, rfl⟩ := ids_at.1 hn
    exact Nat.le_of_eq (h i o ho m hm).1
   ·rw [List.count_eq_zero_of_not_mem hn]; omega
  ·obtain ⟨i, o, ho, m, hm, rfl⟩ := ids_at.1 hn
   exact decide_eq_true (h i o ho m hm).2
theorem ob_right_iff {o : Ob} {next : Int} : (o.right = true ∧ ∀ m, (m ∈ o.msgs ∨ m ∈ o.dead) → m.id < next) ↔ effName o.name = true ∧ effKind o.kind o.limit = true ∧ objB o next = true ∧ o.rows.all Rw.right = true := by
 unfold Ob.right objB
 by_cases hk : o.kind = 1
 ·rw [if_pos hk]
  have h2 : ¬ o.kind = 2 := by omega
  simp only [Bool.and_eq_true, decide_eq_true_eq, Bool.not_eq_true', Bool.and_eq_false_iff, decide_eq_false_iff_not, hk, msgsOk_iff]
  constructor
  ·rintro ⟨⟨⟨a, b⟩, ⟨⟨c, d⟩, e⟩, f⟩, g⟩
   have hm : o.msgs = [] := List.length_eq_zero_iff.1 tO
   have hd : o.dead = [] := List.length_eq_zero_iff.1 tO
   simp [hm, hd, a, e, f, risesM, adj, b]
  ·rintro ⟨a, b, ⟨⟨⟨⟨⟨c, d⟩, e⟩, f⟩, g⟩, h⟩, i⟩
   have hm : o.msgs = [] := List.length_eq_zero_iff.1 (by simp at c; omega)
   have hd : o.dead = [] := List.length_eq_zero_iff.1 (by simp at c; omega)
   simp [hm, hd, a, e, i, b]
 ·rw [if_neg hk]
  constructor
  ·rintro ⟨h, g⟩
   simp only [Bool.and_eq_true, decide_eq_true_eq, List.all_eq_true] at h
   obtain ⟨⟨a, b⟩, ⟨⟨c, d⟩, e⟩, f⟩ := h
   have hr : o.rows = [] := List.length_eq_zero_iff.1 tO
   refine ⟨a, b, ?_, by simp [hr]⟩
   simp only [Bool.and_eq_true, msgsOk_iff]
   refine ⟨⟨⟨⟨⟨by simp [hk], by simp [hr]⟩, by simp [hr, risesR, adj]⟩, d⟩, fun m hm => ⟨e m hm, g m (.inl hm), by simp⟩⟩, fun m hm => ?_⟩
   have := f m hm
   simp only [Bool.and_eq_true, Bool.not_eq_true'] at this
   exact ⟨this.2, g m (.inr hm), fun _ => this.1⟩
  ·rintro ⟨a, b, c, d⟩
   have h2 : o.kind = 2 := (effKind_or b).resolve_left hk
   simp only [Bool.and_eq_true, msgsOk_iff] at c
   obtain ⟨⟨⟨⟨⟨_, c2⟩, _⟩, d⟩, e⟩, f⟩ := c
   have hr : o.rows = [] := List.length_eq_zero_iff.1 (by simp [h2] at c2; simpa using c2)
   refine ⟨?_, fun m hm => hm.elim (fun h => (e m h).2.1) (fun h => (f m h).2.1)⟩
   simp only [Bool.and_eq_true, decide_eq_true_eq, List.all_eq_true]
   refine ⟨⟨a, b⟩, ⟨⟨by simp [hr], d⟩, fun m hm => (e m hm).1⟩, fun m hm => ?_⟩
   simp [(f m hm).1, (f m hm).2.2 (by simp)]
theorem right_iff {s : Sz} : s.st.right = true ↔ (1 ≤ s.next ∧ s.next ≤ 1099511627776 ∧ (s.l.length : Int) ≤ 20) ∧ ∀ (i : Nat) (o : Oz), s.l[i]? = some o → RF s i o := by
 rw [sz_right]
 simp only [Bool.and_eq_true, decide_eq_true_eq, List.all_eq_true, adj_at, once_iff]
 constructor
 ·rintro ⟨⟨⟨⟨⟨a, b⟩, c⟩, d⟩, e⟩, f⟩
  refine ⟨⟨a, b, c⟩, fun i o ho => ?_⟩
  have hr := (ob_right_iff (next := s.next)).1 ⟨d o (List.mem_of_getElem? ho), fun m hm => (f i o ho m hm).2⟩
  refine ⟨fun p hp => ?_, hr.2.2.1, hr.2.2.2, fun m hm => (f i o ho m (.inl hm)).1, fun m hm => (f i o ho m (.inr hm)).1⟩
  unfold headB
  rw [hr.1, hr.2.1]
  cases i with
  | zero => rfl
  | succ i =>
   have := e i p o hp ho
   simp [this]
 ·rintro ⟨⟨a, b, c⟩, h⟩
  have hr : ∀ (i : Nat) (o : Oz), s.l[i]? = some o → (o.x.right = true ∧ ∀ m, (m ∈ o.x.msgs ∨ m ∈ o.x.dead) → m.id < s.next) := fun i o ho => (ob_right_iff (next := s.next)).2 (by
   have hf := h i o ho
   obtain ⟨hi, _⟩ := List.getElem?_eq_some_iff.1 ho
   have h1 := hf.h1 _ (List.getElem?_eq_getElem (show i - 1 < s.l.length by omega))
   unfold headB at h1
   simp only [Bool.and_eq_true] at h1
   exact ⟨h1.1.1, h1.1.2, hf.h2, hf.rows⟩)
  refine ⟨⟨⟨⟨⟨a, b⟩, c⟩, fun o ho => ?_⟩, fun i x y hx hy => ?_⟩, fun i o ho m hm => ⟨hm.elim (fun hm => (h i o ho).c1 m hm) (fun hm => (h i o ho).c2 m hm), (hr i o ho).2 m hm⟩⟩
  ·obtain ⟨i, hi⟩ := List.mem_iff_getElem?.1 ho
   exact (hr i o hi).1
  ·have h1 := (h (i + 1) y hy).h1 x hx
   unfold headB at h1
   simp only [Bool.and_eq_true, Bool.or_eq_true, decide_eq_true_eq] at h1
   exact h1.2.resolve_left tO
theorem not_right {s : Sz} {i : Nat} {o : Oz} (ho : s.l[i]? = some o) (h : ¬ RF s i o) : s.st.right = false := by
 cases h' : s.st.right with
 | false => rfl
 | true => exact absurd ((right_iff.1 h').2 i o ho) h
set_option maxHeartbeats 3200000 in
theorem ref_RightState (s : Sz) (hok : s.ok) (hN : s.cnt s.l.length ≤ 9000000000000000000) : Fn Tryz.prog 62 [.agg s.cells.toArray].toArray (StL s) (fun v post => v = .bool s.st.right ∧ post = []) := by
 have hok' := hok
 obtain ⟨hn0, hl, hlc, hall⟩ := hok'
 refine Fn.enter (N := 161) func62 rfl ntmps62 tK rfl (fun ρ L => ?_)
 refine ky<|kl (l_box rfl rfl) ?_
 rintro _ _ ⟨b1, rfl, rfl⟩
 refine ka rfl<|zm<|ke<|ky<|kq (qO fo_47_0 rfl)<|kq (qD ck_3 rfl)<|kq (q_lt rfl rfl)<|km rfl ?_
 refine KO.dsplit 11 rfl (fun g11 => ?_) (fun g11 => ?_)
 ·refine zq<|zq<|zq<|kq (qT rfl rfl)<|km rfl<|zq<|zq<|zq<|zq<|kq (qT rfl rfl)<|zm<|K.yes rfl<|ke ?_
  have hr : s.st.right = false := right_range tO
  rw [hr]
  refine kr<|ka rfl<|zm ?_
  refine kr1 func62 results62 rfl (fun w hs => ?_)
  exact ⟨_, [], rfl, ⟨rfl, rfl⟩, hs.fitD⟩
 ·refine kq (qO fo_47_0 rfl)<|kq (qD ck_3 rfl)<|kq (q_gt rfl rfl)<|kq (qF rfl rfl)<|km rfl ?_
  refine KO.dsplit 16 rfl (fun g16 => ?_) (fun g16 => ?_)
  ·refine zq<|zq<|zq<|zq<|kq (qT rfl rfl)<|zm<|K.yes rfl<|ke ?_
   have hr : s.st.right = false := right_range tO
   rw [hr]
   refine kr<|ka rfl<|zm ?_
   refine kr1 func62 results62 rfl (fun w hs => ?_)
   exact ⟨_, [], rfl, ⟨rfl, rfl⟩, hs.fitD⟩
  ·refine kq (qO fo_47_1 rfl)<|kq (qD ck_45 rfl)<|kq (qG underlying45 rfl)<|kq (q_gt rfl rfl)<|kq (qF rfl rfl)<|zm ?_
   refine kD (s := 21) rfl (fun g21 => ?_) (fun g21 => ?_)
   ·refine ke ?_
    have hr : s.st.right = false := right_range tO
    rw [hr]
    refine kr<|ka rfl<|zm ?_
    refine kr1 func62 results62 rfl (fun w hs => ?_)
    exact ⟨_, [], rfl, ⟨rfl, rfl⟩, hs.fitD⟩
   ·refine za<|ke<|ke ?_
    have hrange : 1 ≤ s.next ∧ s.next ≤ 1099511627776 ∧ (s.l.length : Int) ≤ 20 := by omega
    refine kr<|ka rfl<|zm<|kB ?_
    refine kX (ι := { x : Nat // x ≤ s.l.length ∧ ∀ j : Nat, j < x → ∀ o : Oz, s.l[j]? = some o → RF s j o }) (fun x => [(3, .int .i64 x.1), (1, .pointer (some ⟨b1, 0, none⟩))]) (fun x => [pv b1 47 s.cells, RowF Kd.oz s.q s.l, NestF s.l] ++ L) (fun x => s.l.length - x.1) ⟨0, Nat.zero_le _, fun j hj => absurd hj (Nat.not_lt_zero _)⟩ tS (fun w h => h.fitD) (fun x ih => ?_)
    obtain ⟨i, hi, hrf⟩ := x
    dsimp only at hi hrf ⊢
    refine ke<|ky<|km rfl<|kq (qO fo_47_1 rfl)<|kq (qD ck_45 rfl)<|kq (qG underlying45 rfl)<|kq (q_lt rfl rfl)<|zm ?_
    refine kD (s := 26) rfl (fun g26 => ?_) (fun g26 => ?_)
    ·obtain ⟨o, ho⟩ : ∃ e, s.l[i]? = some e := ⟨_, List.getElem?_eq_getElem tO⟩
     have hmo := List.mem_of_getElem? ho
     have hoo := hall o hmo
     refine K.st (fun w h => nA (l := s.l) tM hmo h) ?_
     obtain ⟨p, hp⟩ : ∃ e, s.l[i - 1]? = some e := ⟨_, List.getElem?_eq_getElem tO⟩
     have hpo := hall p (List.mem_of_getElem? hp)
     obtain ⟨⟨hz1, hz2, hz3, hz4, hz5, hz6, hz7, hz8, hz9⟩, _⟩ := hoo
     obtain ⟨⟨hy1, _⟩, _⟩ := hpo
     have hz : ∀ r ∈ o.x.rows, (r.key.size : Int) ≤ 9223372036854775807 := fun r hr => by have := (hz4 r hr).1; omega
     refine za<|ke<|kB<|ky<|kq (qO fo_47_1 rfl)<|kq (qD ck_45 rfl)<|km rfl ?_
     first | refine kq (q_ix _ se_45 rfl rfl rfl isF tM rfl tL) ?_ | refine kq (q_ix _ se_45 rfl rfl rfl isO tM rfl tL) ?_
     first | refine kq (q_ldEN ck_62 rfl isF tM tE) ?_ | refine kq (q_ldEN ck_62 rfl isO tM tE) ?_
     refine kl (lL zo_62) ?_
     rintro _ _ ⟨b4, rfl, rfl⟩
     refine kN rfl (lS ck_62 rfl rfl ⟨rfl, rfl⟩ (oz_one _) tP) ?_
     rintro _ _ ⟨rfl, rfl⟩
     refine zm<|ke<|ke<|K.subE (E' := [(4, .pointer (some ⟨b4, 0, none⟩)), (3, .int .i64 i), (1, .pointer (some ⟨b1, 0, none⟩))]) tS ?_
     refine K.joinB 62 (!headB i p.x o.x) (fun cont => ?_) (fun y62 hy62 => ?_)
     ·refine K.drawU (by repeat (first | apply SubL.pers | apply SubL.own (b := b4) | apply SubL.own (b := b1) | apply SubL.drop | exact SubL.none)) mixed ?_
      refine dq 0 rfl (qO fo_62_0 rfl)<|dq 1 rfl (qD ck_9 rfl)<|dq1 2 rfl (kc rfl (h := ref_name _)) (.inr (by rintro _ _ ⟨_, ⟨rfl, rfl⟩, rfl⟩ w h; exact h.subD)) ?_
      rintro _ _ ⟨_, ⟨rfl, rfl⟩, rfl⟩
      refine dq 3 rfl (q_not rfl)<|dq 4 rfl (q_move rfl) ?_
      refine D.split 38 rfl (fun g38 => ?_) (fun g38 => ?_)
      ·refine dk 5 rfl<|dk 6 rfl<|dk 7 rfl<|dk 8 rfl<|dk 9 rfl<|dk 10 rfl<|dq 11 rfl (qT rfl rfl)<|dq 12 rfl (q_move rfl)<|dk 13 rfl<|dk 14 rfl<|dk 15 rfl<|dg 16 rfl<|dg 17 rfl<|dg 18 rfl<|dg 19 rfl<|dg 20 rfl<|dg 21 rfl<|dg 22 rfl<|dg 23 rfl<|dg 24 rfl<|dg 25 rfl<|dg 26 rfl<|dk 27 rfl<|dq 28 rfl (qT rfl rfl)<|D.done tK ?_
       exact K.subE tS (cont _ (by clear ih; rw [Bool.eq_iff_iff]; simp_all [headB] <;> first | omega | (intros; omega)))
      ·refine dq 5 rfl (qO fo_62_1 rfl)<|dq 6 rfl (qD ck_3 rfl)<|dq 7 rfl (qO fo_62_2 rfl)<|dq 8 rfl (qD ck_3 rfl)<|dq1 9 rfl (kc rfl (h := ref_kind _ _)) (.inr (by rintro _ _ ⟨_, ⟨rfl, rfl⟩, rfl⟩ w h; exact h.subD)) ?_
       rintro _ _ ⟨_, ⟨rfl, rfl⟩, rfl⟩
       refine dq 10 rfl (q_not rfl)<|dq 11 rfl (qF rfl rfl)<|dq 12 rfl (q_move rfl) ?_
       refine D.split 46 rfl (fun g46 => ?_) (fun g46 => ?_)
       ·refine dk 13 rfl<|dk 14 rfl<|dk 15 rfl<|dg 16 rfl<|dg 17 rfl<|dg 18 rfl<|dg 19 rfl<|dg 20 rfl<|dg 21 rfl<|dg 22 rfl<|dg 23 rfl<|dg 24 rfl<|dg 25 rfl<|dg 26 rfl<|dk 27 rfl<|dq 28 rfl (qT rfl rfl)<|D.done tK ?_
        exact K.subE tS (cont _ (by clear ih; rw [Bool.eq_iff_iff]; simp_all [headB] <;> first | omega | (intros; omega)))
       ·refine dq 13 rfl (q_move rfl)<|dq 14 rfl (q_gt rfl rfl)<|dq 15 rfl (q_move rfl) ?_
        refine D.dsplit 49 rfl (fun g49 => ?_) (fun g49 => ?_)
        ·have hsub : (i : Int) - 1 = ((i - 1 : Nat) : Int) := by omega
         refine dq 16 rfl (qO fo_47_1 rfl)<|dq 17 rfl (qD ck_45 rfl)<|dq 18 rfl (q_move rfl)<|dq 19 rfl (q_sub rfl rfl tN tN)<|dq 20 rfl (q_ix (i - 1) se_45 rfl rfl hsub isF tM rfl tO)<|dq 21 rfl (qE fo_62_0 rfl) ?_
         first | refine dq 22 rfl (q_ldE ck_9 rfl isF tM tE rfl) ?_ | refine dq 22 rfl (q_ldE ck_9 rfl isO tM tE rfl) ?_
         refine dq 23 rfl (qO fo_62_0 rfl)<|dq 24 rfl (qD ck_9 rfl) ?_
         refine dq1 25 rfl (kc rfl (h := ref_Keys _ _ (by first | assumption | omega) (by first | assumption | omega))) (.inr (by rintro _ _ ⟨_, ⟨rfl, rfl⟩, rfl⟩ w h; exact h.subD)) ?_
         rintro _ _ ⟨_, ⟨rfl, rfl⟩, rfl⟩
         refine dq 26 rfl (q_ge rfl rfl)<|dq 27 rfl (qT rfl rfl)<|dq 28 rfl (qF rfl rfl)<|D.done tK ?_
         exact K.subE tS (cont _ (by clear ih; rw [Bool.eq_iff_iff]; simp_all [headB] <;> first | omega | (intros; omega)))
        ·refine dk 16 rfl<|dk 17 rfl<|dk 18 rfl<|dk 19 rfl<|dk 20 rfl<|dk 21 rfl<|dk 22 rfl<|dk 23 rfl<|dk 24 rfl<|dk 25 rfl<|dk 26 rfl<|dq 27 rfl (qF rfl rfl)<|dq 28 rfl (qF rfl rfl)<|D.done tK ?_
         exact K.subE tS (cont _ (by clear ih; rw [Bool.eq_iff_iff]; simp_all [headB] <;> first | omega | (intros; omega)))
     ·refine kT (s := 62) rfl (fun g62 => ?_) (fun g62 => ?_)
      ·refine ke ?_
       have hr : s.st.right = false := not_right ho (fun hf => by rw [hy62, hf.h1 p hp] at g62; cases g62)
       rw [hr]
       refine kr<|ka rfl<|zm ?_
       refine kr1 func62 results62 rfl (fun w hs => ?_)
       exact ⟨_, [], rfl, ⟨rfl, rfl⟩, hs.fitD⟩
      ·refine za<|ke<|ke<|K.subE (E' := [(4, .pointer (some ⟨b4, 0, none⟩)), (3, .int .i64 i), (1, .pointer (some ⟨b1, 0, none⟩))]) tS ?_
       refine K.joinB 114 (!objB o.x s.next) (fun cont => ?_) (fun y114 hy114 => ?_)
       ·refine kr<|kq (qO fo_62_1 rfl)<|kq (qD ck_3 rfl)<|kq (q_eq rfl rfl)<|km rfl ?_
        refine KO.dsplit 66 rfl (fun g66 => ?_) (fun g66 => ?_)
        ·refine kq (qO fo_62_4 rfl)<|kq (qD ck_60 rfl)<|kq (qG underlying60 rfl)<|kq (qO fo_62_5 rfl)<|kq (qD ck_60 rfl)<|kq (qG underlying60 rfl)<|kq (q_add rfl rfl tN tN)<|kq (q_gt rfl rfl)<|kq (qT rfl rfl)<|km rfl ?_
         refine KO.dsplit 76 rfl (fun g76 => ?_) (fun g76 => ?_)
         ·refine zq<|zq<|zq<|zq<|KO.gone rfl<|KO.gone rfl<|KO.gone rfl<|KO.gone rfl<|zq<|kq (qT rfl rfl)<|km rfl<|zq<|zq<|zq<|zq<|kq (qT rfl rfl)<|km rfl<|zq<|zq<|zq<|zq<|kq (qT rfl rfl)<|km rfl<|zq<|zq<|zq<|zq<|zq<|zq<|kq (qT rfl rfl)<|km rfl<|zq<|zq<|zq<|zq<|zq<|zq<|kq (qT rfl rfl)<|zm ?_
          exact K.subE tS (cont _ (by clear ih; rw [Bool.eq_iff_iff]; simp_all [objB] <;> first | omega | (intros; omega)))
         ·refine kq (qO fo_62_1 rfl)<|kq (qD ck_3 rfl)<|kq (q_eq rfl rfl)<|km rfl ?_
          refine KO.dsplit 80 rfl (fun g80 => ?_) (fun g80 => ?_)
          ·refine kq (qO fo_62_3 rfl)<|kq (qD ck_59 rfl)<|kq (qG underlying59 rfl)<|kq (q_gt rfl rfl)<|kq (qT rfl rfl)<|kq (qF rfl rfl)<|km rfl ?_
           refine KO.dsplit 87 rfl (fun g87 => ?_) (fun g87 => ?_)
           ·refine zq<|zq<|zq<|zq<|kq (qT rfl rfl)<|km rfl<|zq<|zq<|zq<|zq<|kq (qT rfl rfl)<|km rfl<|zq<|zq<|zq<|zq<|zq<|zq<|kq (qT rfl rfl)<|km rfl<|zq<|zq<|zq<|zq<|zq<|zq<|kq (qT rfl rfl)<|zm ?_
            exact K.subE tS (cont _ (by clear ih; rw [Bool.eq_iff_iff]; simp_all [objB] <;> first | omega | (intros; omega)))
           ·refine kq (qO fo_62_3 rfl)<|kq (qD ck_59 rfl)<|kl (kc rfl (h := ref_Rises _ _ _ tN (by assumption))) ?_
            rintro _ _ ⟨_, ⟨rfl, rfl⟩, rfl⟩
            refine kq (q_not rfl)<|kq (qF rfl rfl)<|km rfl ?_
            refine KO.split 93 rfl (fun g93 => ?_) (fun g93 => ?_)
            ·refine zq<|zq<|zq<|zq<|kq (qT rfl rfl)<|km rfl<|zq<|zq<|zq<|zq<|zq<|zq<|kq (qT rfl rfl)<|km rfl<|zq<|zq<|zq<|zq<|zq<|zq<|kq (qT rfl rfl)<|zm ?_
             exact K.subE tS (cont _ (by clear ih; rw [Bool.eq_iff_iff]; simp_all [objB] <;> first | omega | (intros; omega)))
            ·refine kq (qO fo_62_4 rfl)<|kq (qD ck_60 rfl)<|kl (kc rfl (h := ref_RisesMsgs _ _ _ tN)) ?_
             rintro _ _ ⟨_, ⟨rfl, rfl⟩, rfl⟩
             refine kq (q_not rfl)<|kq (qF rfl rfl)<|km rfl ?_
             refine KO.split 99 rfl (fun g99 => ?_) (fun g99 => ?_)
             ·refine zq<|zq<|zq<|zq<|zq<|zq<|kq (qT rfl rfl)<|km rfl<|zq<|zq<|zq<|zq<|zq<|zq<|kq (qT rfl rfl)<|zm ?_
              exact K.subE tS (cont _ (by clear ih; rw [Bool.eq_iff_iff]; simp_all [objB] <;> first | omega | (intros; omega)))
             ·refine kq (qO fo_62_4 rfl)<|kq (qD ck_60 rfl)<|kq (qO fo_47_0 rfl)<|kq (qD ck_3 rfl)<|kl (kc rfl (h := ref_messages _ _ _ _ _ tN)) ?_
              rintro _ _ ⟨_, ⟨rfl, rfl⟩, rfl⟩
              refine kq (q_not rfl)<|kq (qF rfl rfl)<|km rfl ?_
              refine KO.split 107 rfl (fun g107 => ?_) (fun g107 => ?_)
              ·refine zq<|zq<|zq<|zq<|zq<|zq<|kq (qT rfl rfl)<|zm ?_
               exact K.subE tS (cont _ (by clear ih; rw [Bool.eq_iff_iff]; simp_all [objB] <;> first | omega | (intros; omega)))
              ·refine kq (qO fo_62_5 rfl)<|kq (qD ck_60 rfl)<|kq (qO fo_47_0 rfl)<|kq (qD ck_3 rfl)<|kl (kc rfl (h := ref_messages _ _ _ _ _ tN)) ?_
               rintro _ _ ⟨_, ⟨rfl, rfl⟩, rfl⟩
               refine kq (q_not rfl)<|kq (qF rfl rfl)<|zm ?_
               exact K.subE tS (cont _ (by clear ih; rw [Bool.eq_iff_iff]; simp_all [objB] <;> first | omega | (intros; omega)))
          ·refine zq<|zq<|zq<|zq<|kq (qF rfl rfl)<|kq (qF rfl rfl)<|km rfl<|kq (qO fo_62_3 rfl)<|kq (qD ck_59 rfl)<|kl (kc rfl (h := ref_Rises _ _ _ tN (by assumption))) ?_
           rintro _ _ ⟨_, ⟨rfl, rfl⟩, rfl⟩
           refine kq (q_not rfl)<|kq (qF rfl rfl)<|km rfl ?_
           refine KO.split 93 rfl (fun g93 => ?_) (fun g93 => ?_)
           ·refine zq<|zq<|zq<|zq<|kq (qT rfl rfl)<|km rfl<|zq<|zq<|zq<|zq<|zq<|zq<|kq (qT rfl rfl)<|km rfl<|zq<|zq<|zq<|zq<|zq<|zq<|kq (qT rfl rfl)<|zm ?_
            exact K.subE tS (cont _ (by clear ih; rw [Bool.eq_iff_iff]; simp_all [objB] <;> first | omega | (intros; omega)))
           ·refine kq (qO fo_62_4 rfl)<|kq (qD ck_60 rfl)<|kl (kc rfl (h := ref_RisesMsgs _ _ _ tN)) ?_
            rintro _ _ ⟨_, ⟨rfl, rfl⟩, rfl⟩
            refine kq (q_not rfl)<|kq (qF rfl rfl)<|km rfl ?_
            refine KO.split 99 rfl (fun g99 => ?_) (fun g99 => ?_)
            ·refine zq<|zq<|zq<|zq<|zq<|zq<|kq (qT rfl rfl)<|km rfl<|zq<|zq<|zq<|zq<|zq<|zq<|kq (qT rfl rfl)<|zm ?_
             exact K.subE tS (cont _ (by clear ih; rw [Bool.eq_iff_iff]; simp_all [objB] <;> first | omega | (intros; omega)))
            ·refine kq (qO fo_62_4 rfl)<|kq (qD ck_60 rfl)<|kq (qO fo_47_0 rfl)<|kq (qD ck_3 rfl)<|kl (kc rfl (h := ref_messages _ _ _ _ _ tN)) ?_
             rintro _ _ ⟨_, ⟨rfl, rfl⟩, rfl⟩
             refine kq (q_not rfl)<|kq (qF rfl rfl)<|km rfl ?_
             refine KO.split 107 rfl (fun g107 => ?_) (fun g107 => ?_)
             ·refine zq<|zq<|zq<|zq<|zq<|zq<|kq (qT rfl rfl)<|zm ?_
              exact K.subE tS (cont _ (by clear ih; rw [Bool.eq_iff_iff]; simp_all [objB] <;> first | omega | (intros; omega)))
             ·refine kq (qO fo_62_5 rfl)<|kq (qD ck_60 rfl)<|kq (qO fo_47_0 rfl)<|kq (qD ck_3 rfl)<|kl (kc rfl (h := ref_messages _ _ _ _ _ tN)) ?_
              rintro _ _ ⟨_, ⟨rfl, rfl⟩, rfl⟩
              refine kq (q_not rfl)<|kq (qF rfl rfl)<|zm ?_
              exact K.subE tS (cont _ (by clear ih; rw [Bool.eq_iff_iff]; simp_all [objB] <;> first | omega | (intros; omega)))
        ·refine zq<|zq<|zq<|zq<|zq<|zq<|zq<|zq<|kq (qF rfl rfl)<|km rfl<|kq (qO fo_62_1 rfl)<|kq (qD ck_3 rfl)<|kq (q_eq rfl rfl)<|km rfl ?_
         refine KO.dsplit 80 rfl (fun g80 => ?_) (fun g80 => ?_)
         ·refine kq (qO fo_62_3 rfl)<|kq (qD ck_59 rfl)<|kq (qG underlying59 rfl)<|kq (q_gt rfl rfl)<|kq (qT rfl rfl)<|kq (qF rfl rfl)<|km rfl ?_
          refine KO.dsplit 87 rfl (fun g87 => ?_) (fun g87 => ?_)
          ·refine zq<|zq<|zq<|zq<|kq (qT rfl rfl)<|km rfl<|zq<|zq<|zq<|zq<|kq (qT rfl rfl)<|km rfl<|zq<|zq<|zq<|zq<|zq<|zq<|kq (qT rfl rfl)<|km rfl<|zq<|zq<|zq<|zq<|zq<|zq<|kq (qT rfl rfl)<|zm ?_
           exact K.subE tS (cont _ (by clear ih; rw [Bool.eq_iff_iff]; simp_all [objB] <;> first | omega | (intros; omega)))
          ·refine kq (qO fo_62_3 rfl)<|kq (qD ck_59 rfl)<|kl (kc rfl (h := ref_Rises _ _ _ tN (by assumption))) ?_
           rintro _ _ ⟨_, ⟨rfl, rfl⟩, rfl⟩
           refine kq (q_not rfl)<|kq (qF rfl rfl)<|km rfl ?_
           refine KO.split 93 rfl (fun g93 => ?_) (fun g93 => ?_)
           ·refine zq<|zq<|zq<|zq<|kq (qT rfl rfl)<|km rfl<|zq<|zq<|zq<|zq<|zq<|zq<|kq (qT rfl rfl)<|km rfl<|zq<|zq<|zq<|zq<|zq<|zq<|kq (qT rfl rfl)<|zm ?_
            exact K.subE tS (cont _ (by clear ih; rw [Bool.eq_iff_iff]; simp_all [objB] <;> first | omega | (intros; omega)))
           ·refine kq (qO fo_62_4 rfl)<|kq (qD ck_60 rfl)<|kl (kc rfl (h := ref_RisesMsgs _ _ _ tN)) ?_
            rintro _ _ ⟨_, ⟨rfl, rfl⟩, rfl⟩
            refine kq (q_not rfl)<|kq (qF rfl rfl)<|km rfl ?_
            refine KO.split 99 rfl (fun g99 => ?_) (fun g99 => ?_)
            ·refine zq<|zq<|zq<|zq<|zq<|zq<|kq (qT rfl rfl)<|km rfl<|zq<|zq<|zq<|zq<|zq<|zq<|kq (qT rfl rfl)<|zm ?_
             exact K.subE tS (cont _ (by clear ih; rw [Bool.eq_iff_iff]; simp_all [objB] <;> first | omega | (intros; omega)))
            ·refine kq (qO fo_62_4 rfl)<|kq (qD ck_60 rfl)<|kq (qO fo_47_0 rfl)<|kq (qD ck_3 rfl)<|kl (kc rfl (h := ref_messages _ _ _ _ _ tN)) ?_
             rintro _ _ ⟨_, ⟨rfl, rfl⟩, rfl⟩
             refine kq (q_not rfl)<|kq (qF rfl rfl)<|km rfl ?_
             refine KO.split 107 rfl (fun g107 => ?_) (fun g107 => ?_)
             ·refine zq<|zq<|zq<|zq<|zq<|zq<|kq (qT rfl rfl)<|zm ?_
              exact K.subE tS (cont _ (by clear ih; rw [Bool.eq_iff_iff]; simp_all [objB] <;> first | omega | (intros; omega)))
             ·refine kq (qO fo_62_5 rfl)<|kq (qD ck_60 rfl)<|kq (qO fo_47_0 rfl)<|kq (qD ck_3 rfl)<|kl (kc rfl (h := ref_messages _ _ _ _ _ tN)) ?_
              rintro _ _ ⟨_, ⟨rfl, rfl⟩, rfl⟩
              refine kq (q_not rfl)<|kq (qF rfl rfl)<|zm ?_
              exact K.subE tS (cont _ (by clear ih; rw [Bool.eq_iff_iff]; simp_all [objB] <;> first | omega | (intros; omega)))
         ·refine zq<|zq<|zq<|zq<|kq (qF rfl rfl)<|kq (qF rfl rfl)<|km rfl<|kq (qO fo_62_3 rfl)<|kq (qD ck_59 rfl)<|kl (kc rfl (h := ref_Rises _ _ _ tN (by assumption))) ?_
          rintro _ _ ⟨_, ⟨rfl, rfl⟩, rfl⟩
          refine kq (q_not rfl)<|kq (qF rfl rfl)<|km rfl ?_
          refine KO.split 93 rfl (fun g93 => ?_) (fun g93 => ?_)
          ·refine zq<|zq<|zq<|zq<|kq (qT rfl rfl)<|km rfl<|zq<|zq<|zq<|zq<|zq<|zq<|kq (qT rfl rfl)<|km rfl<|zq<|zq<|zq<|zq<|zq<|zq<|kq (qT rfl rfl)<|zm ?_
           exact K.subE tS (cont _ (by clear ih; rw [Bool.eq_iff_iff]; simp_all [objB] <;> first | omega | (intros; omega)))
          ·refine kq (qO fo_62_4 rfl)<|kq (qD ck_60 rfl)<|kl (kc rfl (h := ref_RisesMsgs _ _ _ tN)) ?_
           rintro _ _ ⟨_, ⟨rfl, rfl⟩, rfl⟩
           refine kq (q_not rfl)<|kq (qF rfl rfl)<|km rfl ?_
           refine KO.split 99 rfl (fun g99 => ?_) (fun g99 => ?_)
           ·refine zq<|zq<|zq<|zq<|zq<|zq<|kq (qT rfl rfl)<|km rfl<|zq<|zq<|zq<|zq<|zq<|zq<|kq (qT rfl rfl)<|zm ?_
            exact K.subE tS (cont _ (by clear ih; rw [Bool.eq_iff_iff]; simp_all [objB] <;> first | omega | (intros; omega)))
           ·refine kq (qO fo_62_4 rfl)<|kq (qD ck_60 rfl)<|kq (qO fo_47_0 rfl)<|kq (qD ck_3 rfl)<|kl (kc rfl (h := ref_messages _ _ _ _ _ tN)) ?_
            rintro _ _ ⟨_, ⟨rfl, rfl⟩, rfl⟩
            refine kq (q_not rfl)<|kq (qF rfl rfl)<|km rfl ?_
            refine KO.split 107 rfl (fun g107 => ?_) (fun g107 => ?_)
            ·refine zq<|zq<|zq<|zq<|zq<|zq<|kq (qT rfl rfl)<|zm ?_
             exact K.subE tS (cont _ (by clear ih; rw [Bool.eq_iff_iff]; simp_all [objB] <;> first | omega | (intros; omega)))
            ·refine kq (qO fo_62_5 rfl)<|kq (qD ck_60 rfl)<|kq (qO fo_47_0 rfl)<|kq (qD ck_3 rfl)<|kl (kc rfl (h := ref_messages _ _ _ _ _ tN)) ?_
             rintro _ _ ⟨_, ⟨rfl, rfl⟩, rfl⟩
             refine kq (q_not rfl)<|kq (qF rfl rfl)<|zm ?_
             exact K.subE tS (cont _ (by clear ih; rw [Bool.eq_iff_iff]; simp_all [objB] <;> first | omega | (intros; omega)))
       ·refine kT (s := 114) rfl (fun g114 => ?_) (fun g114 => ?_)
        ·refine ke ?_
         have hr : s.st.right = false := not_right ho (fun hf => by rw [hy114, hf.h2] at g114; cases g114)
         rw [hr]
         refine kr<|ka rfl<|zm ?_
         refine kr1 func62 results62 rfl (fun w hs => ?_)
         exact ⟨_, [], rfl, ⟨rfl, rfl⟩, hs.fitD⟩
        ·refine za<|ke<|ke ?_
         have hh1 : headB i p.x o.x = true := by rw [g62] at hy62; simpa using hy62.symm
         have hh2 : objB o.x s.next = true := by rw [g114] at hy114; simpa using hy114.symm
         refine kr<|ka rfl<|zm<|kB ?_
         refine kX (ι := { x : Nat // x ≤ o.x.rows.length ∧ (o.x.rows.take x).all Rw.right = true }) (fun x => [(5, .int .i64 x.1), (4, .pointer (some ⟨b4, 0, none⟩)), (3, .int .i64 i), (1, .pointer (some ⟨b1, 0, none⟩))]) (fun x => pv b4 62 o.cells :: ObL o ++ [pv b1 47 s.cells, RowF Kd.oz s.q s.l, NestF s.l] ++ L) (fun x => o.x.rows.length - x.1) ⟨0, Nat.zero_le _, rfl⟩ tS (fun w h => h.fitD) (fun x ih2 => ?_)
         obtain ⟨k, hk, hra⟩ := x
         dsimp only at hk hra ⊢
         refine ke<|ky<|km rfl<|kq (qO fo_62_3 rfl)<|kq (qD ck_59 rfl)<|kq (qG underlying59 rfl)<|kq (q_lt rfl rfl)<|zm ?_
         refine kD (s := 119) rfl (fun g119 => ?_) (fun g119 => ?_)
         ·obtain ⟨r, hr⟩ : ∃ e, o.x.rows[k]? = some e := ⟨_, List.getElem?_eq_getElem tO⟩
          refine za<|ke<|kB<|ky<|kq (qO fo_62_3 rfl)<|kq (qD ck_59 rfl)<|km rfl ?_
          first | refine kq (q_ix _ se_59 rfl rfl rfl isF tM rfl tL) ?_ | refine kq (q_ix _ se_59 rfl rfl rfl isO tM rfl tL) ?_
          first | refine kq (q_ldEN ck_136 rfl isF tM tE) ?_ | refine kq (q_ldEN ck_136 rfl isO tM tE) ?_
          refine kl (kc rfl (h := ref_RightRow _)) ?_
          rintro _ _ ⟨_, ⟨rfl, rfl⟩, rfl⟩
          refine kq (q_not rfl)<|zm ?_
          refine kT (s := 128) rfl (fun g128 => ?_) (fun g128 => ?_)
          ·refine ke ?_
           have hr : s.st.right = false := not_right ho (fun hf => by
            have := List.all_eq_true.1 hf.rows r (List.mem_of_getElem? hr)
            simp [this] at g128)
           rw [hr]
           refine kr<|ka rfl<|zm ?_
           refine kr1 func62 results62 rfl (fun w hs => ?_)
           exact ⟨_, [], rfl, ⟨rfl, rfl⟩, hs.fitD⟩
          ·refine za<|zd<|kr<|km rfl<|kq (q_add rfl rfl tN tN)<|ka rfl<|zm ?_
           refine K.weak tS (fun w h => h.fitD) (ih2 ⟨k + 1, by omega, by rw [all_take_succ hr, hra]; simpa using g128⟩ (by show o.x.rows.length - (k + 1) < o.x.rows.length - k; omega))
         ·obtain rfl : k = o.x.rows.length := by omega
          rw [List.take_length] at hra
          refine K.exit rfl<|ke<|ky<|ka rfl<|zm<|kB ?_
          refine kX (ι := { x : Nat // x ≤ o.x.msgs.length ∧ ∀ m ∈ o.x.msgs.take x, s.st.ids.count m.id = 1 }) (fun x => [(6, .int .i64 x.1), (4, .pointer (some ⟨b4, 0, none⟩)), (3, .int .i64 i), (1, .pointer (some ⟨b1, 0, none⟩))]) (fun x => pv b4 62 o.cells :: ObL o ++ [pv b1 47 s.cells, RowF Kd.oz s.q s.l, NestF s.l] ++ L) (fun x => o.x.msgs.length - x.1) ⟨0, Nat.zero_le _, by simp⟩ tS (fun w h => h.fitD) (fun x ih3 => ?_)
          obtain ⟨k2, hk2, hma⟩ := x
          dsimp only at hk2 hma ⊢
          refine ke<|ky<|km rfl<|kq (qO fo_62_4 rfl)<|kq (qD ck_60 rfl)<|kq (qG underlying60 rfl)<|kq (q_lt rfl rfl)<|zm ?_
          refine kD (s := 133) rfl (fun g133 => ?_) (fun g133 => ?_)
          ·obtain ⟨m, hm⟩ : ∃ e, o.x.msgs[k2]? = some e := ⟨_, List.getElem?_eq_getElem tO⟩
           refine za<|ke<|kB<|ke ?_
           refine K.drawU (by repeat (first | apply SubL.pers | apply SubL.own (b := b1) | apply SubL.own (b := b4) | apply SubL.drop | exact SubL.none)) mixed ?_
           refine dq 0 rfl (qL ck_47 rfl rfl tC)<|dq 1 rfl (qO fo_62_4 rfl)<|dq 2 rfl (qD ck_60 rfl)<|dq 3 rfl (q_move rfl) ?_
           first | refine dq 4 rfl (q_ix _ se_60 rfl rfl rfl isF tM rfl tL) ?_ | refine dq 4 rfl (q_ix _ se_60 rfl rfl rfl isO tM rfl tL) ?_
           refine dq 5 rfl (qE fo_56_0 rfl) ?_
           first | refine dq 6 rfl (q_ldE ck_3 rfl isF tM tE rfl) ?_ | refine dq 6 rfl (q_ldE ck_3 rfl isO tM tE rfl) ?_
           refine dq1 7 rfl (kc rfl (h := ref_total _ _ (by assumption) (by assumption))) (.inr (by rintro _ _ ⟨_, ⟨rfl, rfl⟩, rfl⟩ w h; exact h.subD)) ?_
           rintro _ _ ⟨_, ⟨rfl, rfl⟩, rfl⟩
           refine dq 8 rfl (q_ne rfl rfl)<|D.done tK ?_
           refine kD (s := 144) rfl (fun g144 => ?_) (fun g144 => ?_)
           ·refine ke ?_
            have hr : s.st.right = false := not_right ho (fun hf => by
             have := hf.c1 m (List.mem_of_getElem? hm)
             rw [this] at g144
             exact g144 rfl)
            rw [hr]
            refine kr<|ka rfl<|zm ?_
            refine kr1 func62 results62 rfl (fun w hs => ?_)
            exact ⟨_, [], rfl, ⟨rfl, rfl⟩, hs.fitD⟩
           ·refine za<|zd<|kr<|km rfl<|kq (q_add rfl rfl tN tN)<|ka rfl<|zm ?_
            refine K.weak tS (fun w h => h.fitD) (ih3 ⟨k2 + 1, by omega, fun x hx => by
             rw [List.take_add_one, hm] at hx
             rcases List.mem_append.1 hx with h | h
             ·exact hma x h
             ·rw [List.mem_singleton.1 h]; have := Decidable.not_not.1 g144; omega⟩ (by show o.x.msgs.length - (k2 + 1) < o.x.msgs.length - k2; omega))
          ·obtain rfl : k2 = o.x.msgs.length := by omega
           rw [List.take_length] at hma
           refine K.exit rfl<|ky<|ka rfl<|zm<|kB ?_
           refine kX (ι := { x : Nat // x ≤ o.x.dead.length ∧ ∀ m ∈ o.x.dead.take x, s.st.ids.count m.id = 1 }) (fun x => [(7, .int .i64 x.1), (4, .pointer (some ⟨b4, 0, none⟩)), (3, .int .i64 i), (1, .pointer (some ⟨b1, 0, none⟩))]) (fun x => pv b4 62 o.cells :: ObL o ++ [pv b1 47 s.cells, RowF Kd.oz s.q s.l, NestF s.l] ++ L) (fun x => o.x.dead.length - x.1) ⟨0, Nat.zero_le _, by simp⟩ tS (fun w h => h.fitD) (fun x ih4 => ?_)
           obtain ⟨k3, hk3, hda⟩ := x
           dsimp only at hk3 hda ⊢
           refine ke<|ky<|km rfl<|kq (qO fo_62_5 rfl)<|kq (qD ck_60 rfl)<|kq (qG underlying60 rfl)<|kq (q_lt rfl rfl)<|zm ?_
           refine kD (s := 149) rfl (fun g149 => ?_) (fun g149 => ?_)
           ·obtain ⟨m, hm⟩ : ∃ e, o.x.dead[k3]? = some e := ⟨_, List.getElem?_eq_getElem tO⟩
            refine za<|ke<|kB<|ke ?_
            refine K.drawU (by repeat (first | apply SubL.pers | apply SubL.own (b := b1) | apply SubL.own (b := b4) | apply SubL.drop | exact SubL.none)) mixed ?_
            refine dq 0 rfl (qL ck_47 rfl rfl tC)<|dq 1 rfl (qO fo_62_5 rfl)<|dq 2 rfl (qD ck_60 rfl)<|dq 3 rfl (q_move rfl) ?_
            first | refine dq 4 rfl (q_ix _ se_60 rfl rfl rfl isF tM rfl tL) ?_ | refine dq 4 rfl (q_ix _ se_60 rfl rfl rfl isO tM rfl tL) ?_
            refine dq 5 rfl (qE fo_56_0 rfl) ?_
            first | refine dq 6 rfl (q_ldE ck_3 rfl isF tM tE rfl) ?_ | refine dq 6 rfl (q_ldE ck_3 rfl isO tM tE rfl) ?_
            refine dq1 7 rfl (kc rfl (h := ref_total _ _ (by assumption) (by assumption))) (.inr (by rintro _ _ ⟨_, ⟨rfl, rfl⟩, rfl⟩ w h; exact h.subD)) ?_
            rintro _ _ ⟨_, ⟨rfl, rfl⟩, rfl⟩
            refine dq 8 rfl (q_ne rfl rfl)<|D.done tK ?_
            refine kD (s := 160) rfl (fun g160 => ?_) (fun g160 => ?_)
            ·refine ke ?_
             have hr : s.st.right = false := not_right ho (fun hf => by
              have := hf.c2 m (List.mem_of_getElem? hm)
              rw [this] at g160
              exact g160 rfl)
             rw [hr]
             refine kr<|ka rfl<|zm ?_
             refine kr1 func62 results62 rfl (fun w hs => ?_)
             exact ⟨_, [], rfl, ⟨rfl, rfl⟩, hs.fitD⟩
            ·refine za<|zd<|kr<|km rfl<|kq (q_add rfl rfl tN tN)<|ka rfl<|zm ?_
             refine K.weak tS (fun w h => h.fitD) (ih4 ⟨k3 + 1, by omega, fun x hx => by
              rw [List.take_add_one, hm] at hx
              rcases List.mem_append.1 hx with h | h
              ·exact hda x h
              ·rw [List.mem_singleton.1 h]; have := Decidable.not_not.1 g160; omega⟩ (by show o.x.dead.length - (k3 + 1) < o.x.dead.length - k3; omega))
           ·obtain rfl : k3 = o.x.dead.length := by omega
            rw [List.take_length] at hda
            have hthis : RF s i o := ⟨fun p' hp' => by rw [hp] at hp'; obtain rfl := Option.some.inj hp'; exact hh1, hh2, hra, hma, hda⟩
            refine K.exit rfl<|zd<|kr<|km rfl<|kq (q_add rfl rfl tN tN)<|ka rfl<|zm ?_
            refine K.weak tS (fun w h => h.fitD) (ih ⟨i + 1, by omega, fun j hj o' ho' => by
             by_cases e : j < i
             ·exact hrf j e o' ho'
             ·obtain rfl : j = i := by omega
              rw [ho] at ho'; obtain rfl := Option.some.inj ho'; exact hthis⟩ (by show s.l.length - (i + 1) < s.l.length - i; omega))
    ·obtain rfl : i = s.l.length := by omega
     have hr : s.st.right = true := right_iff.2 ⟨hrange, fun j o ho => hrf j (List.getElem?_eq_some_iff.1 ho).1 o ho⟩
     rw [hr]
     refine K.exit rfl<|ky<|ka rfl<|zm ?_
     refine kr1 func62 results62 rfl (fun w hs => ?_)
     exact ⟨_, [], rfl, ⟨rfl, rfl⟩, hs.fitD⟩
theorem pv_effs {ρ : World} {L : List HP} {w : World} {b t : Nat} {cs : List Value} (xs : List Eff) (hcs : cs = xs.flatMap Eff.cells) (h : St ρ (pv b t cs :: L) w) : St ρ (RowF Kd.eff (some ⟨b, 0, none⟩) xs :: L) w := pv_flat xs hcs h
set_option maxHeartbeats 1600000 in
theorem st_Claims (s : Sz) (n : Nat) (hs : s.good n) (hn : (claimsS s.st).length ≤ 100000000) (hn2 : n ≤ 100000000) : Fn Tryz.prog 43 [.agg s.cells.toArray].toArray (StL s) (fun r post => ∃ po co, r = .slice po (claimsS s.st).length co ∧ post = [RowO Kd.eff 58 po co (claimsS s.st)]) := by
 have hlen := Sz.len_of hs.sm
 have hcl : claimsS s.st = s.l.flatMap (fun o => claimsO o.x) := by
  show (s.l.map (·.x)).flatMap claimsO = _
  rw [List.flatMap_map]
 rw [hcl] at hn
 refine Fn.enter (N := 35) func43 rfl ntmps43 tK rfl (fun ρ L => ?_)
 refine ky<|kl (l_box rfl rfl) ?_
 rintro _ _ ⟨b1, rfl, rfl⟩
 refine ka rfl<|kz<|ka rfl<|zm<|ke<|ky<|kq (qO fo_47_1 rfl)<|kq (qD ck_45 rfl)<|kq (qG underlying45 rfl)<|km rfl<|zm<|kB ?_
 refine kX (ι := { x : Nat × Option Addr × Nat // x.1 ≤ s.l.length }) (fun x => [(11, .int .i64 x.1.1), (10, .int .i64 s.l.length), (9, .slice s.q s.l.length s.c), (3, .slice x.1.2.1 ((s.l.take x.1.1).flatMap (fun o => claimsO o.x)).length x.1.2.2)]) (fun x => RowO Kd.eff 58 x.1.2.1 x.1.2.2 ((s.l.take x.1.1).flatMap (fun o => claimsO o.x)) :: StL s ++ L) (fun x => s.l.length - x.1.1) ⟨(0, none, 0), Nat.zero_le _⟩ tS (fun w h => rowO_nil (k := Kd.eff) 58 (h.fit (M := StL s) tG (by repeat (first | exact Drop.refl | apply Drop.skip)))) (fun x ih => ?_)
 obtain ⟨⟨i, po, co⟩, hi⟩ := x
 dsimp only at hi ⊢
 have hol := flatMap_take_le (fun o : Oz => claimsO o.x) s.l i
 obtain ⟨A, hA⟩ : ∃ A, A = (s.l.take i).flatMap (fun o => claimsO o.x) := ⟨_, rfl⟩
 rw [← hA] at hol ⊢
 refine ky<|kq (q_lt rfl rfl)<|zm<|ke ?_
 refine kD (s := 12) rfl (fun g12 => ?_) (fun g12 => ?_)
 ·obtain ⟨o, ho⟩ : ∃ o, s.l[i]? = some o := ⟨_, List.getElem?_eq_getElem tO⟩
  have hmo := List.mem_of_getElem? ho
  have hos := flatMap_take_succ (fun o : Oz => claimsO o.x) ho
  rw [← hA] at hos
  have hol2 := flatMap_take_le (fun o : Oz => claimsO o.x) s.l (i + 1)
  have hom := (hs.sm.oz hmo).2.2.1
  refine K.st (fun w h => nA (l := s.l) tM hmo h)<|za<|ke<|kB<|ke<|kr ?_
  first | refine kq (q_ix _ se_45 rfl rfl rfl isF tM rfl tL) ?_ | refine kq (q_ix _ se_45 rfl rfl rfl isO tM rfl tL) ?_
  first | refine kq (q_ldEN ck_62 rfl isF tM tE) ?_ | refine kq (q_ldEN ck_62 rfl isO tM tE) ?_
  refine kl (lL zo_62) ?_
  rintro _ _ ⟨b5, rfl, rfl⟩
  refine kN rfl (lS ck_62 rfl rfl ⟨rfl, rfl⟩ (oz_one _) tP) ?_
  rintro _ _ ⟨rfl, rfl⟩
  refine kz<|kq (qO fo_62_4 rfl)<|kq (qD ck_60 rfl)<|kq (qG underlying60 rfl)<|km rfl<|zm<|kB ?_
  refine kX (ι := { x : Nat × Option Addr × Nat // x.1 ≤ o.x.msgs.length }) (fun x => [(18, .int .i64 x.1.1), (17, .int .i64 o.x.msgs.length), (16, .slice o.z.q2 o.x.msgs.length o.z.c2), (3, .slice x.1.2.1 (A ++ claimsO { o.x with msgs := o.x.msgs.take x.1.1 }).length x.1.2.2), (5, .pointer (some ⟨b5, 0, none⟩)), (11, .int .i64 i), (10, .int .i64 s.l.length), (9, .slice s.q s.l.length s.c)]) (fun x => RowO Kd.eff 58 x.1.2.1 x.1.2.2 (A ++ claimsO { o.x with msgs := o.x.msgs.take x.1.1 }) :: RowF Kd.msg o.z.q2 o.x.msgs :: pv b5 62 o.cells :: StL s ++ L) (fun x => o.x.msgs.length - x.1.1) ⟨(0, po, co), Nat.zero_le _⟩ (by rw [show A ++ claimsO { o.x with msgs := o.x.msgs.take 0 } = A from List.append_nil _]; exact tS) (fun w h => by rw [show A ++ claimsO { o.x with msgs := o.x.msgs.take 0 } = A from List.append_nil _]; exact h.fitD) (fun x ih2 => ?_)
  obtain ⟨⟨j, px, cx⟩, hj⟩ := x
  dsimp only at hj ⊢
  obtain ⟨B, hB⟩ : ∃ B, B = A ++ claimsO { o.x with msgs := o.x.msgs.take j } := ⟨_, rfl⟩
  have hcj : (claimsO { o.x with msgs := o.x.msgs.take j }).length ≤ n := by
   unfold claimsO
   rw [List.length_map]
   refine Nat.le_trans (List.length_filter_le _ _) ?_
   show (o.x.msgs.take j).length ≤ n
   rw [List.length_take]; omega
  have hBl : B.length ≤ 1000000000 := by rw [hB, List.length_append]; omega
  rw [← hB]
  refine ky<|kq (q_lt rfl rfl)<|zm<|ke ?_
  refine kD (s := 19) rfl (fun g19 => ?_) (fun g19 => ?_)
  ·obtain ⟨m, hm⟩ : ∃ m, o.x.msgs[j]? = some m := ⟨_, List.getElem?_eq_getElem tO⟩
   have hcs : claimsO { o.x with msgs := o.x.msgs.take (j + 1) } = claimsO { o.x with msgs := o.x.msgs.take j } ++ (if m.claimed = true then [⟨7, o.x.name, ⟨#[]⟩, ⟨#[]⟩, m.id, 0, true, ⟨0, 0, 0, false, ⟨#[]⟩, ⟨#[]⟩⟩⟩] else []) := by
    unfold claimsO
    show ((o.x.msgs.take (j + 1)).filter _).map _ = ((o.x.msgs.take j).filter _).map _ ++ _
    rw [filter_take_succ (fun m : Msg => m.claimed) hm, List.map_append]
    cases hmc : m.claimed <;> simp [hmc]
   refine za<|ke<|kB<|ke<|kr ?_
   first | refine kq (q_ix _ se_60 rfl rfl rfl isF tM rfl tL) ?_ | refine kq (q_ix _ se_60 rfl rfl rfl isO tM rfl tL) ?_
   first | refine kq (q_ldEN ck_56 rfl isF tM tE) ?_ | refine kq (q_ldEN ck_56 rfl isO tM tE) ?_
   refine kl (lL zo_56) ?_
   rintro _ _ ⟨b7, rfl, rfl⟩
   refine kN rfl (lS ck_56 rfl rfl ⟨rfl, rfl⟩ (msg_one _) tP) ?_
   rintro _ _ ⟨rfl, rfl⟩
   refine kz<|kq (qO fo_56_3 rfl)<|kq (qD ck_4 rfl)<|zm ?_
   first | refine kD (s := 23) rfl (fun g23 => ?_) (fun g23 => ?_) | refine kT (s := 23) rfl (fun g23 => ?_) (fun g23 => ?_)
   ·have hmc : m.claimed = true := by simpa using g23
    have hz : A ++ claimsO { o.x with msgs := o.x.msgs.take (j + 1) } = B ++ [⟨7, o.x.name, ⟨#[]⟩, ⟨#[]⟩, m.id, 0, true, ⟨0, 0, 0, false, ⟨#[]⟩, ⟨#[]⟩⟩⟩] := by rw [hcs, if_pos hmc, ← List.append_assoc, ← hB]
    refine kr<|km rfl<|kq (qO fo_62_0 rfl)<|kq (qD ck_9 rfl)<|kq (qO fo_56_0 rfl)<|kq (qD ck_3 rfl)<|kq (q_as_eff (q_build st_58 rfl tF) (by rfl))<|kl (lO sz_64_1 rfl rfl ⟨rfl, rfl, rfl⟩) ?_
    rintro _ _ ⟨b30, rfl, rfl⟩
    refine kl (lX Kd.eff (ys := [⟨7, o.x.name, ⟨#[]⟩, ⟨#[]⟩, m.id, 0, true, ⟨0, 0, 0, false, ⟨#[]⟩, ⟨#[]⟩⟩⟩]) se_64 underlying64 ⟨_, ze_58, rfl⟩ tD rfl rfl tP isP tM rfl rfl (by show (2 * (B.length + 1) + 768) * _ ≤ _; omega)) ?_
    rintro _ _ ⟨pn, dn, rfl, rfl⟩
    refine ka rfl<|zm<|zd<|kr<|kq (q_add rfl rfl tN tN)<|km rfl<|zm ?_
    exact K.weak (E' := [(18, .int .i64 ((j + 1 : Nat) : Int)), (17, .int .i64 o.x.msgs.length), (16, .slice o.z.q2 o.x.msgs.length o.z.c2), (3, .slice pn (A ++ claimsO { o.x with msgs := o.x.msgs.take (j + 1) }).length dn), (5, .pointer (some ⟨b5, 0, none⟩)), (11, .int .i64 i), (10, .int .i64 s.l.length), (9, .slice s.q s.l.length s.c)]) (by rw [hz]; exact tS) (fun w h => by rw [hz]; exact h.fitD) (ih2 ⟨(j + 1, pn, dn), by show j + 1 ≤ _; omega⟩ (by show o.x.msgs.length - (j + 1) < o.x.msgs.length - j; omega))
   ·have hmc : ¬ m.claimed = true := by simpa using g23
    have hz : A ++ claimsO { o.x with msgs := o.x.msgs.take (j + 1) } = B := by rw [hcs, if_neg hmc, List.append_nil, ← hB]
    refine za<|zd<|kr<|kq (q_add rfl rfl tN tN)<|km rfl<|zm ?_
    exact K.weak (E' := [(18, .int .i64 ((j + 1 : Nat) : Int)), (17, .int .i64 o.x.msgs.length), (16, .slice o.z.q2 o.x.msgs.length o.z.c2), (3, .slice px (A ++ claimsO { o.x with msgs := o.x.msgs.take (j + 1) }).length cx), (5, .pointer (some ⟨b5, 0, none⟩)), (11, .int .i64 i), (10, .int .i64 s.l.length), (9, .slice s.q s.l.length s.c)]) (by rw [hz]; exact tS) (fun w h => by rw [hz]; exact h.fitD) (ih2 ⟨(j + 1, px, cx), by show j + 1 ≤ _; omega⟩ (by show o.x.msgs.length - (j + 1) < o.x.msgs.length - j; omega))
  ·obtain rfl : j = o.x.msgs.length := by omega
   have hBA : (s.l.take (i + 1)).flatMap (fun o => claimsO o.x) = B := by rw [hos, hB, List.take_length]
   clear ih2
   refine K.exit rfl<|zd<|kr<|kq (q_add rfl rfl tN tN)<|km rfl<|zm ?_
   exact K.weak (E' := [(11, .int .i64 ((i + 1 : Nat) : Int)), (10, .int .i64 s.l.length), (9, .slice s.q s.l.length s.c), (3, .slice px ((s.l.take (i + 1)).flatMap (fun o => claimsO o.x)).length cx)]) (by rw [hBA]; exact tS) (fun w h => by rw [hBA]; exact h.fitD) (ih ⟨(i + 1, px, cx), by show i + 1 ≤ _; omega⟩ (by show s.l.length - (i + 1) < s.l.length - i; omega))
 ·obtain rfl : i = s.l.length := by omega
  rw [List.take_length] at hA
  have hfin : claimsS s.st = A := by rw [hcl, hA]
  clear ih
  refine K.exit rfl<|ky<|km rfl<|ka rfl<|zm ?_
  refine kr1 func43 results43 rfl (fun w hs => ?_)
  rw [hfin]
  exact ⟨_, [RowO Kd.eff 58 po co A], rfl, ⟨po, co, rfl, rfl⟩, hs.fitD⟩
theorem plc_hit {α : Type} {p : α → Bool} {l : List α} {i : Nat} {x : α} (hx : l[i]? = some x) (hp : p x = true) (h : (l.take i).any p = false) : plc p l = i := by
 unfold plc
 rw [idxP_some hx hp h, if_neg tO, Int.toNat_natCast]
theorem plc_miss {α : Type} {p : α → Bool} {l : List α} (h : l.any p = false) : plc p l = l.length := by
 unfold plc
 rw [idxP_none h, if_pos tD]
theorem ref_Find (q : Option Addr) (cap : Nat) (l : List Rw) (key : ByteArray) (hl : l.length ≤ 1000000000) (hk : ∀ r ∈ l, (r.key.size : Int) ≤ 9223372036854775807) (hkk : (key.size : Int) ≤ 9223372036854775807) : Fn Tryz.prog 199 [.slice q l.length cap, .string key].toArray [RowF Kd.rw q l] (fun r post => r = .tuple #[.int .i64 (lbR l key), .bool (fndR l key)] ∧ post = []) := by
 refine Fn.enter (N := 28) func199 rfl ntmps199 tK rfl (fun ρ L => ?_)
 refine ky<|ka rfl<|ka rfl<|zm<|ke<|ky<|ka rfl<|zm<|kB ?_
 refine K.rloop (ι := { i : Nat // i ≤ l.length ∧ (l.take i).all (fun r => decide (cmpB r.key key < 0)) = true }) (fun x => [(6, .int .i64 x.1), (0, .slice q l.length cap), (1, .string key)]) (fun x => l.length - x.1) ⟨0, Nat.zero_le _, rfl⟩ tS (fun x ih => ?_)
 obtain ⟨i, hi, hz⟩ := x
 dsimp only at hi hz ⊢
 refine ke<|ky<|km rfl<|km rfl<|kq (qG underlying59 rfl)<|kq (q_lt rfl rfl)<|zm ?_
 refine kD (s := 11) rfl (fun g11 => ?_) (fun g11 => ?_)
 ·obtain ⟨e, he⟩ : ∃ e, l[i]? = some e := ⟨_, List.getElem?_eq_getElem tO⟩
  have hke := hk e (List.mem_of_getElem? he)
  refine za<|ke<|kB<|ky<|km rfl<|km rfl ?_
  first | refine kq (q_ix _ se_59 rfl rfl rfl isF tM rfl tL) ?_ | refine kq (q_ix _ se_59 rfl rfl rfl isO tM rfl tL) ?_
  refine kq (qE fo_136_0 rfl) ?_
  first | refine kq (q_ldE ck_9 rfl isF tM tE rfl) ?_ | refine kq (q_ldE ck_9 rfl isO tM tE rfl) ?_
  refine km rfl ?_
  refine kl (kc rfl (h := ref_Keys _ _ (by first | assumption | omega) (by first | assumption | omega))) ?_
  rintro _ _ ⟨_, ⟨rfl, rfl⟩, rfl⟩
  refine ka rfl<|kz<|km rfl<|kq (q_ge rfl rfl)<|zm ?_
  refine kD (s := 22) rfl (fun g22 => ?_) (fun g22 => ?_)
  ·have hlb : lbR l key = i := tw_eq hz hi (fun x hx => by rw [he] at hx; cases hx; exact decide_eq_false tO)
   have hfn : fndR l key = decide (cmpB e.key key = 0) := by unfold fndR; rw [hlb, he]; rfl
   refine ky<|km rfl<|km rfl<|kq (q_eq rfl rfl)<|ka rfl<|ka rfl<|zm ?_
   refine kr2 func199 results199 rfl rfl (fun w hs => ?_)
   rw [hlb, hfn]
   exact ⟨_, [], rfl, ⟨rfl, rfl⟩, hs.fitD⟩
  ·refine za<|zd<|kr<|km rfl<|kq (q_add rfl rfl tN tN)<|ka rfl<|zm ?_
   exact K.weak tS (fun w h => h.fitD) (ih ⟨i + 1, by omega, by rw [all_take_succ he, hz, decide_eq_true tO]; rfl⟩ (by show l.length - (i + 1) < l.length - i; omega))
 ·have hlb : lbR l key = l.length := by rw [show l.length = i by omega]; exact tw_eq hz hi (fun x hx => by rw [List.getElem?_eq_none tO] at hx; cases hx)
  have hfn : fndR l key = false := by unfold fndR; rw [hlb, List.getElem?_eq_none (Nat.le_refl _)]; rfl
  refine K.exit rfl<|ky<|km rfl<|kq (qG underlying59 rfl)<|ka rfl<|ka rfl<|zm ?_
  refine kr2 func199 results199 rfl rfl (fun w hs => ?_)
  rw [hlb, hfn]
  exact ⟨_, [], rfl, ⟨rfl, rfl⟩, hs.fitD⟩
theorem ref_FindObject (A : HP) (s : Sz) (name : ByteArray) (hA : IsRow A Kd.oz s.q s.l) (hl : s.l.length ≤ 1000000000) : Fn Tryz.prog 119 [.agg s.cells.toArray, .string name].toArray [A, NestF s.l] (fun r post => r = .int .i64 (findO s.st name) ∧ post = [A]) := by
 have hm : findO s.st name = idxP (fun o : Oz => decide (o.x.name = name)) s.l := idxP_map _ _ _
 rw [hm]
 refine Fn.enter (N := 22) func119 rfl ntmps119 tK rfl (fun ρ L => ?_)
 refine ky<|kl (l_box rfl rfl) ?_
 rintro _ _ ⟨b2, rfl, rfl⟩
 refine ka rfl<|zm<|ke<|ky<|ka rfl<|zm<|kB ?_
 refine kX (ι := { i : Nat // i ≤ s.l.length ∧ (s.l.take i).any (fun o => decide (o.x.name = name)) = false }) (fun x => [(5, .int .i64 x.1), (1, .string name), (2, .pointer (some ⟨b2, 0, none⟩))]) (fun x => [A, pv b2 47 s.cells] ++ L) (fun x => s.l.length - x.1) ⟨0, Nat.zero_le _, rfl⟩ tS (fun w h => h.fitD) (fun x ih => ?_)
 obtain ⟨i, hi, hz⟩ := x
 dsimp only at hi hz ⊢
 refine ke<|ky<|km rfl<|kq (qO fo_47_1 rfl)<|kq (qD ck_45 rfl)<|kq (qG underlying45 rfl)<|kq (q_lt rfl rfl)<|zm ?_
 refine kD (s := 10) rfl (fun g10 => ?_) (fun g10 => ?_)
 ·obtain ⟨o, ho⟩ : ∃ o, s.l[i]? = some o := ⟨_, List.getElem?_eq_getElem tO⟩
  refine za<|ke<|kB<|ky<|kq (qO fo_47_1 rfl)<|kq (qD ck_45 rfl)<|km rfl<|kq (q_ix (xs := s.l) i se_45 rfl rfl rfl hA tM rfl tO)<|kq (qE fo_62_0 rfl)<|kq (q_ldE (xs := s.l) ck_9 rfl hA tM ho rfl)<|km rfl<|kq (q_seq rfl rfl)<|zm ?_
  refine kD (s := 20) rfl (fun g20 => ?_) (fun g20 => ?_)
  ·refine ke ?_
   have hr : idxP (fun o : Oz => decide (o.x.name = name)) s.l = i := idxP_some ho (by simp [*]) hz
   refine kr<|km rfl<|ka rfl<|zm ?_
   refine kr1 func119 results119 rfl (fun w hs => ?_)
   rw [hr]
   exact ⟨_, [A], rfl, ⟨rfl, rfl⟩, hs.fitD⟩
  ·refine za<|zd<|kr<|km rfl<|kq (q_add rfl rfl tN tN)<|ka rfl<|zm ?_
   exact K.weak tS (fun w h => h.fitD) (ih ⟨i + 1, by omega, by rw [any_take_succ ho, hz]; simp [*]⟩ (by show s.l.length - (i + 1) < s.l.length - i; omega))
 ·refine K.exit rfl<|ke ?_
  have hr : idxP (fun o : Oz => decide (o.x.name = name)) s.l = -1 := idxP_none (by rw [List.take_of_length_le tO] at hz; exact hz)
  refine kr<|ka rfl<|zm ?_
  refine kr1 func119 results119 rfl (fun w hs => ?_)
  rw [hr]
  exact ⟨_, [A], rfl, ⟨rfl, rfl⟩, hs.fitD⟩
set_option maxHeartbeats 800000 in
theorem ref_AddMsg (q : Option Addr) (cap : Nat) (l : List Msg) (m : Msg) (hl : l.length ≤ 1000000000) (hlc : l.length ≤ cap) : Fn Tryz.prog 156 [.slice q l.length cap, .agg m.cells.toArray].toArray [RowF Kd.msg q l] (fun r post => ∃ q' c', r = .slice q' (addM l m).length c' ∧ post = [RowO Kd.msg 56 q' c' (addM l m)] ∧ (addM l m).length ≤ c') := by
 refine Fn.enter (N := 32) func156 rfl ntmps156 tK rfl (fun ρ L => ?_)
 refine ky<|kl (l_box rfl rfl) ?_
 rintro _ _ ⟨b3, rfl, rfl⟩
 refine ka rfl<|kz<|ka rfl<|zm<|ke<|kB ?_
 refine kX (ι := { i : Nat // i ≤ l.length ∧ (l.take i).any (fun x => decide (0 < cmpM x m)) = false }) (fun x => [(5, .int .i64 x.1), (0, .slice q l.length cap), (3, .pointer (some ⟨b3, 0, none⟩))]) (fun x => [RowF Kd.msg q l, pv b3 56 m.cells] ++ L) (fun x => l.length - x.1) ⟨0, Nat.zero_le _, rfl⟩ tS (fun w h => h.fitD) (fun x ih => ?_)
 obtain ⟨i, hi, hz⟩ := x
 dsimp only at hi hz ⊢
 refine ke<|ke<|K.drawS [pv b3 56 m.cells, RowF Kd.msg q l] (fun _ h => h.subD) mixed<|dq 0 rfl (q_move rfl)<|dq 1 rfl (q_move rfl)<|dq 2 rfl (qG underlying60 rfl)<|dq 3 rfl (q_lt rfl rfl)<|dq 4 rfl (q_move rfl) ?_
 refine D.dsplit 10 rfl (fun g10 => ?_) (fun g10 => ?_)
 ·obtain ⟨e, he⟩ : ∃ e, l[i]? = some e := ⟨_, List.getElem?_eq_getElem tO⟩
  refine dq 5 rfl (q_move rfl)<|dq 6 rfl (q_move rfl) ?_
  first | refine dq 7 rfl (q_ix _ se_60 rfl rfl rfl isF tM rfl tL) ?_ | refine dq 7 rfl (q_ix _ se_60 rfl rfl rfl isO tM rfl tL) ?_
  refine dq 8 rfl (q_ldEN (xs := l) ck_56 rfl isF tM he)<|dq 9 rfl (qL ck_56 rfl rfl tC)<|dq1 10 rfl (kc rfl (h := ref_Msgs _ _)) (.inr (by rintro _ _ ⟨_, ⟨rfl, rfl⟩, rfl⟩ w h; exact h.subD)) ?_
  rintro _ _ ⟨_, ⟨rfl, rfl⟩, rfl⟩
  refine dq 11 rfl (q_le rfl rfl)<|dq 12 rfl (qT rfl rfl)<|D.done tK ?_
  refine kD (s := 18) rfl (fun g18 => ?_) (fun g18 => ?_)
  ·refine za<|kB<|kr<|km rfl<|kq (q_add rfl rfl tN tN)<|ka rfl<|zm<|zd ?_
   exact K.weak tS (fun w h => h.fitD) (ih ⟨i + 1, by omega, by rw [any_take_succ he, hz, decide_eq_false tO]; rfl⟩ (by show l.length - (i + 1) < l.length - i; omega))
  ·have hpl : plc (fun x => decide (0 < cmpM x m)) l = i := plc_hit he (decide_eq_true tO) hz
   have had : addM l m = insAt l i m := by unfold addM; rw [hpl]
   clear ih
   refine K.exit rfl<|ke ?_
   have hdk : (l.drop i).length = l.length - i := by rw [List.length_drop]
   have htk : (l.take i).length = i := by rw [List.length_take]; omega
   refine K.st (fun w h => rowF_take (k := Kd.msg) (p := q) (xs := l) i tM h)<|K.st (fun w h => rowF_cut (k := Kd.msg) (p := q) (xs := l) (cap := cap) i hlc tM h)<|K.st (fun w h => rowO_nil (k := Kd.msg) 56 h)<|K.drawS [pv b3 56 m.cells] (fun _ h => h.subD) mixed<|dq 0 rfl (q_move rfl)<|dq 1 rfl (q_move rfl)<|dq 2 rfl (q_is (q_cutH se_60 rfl rfl tO tO) (show Value.slice q (i : Int).toNat cap = Value.slice q (l.take i).length cap by rw [htk]; rfl))<|dq 4 rfl (qL ck_56 rfl rfl tC)<|dq 7 rfl (q_move rfl)<|dq 8 rfl (q_move rfl)<|dq 9 rfl (q_is (q_cutL se_60 rfl rfl tO tO hlc) (show Value.slice (cutAddr q cap (i : Int).toNat 6) (l.length - (i : Int).toNat) (cap - (i : Int).toNat) = Value.slice (cutAddr q cap i 6) (l.drop i).length (cap - i) by rw [hdk]; rfl)) ?_
   refine D.all (rs := [3, 5]) tK rfl (DAll.cons rfl tK (lX Kd.msg (xs := []) (ys := l.take i) se_60 underlying60 ⟨_, ze_56, rfl⟩ tD rfl rfl tP isF tM rfl rfl (by show (2 * (0 + (l.take i).length) + 768) * _ ≤ _; omega)) (.inr (by rintro _ _ ⟨q1, c1, rfl, rfl⟩ w h; exact h.subD)) rfl ?_ (DAll.cons rfl tK (lO sz_60_1 rfl rfl ⟨rfl, rfl, rfl⟩) (.inr (by rintro _ _ ⟨b26, rfl, rfl⟩ w h; exact h.subD)) rfl ?_ DAll.nil))
   ·rintro _ _ ⟨q1, c1, rfl, rfl⟩
    refine dq1 5 rfl (lO sz_60_1 rfl rfl ⟨rfl, rfl, rfl⟩) (.inr (by rintro _ _ ⟨b26, rfl, rfl⟩ w h; exact h.subD)) ?_
    rintro _ _ ⟨b26, rfl, rfl⟩
    refine dq1 6 rfl (lX Kd.msg (ys := [m]) se_60 underlying60 ⟨_, ze_56, rfl⟩ tD rfl rfl tP isP tM rfl rfl (by show (2 * (([] ++ l.take i).length + 1) + 768) * _ ≤ _; rw [List.nil_append]; omega)) (.inr (by rintro _ _ ⟨q2, c2, rfl, rfl⟩ w h; exact h.subD)) ?_
    rintro _ _ ⟨q2, c2, rfl, rfl⟩
    refine dq1 10 rfl (lX Kd.msg (ys := l.drop i) se_60 underlying60 ⟨_, ze_56, rfl⟩ tD rfl rfl tP isF tM rfl rfl (by show (2 * (([] ++ l.take i ++ [m]).length + (l.drop i).length) + 768) * _ ≤ _; rw [List.nil_append, List.length_append, List.length_singleton]; omega)) (.inr (by rintro _ _ ⟨q3, c3, rfl, rfl⟩ w h; exact h.subD)) ?_
    rintro _ _ ⟨q3, c3, rfl, rfl⟩
    refine dq 11 rfl (q_assign rfl)<|D.done tK ?_
    refine kr1 func156 results156 rfl (fun w hs => ?_)
    rw [had]
    have hc3 := rC (e := 56) (k := Kd.msg) (p := q3) (cap := c3) tM w hs
    exact ⟨_, [RowO Kd.msg 56 q3 c3 (insAt l i m)], rfl, ⟨q3, c3, rfl, rfl, hc3⟩, hs.fitD⟩
   ·rintro _ _ ⟨b26, rfl, rfl⟩
    refine dq1 3 rfl (lX Kd.msg (xs := []) (ys := l.take i) se_60 underlying60 ⟨_, ze_56, rfl⟩ tD rfl rfl tP isF tM rfl rfl (by show (2 * (0 + (l.take i).length) + 768) * _ ≤ _; omega)) (.inr (by rintro _ _ ⟨q1, c1, rfl, rfl⟩ w h; exact h.subD)) ?_
    rintro _ _ ⟨q1, c1, rfl, rfl⟩
    refine dq1 6 rfl (lX Kd.msg (ys := [m]) se_60 underlying60 ⟨_, ze_56, rfl⟩ tD rfl rfl tP isP tM rfl rfl (by show (2 * (([] ++ l.take i).length + 1) + 768) * _ ≤ _; rw [List.nil_append]; omega)) (.inr (by rintro _ _ ⟨q2, c2, rfl, rfl⟩ w h; exact h.subD)) ?_
    rintro _ _ ⟨q2, c2, rfl, rfl⟩
    refine dq1 10 rfl (lX Kd.msg (ys := l.drop i) se_60 underlying60 ⟨_, ze_56, rfl⟩ tD rfl rfl tP isF tM rfl rfl (by show (2 * (([] ++ l.take i ++ [m]).length + (l.drop i).length) + 768) * _ ≤ _; rw [List.nil_append, List.length_append, List.length_singleton]; omega)) (.inr (by rintro _ _ ⟨q3, c3, rfl, rfl⟩ w h; exact h.subD)) ?_
    rintro _ _ ⟨q3, c3, rfl, rfl⟩
    refine dq 11 rfl (q_assign rfl)<|D.done tK ?_
    refine kr1 func156 results156 rfl (fun w hs => ?_)
    rw [had]
    have hc3 := rC (e := 56) (k := Kd.msg) (p := q3) (cap := c3) tM w hs
    exact ⟨_, [RowO Kd.msg 56 q3 c3 (insAt l i m)], rfl, ⟨q3, c3, rfl, rfl, hc3⟩, hs.fitD⟩
 ·have hpl : plc (fun x => decide (0 < cmpM x m)) l = i := by rw [plc_miss (by rw [List.take_of_length_le tO] at hz; exact hz)]; omega
  have had : addM l m = insAt l i m := by unfold addM; rw [hpl]
  clear ih
  refine dk 5 rfl<|dk 6 rfl<|dk 7 rfl<|dk 8 rfl<|dk 9 rfl<|dk 10 rfl<|dk 11 rfl<|dq 12 rfl (qF rfl rfl)<|D.done tK<|K.no rfl<|K.exit rfl<|ke ?_
  have hdk : (l.drop i).length = l.length - i := by rw [List.length_drop]
  have htk : (l.take i).length = i := by rw [List.length_take]; omega
  refine K.st (fun w h => rowF_take (k := Kd.msg) (p := q) (xs := l) i tM h)<|K.st (fun w h => rowF_cut (k := Kd.msg) (p := q) (xs := l) (cap := cap) i hlc tM h)<|K.st (fun w h => rowO_nil (k := Kd.msg) 56 h)<|K.drawS [pv b3 56 m.cells] (fun _ h => h.subD) mixed<|dq 0 rfl (q_move rfl)<|dq 1 rfl (q_move rfl)<|dq 2 rfl (q_is (q_cutH se_60 rfl rfl tO tO) (show Value.slice q (i : Int).toNat cap = Value.slice q (l.take i).length cap by rw [htk]; rfl))<|dq 4 rfl (qL ck_56 rfl rfl tC)<|dq 7 rfl (q_move rfl)<|dq 8 rfl (q_move rfl)<|dq 9 rfl (q_is (q_cutL se_60 rfl rfl tO tO hlc) (show Value.slice (cutAddr q cap (i : Int).toNat 6) (l.length - (i : Int).toNat) (cap - (i : Int).toNat) = Value.slice (cutAddr q cap i 6) (l.drop i).length (cap - i) by rw [hdk]; rfl)) ?_
  refine D.all (rs := [3, 5]) tK rfl (DAll.cons rfl tK (lX Kd.msg (xs := []) (ys := l.take i) se_60 underlying60 ⟨_, ze_56, rfl⟩ tD rfl rfl tP isF tM rfl rfl (by show (2 * (0 + (l.take i).length) + 768) * _ ≤ _; omega)) (.inr (by rintro _ _ ⟨q1, c1, rfl, rfl⟩ w h; exact h.subD)) rfl ?_ (DAll.cons rfl tK (lO sz_60_1 rfl rfl ⟨rfl, rfl, rfl⟩) (.inr (by rintro _ _ ⟨b26, rfl, rfl⟩ w h; exact h.subD)) rfl ?_ DAll.nil))
  ·rintro _ _ ⟨q1, c1, rfl, rfl⟩
   refine dq1 5 rfl (lO sz_60_1 rfl rfl ⟨rfl, rfl, rfl⟩) (.inr (by rintro _ _ ⟨b26, rfl, rfl⟩ w h; exact h.subD)) ?_
   rintro _ _ ⟨b26, rfl, rfl⟩
   refine dq1 6 rfl (lX Kd.msg (ys := [m]) se_60 underlying60 ⟨_, ze_56, rfl⟩ tD rfl rfl tP isP tM rfl rfl (by show (2 * (([] ++ l.take i).length + 1) + 768) * _ ≤ _; rw [List.nil_append]; omega)) (.inr (by rintro _ _ ⟨q2, c2, rfl, rfl⟩ w h; exact h.subD)) ?_
   rintro _ _ ⟨q2, c2, rfl, rfl⟩
   refine dq1 10 rfl (lX Kd.msg (ys := l.drop i) se_60 underlying60 ⟨_, ze_56, rfl⟩ tD rfl rfl tP isF tM rfl rfl (by show (2 * (([] ++ l.take i ++ [m]).length + (l.drop i).length) + 768) * _ ≤ _; rw [List.nil_append, List.length_append, List.length_singleton]; omega)) (.inr (by rintro _ _ ⟨q3, c3, rfl, rfl⟩ w h; exact h.subD)) ?_
   rintro _ _ ⟨q3, c3, rfl, rfl⟩
   refine dq 11 rfl (q_assign rfl)<|D.done tK ?_
   refine kr1 func156 results156 rfl (fun w hs => ?_)
   rw [had]
   have hc3 := rC (e := 56) (k := Kd.msg) (p := q3) (cap := c3) tM w hs
   exact ⟨_, [RowO Kd.msg 56 q3 c3 (insAt l i m)], rfl, ⟨q3, c3, rfl, rfl, hc3⟩, hs.fitD⟩
  ·rintro _ _ ⟨b26, rfl, rfl⟩
   refine dq1 3 rfl (lX Kd.msg (xs := []) (ys := l.take i) se_60 underlying60 ⟨_, ze_56, rfl⟩ tD rfl rfl tP isF tM rfl rfl (by show (2 * (0 + (l.take i).length) + 768) * _ ≤ _; omega)) (.inr (by rintro _ _ ⟨q1, c1, rfl, rfl⟩ w h; exact h.subD)) ?_
   rintro _ _ ⟨q1, c1, rfl, rfl⟩
   refine dq1 6 rfl (lX Kd.msg (ys := [m]) se_60 underlying60 ⟨_, ze_56, rfl⟩ tD rfl rfl tP isP tM rfl rfl (by show (2 * (([] ++ l.take i).length + 1) + 768) * _ ≤ _; rw [List.nil_append]; omega)) (.inr (by rintro _ _ ⟨q2, c2, rfl, rfl⟩ w h; exact h.subD)) ?_
   rintro _ _ ⟨q2, c2, rfl, rfl⟩
   refine dq1 10 rfl (lX Kd.msg (ys := l.drop i) se_60 underlying60 ⟨_, ze_56, rfl⟩ tD rfl rfl tP isF tM rfl rfl (by show (2 * (([] ++ l.take i ++ [m]).length + (l.drop i).length) + 768) * _ ≤ _; rw [List.nil_append, List.length_append, List.length_singleton]; omega)) (.inr (by rintro _ _ ⟨q3, c3, rfl, rfl⟩ w h; exact h.subD)) ?_
   rintro _ _ ⟨q3, c3, rfl, rfl⟩
   refine dq 11 rfl (q_assign rfl)<|D.done tK ?_
   refine kr1 func156 results156 rfl (fun w hs => ?_)
   rw [had]
   have hc3 := rC (e := 56) (k := Kd.msg) (p := q3) (cap := c3) tM w hs
   exact ⟨_, [RowO Kd.msg 56 q3 c3 (insAt l i m)], rfl, ⟨q3, c3, rfl, rfl, hc3⟩, hs.fitD⟩
set_option maxHeartbeats 800000 in
theorem ref_CutMsg (q : Option Addr) (cap : Nat) (l : List Msg) (id : Int) (hl : l.length ≤ 1000000000) (hlc : l.length ≤ cap) : Fn Tryz.prog 157 [.slice q l.length cap, .int .i64 id].toArray [RowF Kd.msg q l] (fun r post => ∃ q' c', r = .tuple #[.slice q' (cutM l id).1.length c', .bool (cutM l id).2] ∧ post = [RowO Kd.msg 56 q' c' (cutM l id).1] ∧ (cutM l id).1.length ≤ c') := by
 refine Fn.enter (N := 23) func157 rfl ntmps157 tK rfl (fun ρ L => ?_)
 refine ky<|ka rfl<|ka rfl<|kz<|km rfl<|km rfl<|kl (kc rfl (h := ref_FindMsg q cap l id tO)) ?_
 rintro _ _ ⟨_, ⟨rfl, rfl⟩, rfl⟩
 refine ka rfl<|zm<|ke<|ky<|km rfl<|kq (q_lt rfl rfl)<|zm ?_
 refine kD (s := 11) rfl (fun g11 => ?_) (fun g11 => ?_)
 ·have hr : cutM l id = (l, false) := by unfold cutM; rw [if_pos (show findM l id < 0 from g11)]
  refine ke<|K.st (fun w h => rowO_nil (k := Kd.msg) 56 h)<|kr<|km rfl<|kl (lX Kd.msg (xs := []) (ys := l) se_60 underlying60 ⟨_, ze_56, rfl⟩ tD rfl rfl tP isF tM rfl rfl (by show (2 * (0 + l.length) + 768) * _ ≤ _; omega)) ?_
  rintro _ _ ⟨q1, c1, rfl, rfl⟩
  rw [List.nil_append]
  refine ka rfl<|ka rfl<|zm ?_
  refine kr2 func157 results157 rfl rfl (fun w hs => ?_)
  rw [hr]
  have hc1 := rC (e := 56) (k := Kd.msg) (p := q1) (cap := c1) tM w hs
  exact ⟨_, [RowO Kd.msg 56 q1 c1 _], rfl, ⟨q1, c1, rfl, rfl, hc1⟩, hs.fitD⟩
 ·obtain ⟨i, x, hx, hi, _⟩ := idxP_nat g11
  have hi : findM l id = (i : Int) := hi
  have hil := (List.getElem?_eq_some_iff.1 hx).1
  have hr : cutM l id = (l.eraseIdx i, true) := by unfold cutM; rw [if_neg (show ¬ findM l id < 0 from g11), hi]; rfl
  have hi2 : idxP (fun m => decide (m.id = id)) l = (i : Int) := hi
  rw [hi2]
  have hdk : (l.drop (i + 1)).length = l.length - (i + 1) := by rw [List.length_drop]
  have htk : (l.take i).length = i := by rw [List.length_take]; omega
  refine K.st (fun w h => rowF_take (k := Kd.msg) (p := q) (xs := l) (i) tM h)<|K.st (fun w h => rowF_cut (k := Kd.msg) (p := q) (xs := l) (cap := cap) (i + 1) hlc tM h)<|K.st (fun w h => rowO_nil (k := Kd.msg) 56 h)<|za<|ke<|K.drawS [] (fun _ h => h.subD) mixed<|dq 0 rfl (q_move rfl)<|dq 1 rfl (q_move rfl)<|dq 2 rfl (q_is (q_cutH se_60 rfl rfl tO tO) (show Value.slice q (i : Int).toNat cap = Value.slice q (l.take i).length cap by rw [htk]; rfl))<|dq 4 rfl (q_move rfl)<|dq 5 rfl (q_move rfl)<|dq 6 rfl (q_add rfl rfl tN tN)<|dq 7 rfl (q_is (q_cutL se_60 rfl rfl tO tO hlc) (show Value.slice (cutAddr q cap ((i : Int) + 1).toNat 6) (l.length - ((i : Int) + 1).toNat) (cap - ((i : Int) + 1).toNat) = Value.slice (cutAddr q cap (i + 1) 6) (l.drop (i + 1)).length (cap - (i + 1)) by rw [hdk]; rfl))<|dq1 3 rfl (lX Kd.msg (xs := []) (ys := l.take i) se_60 underlying60 ⟨_, ze_56, rfl⟩ tD rfl rfl tP isF tM rfl rfl (by show (2 * (0 + (l.take i).length) + 768) * _ ≤ _; omega)) (.inr (by rintro _ _ ⟨q2, c2, rfl, rfl⟩ w h; exact h.subD)) ?_
  rintro _ _ ⟨q2, c2, rfl, rfl⟩
  refine dq1 8 rfl (lX Kd.msg (ys := l.drop (i + 1)) se_60 underlying60 ⟨_, ze_56, rfl⟩ tD rfl rfl tP isF tM rfl rfl (by show (2 * (([] ++ l.take i).length + (l.drop (i + 1)).length) + 768) * _ ≤ _; rw [List.nil_append]; omega)) (.inr (by rintro _ _ ⟨q1, c1, rfl, rfl⟩ w h; exact h.subD)) ?_
  rintro _ _ ⟨q1, c1, rfl, rfl⟩
  rw [List.nil_append, ← List.eraseIdx_eq_take_drop_succ]
  refine dq 9 rfl (q_assign rfl)<|dq 10 rfl (q_assign rfl)<|D.done tK ?_
  refine kr2 func157 results157 rfl rfl (fun w hs => ?_)
  rw [hr]
  have hc1 := rC (e := 56) (k := Kd.msg) (p := q1) (cap := c1) tM w hs
  exact ⟨_, [RowO Kd.msg 56 q1 c1 _], rfl, ⟨q1, c1, rfl, rfl, hc1⟩, hs.fitD⟩
set_option maxHeartbeats 800000 in
theorem ref_Claim (q : Option Addr) (cap : Nat) (l : List Msg) (id : Int) (on : Bool) (hl : l.length ≤ 1000000000) : Fn Tryz.prog 158 [.slice q l.length cap, .int .i64 id, .bool on].toArray [RowF Kd.msg q l] (fun r post => ∃ q' c', r = .tuple #[.slice q' (claimM l id on).1.length c', .bool (claimM l id on).2] ∧ post = [RowO Kd.msg 56 q' c' (claimM l id on).1] ∧ (claimM l id on).1.length ≤ c') := by
 refine Fn.enter (N := 33) func158 rfl ntmps158 tK rfl (fun ρ L => ?_)
 refine ky<|ka rfl<|ka rfl<|zm<|ke<|K.st (fun w h => rowO_nil (k := Kd.msg) 56 h)<|kr<|km rfl<|kl (lX Kd.msg (xs := []) (ys := l) se_60 underlying60 ⟨_, ze_56, rfl⟩ tD rfl rfl tP isF tM rfl rfl (by show (2 * (0 + l.length) + 768) * _ ≤ _; omega)) ?_
 rintro _ _ ⟨q1, c1, rfl, rfl⟩
 rw [List.nil_append]
 refine ka rfl<|kz<|km rfl<|km rfl<|kl (kc rfl (h := ref_FindMsg q cap l id tO)) ?_
 rintro _ _ ⟨_, ⟨rfl, rfl⟩, rfl⟩
 refine ka rfl<|zm<|ke<|ky<|km rfl<|kq (q_lt rfl rfl)<|km rfl ?_
 refine KO.dsplit 17 rfl (fun g17 => ?_) (fun g17 => ?_)
 ·have hr : claimM l id on = (l, false) := by unfold claimM; rw [if_pos (show findM l id < 0 from g17)]
  refine zq<|zq<|zq<|zq<|zq<|zq<|zq<|kq (qT rfl rfl)<|zm<|K.yes rfl<|ky<|km rfl<|ka rfl<|ka rfl<|zm ?_
  refine kr2 func158 results158 rfl rfl (fun w hs => ?_)
  rw [hr]
  have hc1 := rC (e := 56) (k := Kd.msg) (p := q1) (cap := c1) (xs := l) tM w hs
  exact ⟨_, [RowO Kd.msg 56 q1 c1 l], rfl, ⟨q1, c1, rfl, rfl, hc1⟩, hs.fitD⟩
 ·obtain ⟨i, x, hx, hi, _⟩ := idxP_nat g17
  have hi : findM l id = (i : Int) := hi
  have hil := (List.getElem?_eq_some_iff.1 hx).1
  have hgd : l.getD (findM l id).toNat ⟨0, 0, 0, false, ⟨#[]⟩, ⟨#[]⟩⟩ = x := by rw [hi, Int.toNat_natCast]; exact gd_at hx
  refine km rfl<|km rfl<|kq (q_ix (xs := l) i se_60 rfl rfl hi isF tM rfl hil)<|kq (qE fo_56_3 rfl)<|kq (q_ldE (xs := l) ck_4 rfl isF tM hx rfl)<|km rfl<|kq (q_beq underlying4 rfl rfl)<|kq (qF rfl rfl)<|zm ?_
  refine kT (s := 25) rfl (fun g25 => ?_) (fun g25 => ?_)
  ·have hr : claimM l id on = (l, false) := by unfold claimM; rw [if_neg (show ¬ findM l id < 0 from g17), hgd, if_pos (by simpa using g25)]
   refine ky<|km rfl<|ka rfl<|ka rfl<|zm ?_
   refine kr2 func158 results158 rfl rfl (fun w hs => ?_)
   rw [hr]
   have hc1 := rC (e := 56) (k := Kd.msg) (p := q1) (cap := c1) (xs := l) tM w hs
   exact ⟨_, [RowO Kd.msg 56 q1 c1 l], rfl, ⟨q1, c1, rfl, rfl, hc1⟩, hs.fitD⟩
  ·have hr : claimM l id on = (l.set i { x with claimed := on }, true) := by unfold claimM; rw [if_neg (show ¬ findM l id < 0 from g17), hgd, if_neg (by simpa using g25), hi]; rfl
   have hsl : (l.set i { x with claimed := on }).length = l.length := List.length_set
   refine za<|ky<|km rfl<|km rfl<|km rfl<|kq (q_ix (xs := l) i se_60 rfl rfl hi isO tM rfl hil)<|kq (qE fo_56_3 rfl)<|kN rfl (lP (el := x) { x with claimed := on } ck_4 rfl rfl rfl tP hx tD rfl) ?_
   rintro _ _ ⟨rfl, rfl⟩
   refine kz<|km rfl<|ka rfl<|ka rfl<|zm ?_
   refine kr2 func158 results158 rfl rfl (fun w hs => ?_)
   rw [hr, ← hsl]
   have hc1 := rC (e := 56) (k := Kd.msg) (p := q1) (cap := c1) (xs := l.set i { x with claimed := on }) tM w hs
   exact ⟨_, [RowO Kd.msg 56 q1 c1 (l.set i { x with claimed := on })], rfl, ⟨q1, c1, rfl, rfl, hc1⟩, hs.fitD⟩
set_option maxHeartbeats 800000 in
theorem ref_PutRow (q : Option Addr) (cap : Nat) (l : List Rw) (r : Rw) (hl : l.length ≤ 1000000000) (hlc : l.length ≤ cap) (hk : ∀ x ∈ l, (x.key.size : Int) ≤ 9223372036854775807) (hkk : (r.key.size : Int) ≤ 9223372036854775807) : Fn Tryz.prog 154 [.slice q l.length cap, .agg r.cells.toArray].toArray [RowF Kd.rw q l] (fun v post => ∃ q' c', v = .slice q' (putR l r).length c' ∧ post = [RowO Kd.rw 136 q' c' (putR l r)] ∧ (putR l r).length ≤ c') := by
 have hile := lbR_le l r.key
 obtain ⟨i, hi⟩ : ∃ i, lbR l r.key = i := ⟨_, rfl⟩
 refine Fn.enter (N := 30) func154 rfl ntmps154 tK rfl (fun ρ L => ?_)
 refine ky<|kl (l_box rfl rfl) ?_
 rintro _ _ ⟨b3, rfl, rfl⟩
 refine ka rfl<|kz<|km rfl<|kq (qO fo_136_0 rfl)<|kq (qD ck_9 rfl)<|kl (kc rfl (h := ref_Find q cap l r.key hl hk hkk)) ?_
 rintro _ _ ⟨_, ⟨rfl, rfl⟩, rfl⟩
 rw [hi]
 refine km rfl<|kq (qX rfl rfl)<|kq (qX rfl rfl)<|ka rfl<|ka rfl<|zm<|ke ?_
 rw [hi] at hile
 have hdk : (l.drop i).length = l.length - i := by rw [List.length_drop]
 have hdk1 : (l.drop (i + 1)).length = l.length - (i + 1) := by rw [List.length_drop]
 have htk : (l.take i).length = i := by rw [List.length_take]; omega
 refine K.st (fun w h => rowF_take (k := Kd.rw) (p := q) (xs := l) (i) tM h)<|K.st (fun w h => rowF_cut (k := Kd.rw) (p := q) (xs := l) (cap := cap) (i) hlc tM h)<|K.st (fun w h => rowF_cut (k := Kd.rw) (p := q) (xs := l) (cap := cap) (i + 1) hlc tM h)<|K.st (fun w h => rowO_nil (k := Kd.rw) 136 h)<|K.drawS [pv b3 136 r.cells] (fun _ h => h.subD) mixed<|dq 0 rfl (q_move rfl)<|dq 1 rfl (q_move rfl)<|dq 2 rfl (q_is (q_cutH se_59 rfl rfl tO tO) (show Value.slice q (i : Int).toNat cap = Value.slice q (l.take i).length cap by rw [htk]; rfl))<|dq 4 rfl (qL ck_136 rfl rfl tC) ?_
 refine D.all (rs := [3, 5]) tK rfl (DAll.cons rfl tK (lX Kd.rw (xs := []) (ys := l.take i) se_59 underlying59 ⟨_, ze_136, rfl⟩ tD rfl rfl tP isF tM rfl rfl (by show (2 * (0 + (l.take i).length) + 768) * _ ≤ _; omega)) (.inr (by rintro _ _ ⟨q2, c2, rfl, rfl⟩ w h; exact h.subD)) rfl ?_ (DAll.cons rfl tK (lO sz_59_1 rfl rfl ⟨rfl, rfl, rfl⟩) (.inr (by rintro _ _ ⟨b20, rfl, rfl⟩ w h; exact h.subD)) rfl ?_ DAll.nil))
 ·rintro _ _ ⟨q2, c2, rfl, rfl⟩
  refine dq1 5 rfl (lO sz_59_1 rfl rfl ⟨rfl, rfl, rfl⟩) (.inr (by rintro _ _ ⟨b20, rfl, rfl⟩ w h; exact h.subD)) ?_
  rintro _ _ ⟨b20, rfl, rfl⟩
  refine dq1 6 rfl (lX Kd.rw (ys := [r]) se_59 underlying59 ⟨_, ze_136, rfl⟩ tD rfl rfl tP isP tM rfl rfl (by show (2 * (([] ++ l.take i).length + 1) + 768) * _ ≤ _; rw [List.nil_append]; omega)) (.inr (by rintro _ _ ⟨q3, c3, rfl, rfl⟩ w h; exact h.subD)) ?_
  rintro _ _ ⟨q3, c3, rfl, rfl⟩
  refine dq 7 rfl (q_assign rfl)<|D.done tK<|ke<|ky<|km rfl<|zm ?_
  first | refine kD (s := 22) rfl (fun g22 => ?_) (fun g22 => ?_) | refine kT (s := 22) rfl (fun g22 => ?_) (fun g22 => ?_)
  ·have hil := fndR_lt g22
   rw [hi] at hil
   have hr : putR l r = l.take i ++ [r] ++ l.drop (i + 1) := by unfold putR; rw [if_pos g22, hi, List.set_eq_take_append_cons_drop, if_pos hil, List.append_assoc]; rfl
   refine kr<|km rfl<|kq (q_add rfl rfl tN tN)<|ka rfl<|kz<|km rfl<|km rfl<|km rfl<|kq (q_is (q_cutL se_59 rfl rfl tO tO hlc) (show Value.slice (cutAddr q cap ((i : Int) + 1).toNat 2) (l.length - ((i : Int) + 1).toNat) (cap - ((i : Int) + 1).toNat) = Value.slice (cutAddr q cap (i + 1) 2) (l.drop (i + 1)).length (cap - (i + 1)) by rw [hdk1]; rfl))<|kl (lX Kd.rw (ys := l.drop (i + 1)) se_59 underlying59 ⟨_, ze_136, rfl⟩ tD rfl rfl tP isF tM rfl rfl (by show (2 * (([] ++ l.take i ++ [r]).length + (l.drop (i + 1)).length) + 768) * _ ≤ _; rw [List.nil_append, List.length_append, List.length_singleton]; omega)) ?_
   rintro _ _ ⟨q1, c1, rfl, rfl⟩
   rw [List.nil_append]
   refine ka rfl<|zm ?_
   refine kr1 func154 results154 rfl (fun w hs => ?_)
   rw [hr]
   have hc1 := rC (e := 136) (k := Kd.rw) (p := q1) (cap := c1) tM w hs
   exact ⟨_, [RowO Kd.rw 136 q1 c1 _], rfl, ⟨q1, c1, rfl, rfl, hc1⟩, hs.fitD⟩
  ·have hr : putR l r = l.take i ++ [r] ++ l.drop i := by unfold putR; rw [if_neg (by rw [g22]; decide), hi]; rfl
   refine za<|ky<|km rfl<|km rfl<|km rfl<|kq (q_is (q_cutL se_59 rfl rfl tO tO hlc) (show Value.slice (cutAddr q cap (i : Int).toNat 2) (l.length - (i : Int).toNat) (cap - (i : Int).toNat) = Value.slice (cutAddr q cap i 2) (l.drop i).length (cap - i) by rw [hdk]; rfl))<|kl (lX Kd.rw (ys := l.drop i) se_59 underlying59 ⟨_, ze_136, rfl⟩ tD rfl rfl tP isF tM rfl rfl (by show (2 * (([] ++ l.take i ++ [r]).length + (l.drop i).length) + 768) * _ ≤ _; rw [List.nil_append, List.length_append, List.length_singleton]; omega)) ?_
   rintro _ _ ⟨q1, c1, rfl, rfl⟩
   rw [List.nil_append]
   refine ka rfl<|zm ?_
   refine kr1 func154 results154 rfl (fun w hs => ?_)
   rw [hr]
   have hc1 := rC (e := 136) (k := Kd.rw) (p := q1) (cap := c1) tM w hs
   exact ⟨_, [RowO Kd.rw 136 q1 c1 _], rfl, ⟨q1, c1, rfl, rfl, hc1⟩, hs.fitD⟩
 ·rintro _ _ ⟨b20, rfl, rfl⟩
  refine dq1 3 rfl (lX Kd.rw (xs := []) (ys := l.take i) se_59 underlying59 ⟨_, ze_136, rfl⟩ tD rfl rfl tP isF tM rfl rfl (by show (2 * (0 + (l.take i).length) + 768) * _ ≤ _; omega)) (.inr (by rintro _ _ ⟨q2, c2, rfl, rfl⟩ w h; exact h.subD)) ?_
  rintro _ _ ⟨q2, c2, rfl, rfl⟩
  refine dq1 6 rfl (lX Kd.rw (ys := [r]) se_59 underlying59 ⟨_, ze_136, rfl⟩ tD rfl rfl tP isP tM rfl rfl (by show (2 * (([] ++ l.take i).length + 1) + 768) * _ ≤ _; rw [List.nil_append]; omega)) (.inr (by rintro _ _ ⟨q3, c3, rfl, rfl⟩ w h; exact h.subD)) ?_
  rintro _ _ ⟨q3, c3, rfl, rfl⟩
  refine dq 7 rfl (q_assign rfl)<|D.done tK<|ke<|ky<|km rfl<|zm ?_
  first | refine kD (s := 22) rfl (fun g22 => ?_) (fun g22 => ?_) | refine kT (s := 22) rfl (fun g22 => ?_) (fun g22 => ?_)
  ·have hil := fndR_lt g22
   rw [hi] at hil
   have hr : putR l r = l.take i ++ [r] ++ l.drop (i + 1) := by unfold putR; rw [if_pos g22, hi, List.set_eq_take_append_cons_drop, if_pos hil, List.append_assoc]; rfl
   refine kr<|km rfl<|kq (q_add rfl rfl tN tN)<|ka rfl<|kz<|km rfl<|km rfl<|km rfl<|kq (q_is (q_cutL se_59 rfl rfl tO tO hlc) (show Value.slice (cutAddr q cap ((i : Int) + 1).toNat 2) (l.length - ((i : Int) + 1).toNat) (cap - ((i : Int) + 1).toNat) = Value.slice (cutAddr q cap (i + 1) 2) (l.drop (i + 1)).length (cap - (i + 1)) by rw [hdk1]; rfl))<|kl (lX Kd.rw (ys := l.drop (i + 1)) se_59 underlying59 ⟨_, ze_136, rfl⟩ tD rfl rfl tP isF tM rfl rfl (by show (2 * (([] ++ l.take i ++ [r]).length + (l.drop (i + 1)).length) + 768) * _ ≤ _; rw [List.nil_append, List.length_append, List.length_singleton]; omega)) ?_
   rintro _ _ ⟨q1, c1, rfl, rfl⟩
   rw [List.nil_append]
   refine ka rfl<|zm ?_
   refine kr1 func154 results154 rfl (fun w hs => ?_)
   rw [hr]
   have hc1 := rC (e := 136) (k := Kd.rw) (p := q1) (cap := c1) tM w hs
   exact ⟨_, [RowO Kd.rw 136 q1 c1 _], rfl, ⟨q1, c1, rfl, rfl, hc1⟩, hs.fitD⟩
  ·have hr : putR l r = l.take i ++ [r] ++ l.drop i := by unfold putR; rw [if_neg (by rw [g22]; decide), hi]; rfl
   refine za<|ky<|km rfl<|km rfl<|km rfl<|kq (q_is (q_cutL se_59 rfl rfl tO tO hlc) (show Value.slice (cutAddr q cap (i : Int).toNat 2) (l.length - (i : Int).toNat) (cap - (i : Int).toNat) = Value.slice (cutAddr q cap i 2) (l.drop i).length (cap - i) by rw [hdk]; rfl))<|kl (lX Kd.rw (ys := l.drop i) se_59 underlying59 ⟨_, ze_136, rfl⟩ tD rfl rfl tP isF tM rfl rfl (by show (2 * (([] ++ l.take i ++ [r]).length + (l.drop i).length) + 768) * _ ≤ _; rw [List.nil_append, List.length_append, List.length_singleton]; omega)) ?_
   rintro _ _ ⟨q1, c1, rfl, rfl⟩
   rw [List.nil_append]
   refine ka rfl<|zm ?_
   refine kr1 func154 results154 rfl (fun w hs => ?_)
   rw [hr]
   have hc1 := rC (e := 136) (k := Kd.rw) (p := q1) (cap := c1) tM w hs
   exact ⟨_, [RowO Kd.rw 136 q1 c1 _], rfl, ⟨q1, c1, rfl, rfl, hc1⟩, hs.fitD⟩
set_option maxHeartbeats 800000 in
theorem ref_CutRow (q : Option Addr) (cap : Nat) (l : List Rw) (key : ByteArray) (hl : l.length ≤ 1000000000) (hlc : l.length ≤ cap) (hk : ∀ x ∈ l, (x.key.size : Int) ≤ 9223372036854775807) (hkk : (key.size : Int) ≤ 9223372036854775807) : Fn Tryz.prog 155 [.slice q l.length cap, .string key].toArray [RowF Kd.rw q l] (fun v post => ∃ q' c', v = .tuple #[.slice q' (cutR l key).1.length c', .bool (cutR l key).2] ∧ post = [RowO Kd.rw 136 q' c' (cutR l key).1] ∧ (cutR l key).1.length ≤ c') := by
 have hile := lbR_le l key
 obtain ⟨i, hi⟩ : ∃ i, lbR l key = i := ⟨_, rfl⟩
 refine Fn.enter (N := 27) func155 rfl ntmps155 tK rfl (fun ρ L => ?_)
 refine ky<|ka rfl<|ka rfl<|kz<|km rfl<|km rfl<|kl (kc rfl (h := ref_Find q cap l key hl hk hkk)) ?_
 rintro _ _ ⟨_, ⟨rfl, rfl⟩, rfl⟩
 rw [hi]
 refine km rfl<|kq (qX rfl rfl)<|kq (qX rfl rfl)<|ka rfl<|ka rfl<|zm<|ke<|ky<|km rfl<|kq (q_not rfl)<|zm ?_
 refine kT (s := 15) rfl (fun g15 => ?_) (fun g15 => ?_)
 ·have hr : cutR l key = (l, false) := by unfold cutR; rw [if_neg (by simpa using g15)]
  refine K.st (fun w h => rowO_nil (k := Kd.rw) 136 h)<|ky<|km rfl<|kl (lX Kd.rw (xs := []) (ys := l) se_59 underlying59 ⟨_, ze_136, rfl⟩ tD rfl rfl tP isF tM rfl rfl (by show (2 * (0 + l.length) + 768) * _ ≤ _; omega)) ?_
  rintro _ _ ⟨q1, c1, rfl, rfl⟩
  rw [List.nil_append]
  refine ka rfl<|ka rfl<|zm ?_
  refine kr2 func155 results155 rfl rfl (fun w hs => ?_)
  rw [hr]
  have hc1 := rC (e := 136) (k := Kd.rw) (p := q1) (cap := c1) tM w hs
  exact ⟨_, [RowO Kd.rw 136 q1 c1 _], rfl, ⟨q1, c1, rfl, rfl, hc1⟩, hs.fitD⟩
 ·have hfn : fndR l key = true := by simpa using g15
  have hil := fndR_lt hfn
  have hr : cutR l key = (l.eraseIdx i, true) := by unfold cutR; rw [if_pos hfn, hi]
  rw [hi] at hil
  have hdk : (l.drop (i + 1)).length = l.length - (i + 1) := by rw [List.length_drop]
  have htk : (l.take i).length = i := by rw [List.length_take]; omega
  refine K.st (fun w h => rowF_take (k := Kd.rw) (p := q) (xs := l) (i) tM h)<|K.st (fun w h => rowF_cut (k := Kd.rw) (p := q) (xs := l) (cap := cap) (i + 1) hlc tM h)<|K.st (fun w h => rowO_nil (k := Kd.rw) 136 h)<|za<|ke<|K.drawS [] (fun _ h => h.subD) mixed<|dq 0 rfl (q_move rfl)<|dq 1 rfl (q_move rfl)<|dq 2 rfl (q_is (q_cutH se_59 rfl rfl tO tO) (show Value.slice q (i : Int).toNat cap = Value.slice q (l.take i).length cap by rw [htk]; rfl))<|dq 4 rfl (q_move rfl)<|dq 5 rfl (q_move rfl)<|dq 6 rfl (q_add rfl rfl tN tN)<|dq 7 rfl (q_is (q_cutL se_59 rfl rfl tO tO hlc) (show Value.slice (cutAddr q cap ((i : Int) + 1).toNat 2) (l.length - ((i : Int) + 1).toNat) (cap - ((i : Int) + 1).toNat) = Value.slice (cutAddr q cap (i + 1) 2) (l.drop (i + 1)).length (cap - (i + 1)) by rw [hdk]; rfl))<|dq1 3 rfl (lX Kd.rw (xs := []) (ys := l.take i) se_59 underlying59 ⟨_, ze_136, rfl⟩ tD rfl rfl tP isF tM rfl rfl (by show (2 * (0 + (l.take i).length) + 768) * _ ≤ _; omega)) (.inr (by rintro _ _ ⟨q2, c2, rfl, rfl⟩ w h; exact h.subD)) ?_
  rintro _ _ ⟨q2, c2, rfl, rfl⟩
  refine dq1 8 rfl (lX Kd.rw (ys := l.drop (i + 1)) se_59 underlying59 ⟨_, ze_136, rfl⟩ tD rfl rfl tP isF tM rfl rfl (by show (2 * (([] ++ l.take i).length + (l.drop (i + 1)).length) + 768) * _ ≤ _; rw [List.nil_append]; omega)) (.inr (by rintro _ _ ⟨q1, c1, rfl, rfl⟩ w h; exact h.subD)) ?_
  rintro _ _ ⟨q1, c1, rfl, rfl⟩
  rw [List.nil_append, ← List.eraseIdx_eq_take_drop_succ]
  refine dq 9 rfl (q_assign rfl)<|dq 10 rfl (q_assign rfl)<|D.done tK ?_
  refine kr2 func155 results155 rfl rfl (fun w hs => ?_)
  rw [hr]
  have hc1 := rC (e := 136) (k := Kd.rw) (p := q1) (cap := c1) tM w hs
  exact ⟨_, [RowO Kd.rw 136 q1 c1 _], rfl, ⟨q1, c1, rfl, rfl, hc1⟩, hs.fitD⟩
set_option maxHeartbeats 1600000 in
theorem ref_CopyObject (o : Oz) (hl : o.le 1000000000) : Fn Tryz.prog 117 [.agg o.cells.toArray].toArray (ObL o) (fun r post => ∃ z, r = .agg (Oz.cells ⟨o.x, z⟩).toArray ∧ post = ObO ⟨o.x, z⟩ ∧ Oz.cap ⟨o.x, z⟩) := by
 obtain ⟨hl1, hl2, hl3⟩ := hl
 refine Fn.enter (N := 16) func117 rfl ntmps117 tK rfl (fun ρ L => ?_)
 refine ky<|kl (l_box rfl rfl) ?_
 rintro _ _ ⟨b1, rfl, rfl⟩
 refine kl (lL zo_62) ?_
 rintro _ _ ⟨b2, rfl, rfl⟩
 refine zm<|ke<|K.st (fun w h => rowO_nil (k := Kd.rw) 136 h)<|kr<|kq (qO fo_62_3 rfl)<|kq (qD ck_59 rfl)<|kl (lX Kd.rw (xs := []) (ys := o.x.rows) se_59 underlying59 ⟨_, ze_136, rfl⟩ tD rfl rfl tP isF tM rfl rfl (by show (2 * (0 + o.x.rows.length) + 768) * _ ≤ _; omega)) ?_
 rintro _ _ ⟨qa, ca, rfl, rfl⟩
 rw [List.nil_append]
 refine kq (qO fo_62_3 rfl)<|kN rfl (lA ck_59 rfl rfl rfl tP tA) ?_
 rintro _ _ ⟨rfl, rfl⟩
 refine zm<|ke<|K.st (fun w h => rowO_nil (k := Kd.msg) 56 h)<|kr<|kq (qO fo_62_4 rfl)<|kq (qD ck_60 rfl)<|kl (lX Kd.msg (xs := []) (ys := o.x.msgs) se_60 underlying60 ⟨_, ze_56, rfl⟩ tD rfl rfl tP isF tM rfl rfl (by show (2 * (0 + o.x.msgs.length) + 768) * _ ≤ _; omega)) ?_
 rintro _ _ ⟨qb, cb, rfl, rfl⟩
 rw [List.nil_append]
 refine kq (qO fo_62_4 rfl)<|kN rfl (lA ck_60 rfl rfl rfl tP tA) ?_
 rintro _ _ ⟨rfl, rfl⟩
 refine zm<|ke<|K.st (fun w h => rowO_nil (k := Kd.msg) 56 h)<|kr<|kq (qO fo_62_5 rfl)<|kq (qD ck_60 rfl)<|kl (lX Kd.msg (xs := []) (ys := o.x.dead) se_60 underlying60 ⟨_, ze_56, rfl⟩ tD rfl rfl tP isF tM rfl rfl (by show (2 * (0 + o.x.dead.length) + 768) * _ ≤ _; omega)) ?_
 rintro _ _ ⟨qc, cc, rfl, rfl⟩
 rw [List.nil_append]
 refine kq (qO fo_62_5 rfl)<|kN rfl (lA ck_60 rfl rfl rfl tP tA) ?_
 rintro _ _ ⟨rfl, rfl⟩
 refine kz<|kq (q_as (qL ck_62 rfl rfl tC) (show _ = Oz.cells ⟨o.x, ⟨qa, ca, qb, cb, qc, cc⟩⟩ from rfl))<|kN rfl (lS ck_62 rfl rfl ⟨rfl, rfl⟩ (oz_one _) tP) ?_
 rintro _ _ ⟨rfl, rfl⟩
 refine zm ?_
 refine K.ret (fn := Tryz.f117) func117 (fun a w hk hs => resC results117 hk rfl ck_62 rfl (cP tM w hs)) (fun w hs => ?_)
 exact ⟨_, ObO ⟨o.x, ⟨qa, ca, qb, cb, qc, cc⟩⟩, rfl, ⟨⟨qa, ca, qb, cb, qc, cc⟩, rfl, rfl, rC (e := 136) (k := Kd.rw) (p := qa) (cap := ca) (xs := o.x.rows) tM w hs, rC (e := 56) (k := Kd.msg) (p := qb) (cap := cb) (xs := o.x.msgs) tM w hs, rC (e := 56) (k := Kd.msg) (p := qc) (cap := cc) (xs := o.x.dead) tM w hs⟩, hs.fitD⟩
set_option maxHeartbeats 3200000 in
theorem ref_Free (o : Oz) (id : Int) (tried : Bool) (hl : o.le 1000000000) (hoc : o.cap) (hs0 : ∀ m ∈ o.x.msgs, -9223372036854775808 ≤ m.retry) : Fn Tryz.prog 159 [.agg o.cells.toArray, .int .i64 id, .bool tried].toArray (ObL o) (fun r post => ∃ z, r = .tuple #[.agg (Oz.cells ⟨(freeO o.x id tried).1, z⟩).toArray, .bool (freeO o.x id tried).2] ∧ post = ObL ⟨(freeO o.x id tried).1, z⟩ ∧ Oz.cap ⟨(freeO o.x id tried).1, z⟩) := by
 have hl' := hl
 obtain ⟨hl1, hl2, hl3⟩ := hl
 have hlc : o.x.msgs.length ≤ o.z.c2 := hoc.2.1
 refine Fn.enter (N := 76) func159 rfl ntmps159 tK rfl (fun ρ L => ?_)
 refine ky<|kl (l_box rfl rfl) ?_
 rintro _ _ ⟨b3, rfl, rfl⟩
 refine kl (lL zo_62) ?_
 rintro _ _ ⟨b6, rfl, rfl⟩
 refine ka rfl<|kz<|kq (qL ck_62 rfl rfl tC)<|kl (kc rfl (h := ref_CopyObject o hl')) ?_
 rintro _ _ ⟨_, ⟨z, rfl, rfl, hcap⟩, rfl⟩
 obtain ⟨qa, ca, qb, cb, qc, cc⟩ := z
 obtain ⟨ha, hb, hc⟩ := hcap
 have ha : o.x.rows.length ≤ ca := ha
 have hb : o.x.msgs.length ≤ cb := hb
 have hc : o.x.dead.length ≤ cc := hc
 refine kl (lL zo_62) ?_
 rintro _ _ ⟨b8, rfl, rfl⟩
 refine kN rfl (lS ck_62 rfl rfl ⟨rfl, rfl⟩ (oz_one _) tP) ?_
 rintro _ _ ⟨rfl, rfl⟩
 refine kz<|kq (qO fo_62_4 rfl)<|kq (qD ck_60 rfl)<|km rfl<|kl (kc rfl (h := ref_FindMsg o.z.q2 o.z.c2 o.x.msgs id tO)) ?_
 rintro _ _ ⟨_, ⟨rfl, rfl⟩, rfl⟩
 refine ka rfl<|zm<|ke<|ky<|km rfl<|kq (q_lt rfl rfl)<|km rfl ?_
 refine KO.dsplit 20 rfl (fun g20 => ?_) (fun g20 => ?_)
 ·have hr : freeO o.x id tried = (o.x, false) := by unfold freeO; rw [if_pos (show findM o.x.msgs id < 0 from g20)]
  refine zq<|zq<|zq<|zq<|zq<|zq<|zq<|kq (qT rfl rfl)<|zm<|K.yes rfl<|ky<|kq (q_as (qL ck_62 rfl rfl tC) (show _ = Oz.cells ⟨o.x, ⟨qa, ca, qb, cb, qc, cc⟩⟩ from rfl))<|kN rfl (lS ck_62 rfl rfl ⟨rfl, rfl⟩ (oz_one _) tP) ?_
  rintro _ _ ⟨rfl, rfl⟩
  refine ka rfl<|zm ?_
  refine K.ret (fn := Tryz.f159) func159 (fun a w hk hs => resCT results159 hk rfl ck_62 rfl (cP tM w hs) rfl) (fun w hs => ?_)
  rw [hr]
  exact ⟨_, ObL ⟨o.x, ⟨qa, ca, qb, cb, qc, cc⟩⟩, rfl, ⟨⟨qa, ca, qb, cb, qc, cc⟩, rfl, rfl, ha, hb, hc⟩, obO_freeze (o := ⟨o.x, ⟨qa, ca, qb, cb, qc, cc⟩⟩) (hs.fit (M := ObO ⟨o.x, ⟨qa, ca, qb, cb, qc, cc⟩⟩) tG (by repeat (first | exact Drop.refl | apply Drop.skip)))⟩
 ·obtain ⟨i, x, hx, hi, _⟩ := idxP_nat g20
  have hi : findM o.x.msgs id = (i : Int) := hi
  have hg20 : ¬ findM o.x.msgs id < 0 := g20
  have hil := (List.getElem?_eq_some_iff.1 hx).1
  have hgd : o.x.msgs.getD (findM o.x.msgs id).toNat ⟨0, 0, 0, false, ⟨#[]⟩, ⟨#[]⟩⟩ = x := by rw [hi, Int.toNat_natCast]; exact gd_at hx
  have hx0 := hs0 x (List.mem_of_getElem? hx)
  have hi2 : idxP (fun m => decide (m.id = id)) o.x.msgs = (i : Int) := hi
  rw [hi2]
  refine kq (qO fo_62_4 rfl)<|kq (qD ck_60 rfl)<|km rfl<|kq (q_ix (xs := o.x.msgs) i se_60 rfl rfl rfl isF tM rfl hil)<|kq (qE fo_56_3 rfl)<|kq (q_ldE (xs := o.x.msgs) ck_4 rfl isF tM hx rfl)<|kq (q_not rfl)<|kq (qF rfl rfl)<|zm ?_
  refine kT (s := 28) rfl (fun g28 => ?_) (fun g28 => ?_)
  ·have hr : freeO o.x id tried = (o.x, false) := by unfold freeO; rw [if_neg hg20, hgd, if_pos (by simpa using g28)]
   refine ky<|kq (q_as (qL ck_62 rfl rfl tC) (show _ = Oz.cells ⟨o.x, ⟨qa, ca, qb, cb, qc, cc⟩⟩ from rfl))<|kN rfl (lS ck_62 rfl rfl ⟨rfl, rfl⟩ (oz_one _) tP) ?_
   rintro _ _ ⟨rfl, rfl⟩
   refine ka rfl<|zm ?_
   refine K.ret (fn := Tryz.f159) func159 (fun a w hk hs => resCT results159 hk rfl ck_62 rfl (cP tM w hs) rfl) (fun w hs => ?_)
   rw [hr]
   exact ⟨_, ObL ⟨o.x, ⟨qa, ca, qb, cb, qc, cc⟩⟩, rfl, ⟨⟨qa, ca, qb, cb, qc, cc⟩, rfl, rfl, ha, hb, hc⟩, obO_freeze (o := ⟨o.x, ⟨qa, ca, qb, cb, qc, cc⟩⟩) (hs.fit (M := ObO ⟨o.x, ⟨qa, ca, qb, cb, qc, cc⟩⟩) tG (by repeat (first | exact Drop.refl | apply Drop.skip)))⟩
  ·have hcl : ¬ x.claimed = false := by simpa using g28
   refine za<|ke<|ky<|km rfl<|kq (q_not rfl)<|zm ?_
   refine kT (s := 31) rfl (fun g31 => ?_) (fun g31 => ?_)
   ·have hr : freeO o.x id tried = ({ o.x with msgs := o.x.msgs.set i { x with claimed := false } }, true) := by unfold freeO; rw [if_neg hg20, hgd, if_neg hcl, if_pos (by simpa using g31), hi]; rfl
    have hsl : (o.x.msgs.set i { x with claimed := false }).length = o.x.msgs.length := List.length_set
    refine ky<|kq (qO fo_62_4 rfl)<|kq (qD ck_60 rfl)<|km rfl<|kq (q_ix (xs := o.x.msgs) i se_60 rfl rfl rfl isO tM rfl hil)<|kq (qE fo_56_3 rfl)<|kN rfl (lP (el := x) { x with claimed := false } ck_4 rfl rfl rfl tP hx tD rfl) ?_
    rintro _ _ ⟨rfl, rfl⟩
    refine kz<|kq (q_as (qL ck_62 rfl rfl tC) (show _ = Oz.cells ⟨{ o.x with msgs := o.x.msgs.set i { x with claimed := false } }, ⟨qa, ca, qb, cb, qc, cc⟩⟩ by show _ = [_, _, _, _, Value.slice qb (o.x.msgs.set i { x with claimed := false }).length cb, _]; rw [hsl]; rfl))<|kN rfl (lS ck_62 rfl rfl ⟨rfl, rfl⟩ (oz_one _) tP) ?_
    rintro _ _ ⟨rfl, rfl⟩
    refine ka rfl<|zm ?_
    refine K.ret (fn := Tryz.f159) func159 (fun a w hk hs => resCT results159 hk rfl ck_62 rfl (cP tM w hs) rfl) (fun w hs => ?_)
    rw [hr]
    exact ⟨_, ObL ⟨{ o.x with msgs := o.x.msgs.set i { x with claimed := false } }, ⟨qa, ca, qb, cb, qc, cc⟩⟩, rfl, ⟨⟨qa, ca, qb, cb, qc, cc⟩, rfl, rfl, ha, (by show (o.x.msgs.set i _).length ≤ cb; rw [hsl]; exact hb), hc⟩, obO_freeze (o := ⟨{ o.x with msgs := o.x.msgs.set i { x with claimed := false } }, ⟨qa, ca, qb, cb, qc, cc⟩⟩) (hs.fit (M := ObO ⟨{ o.x with msgs := o.x.msgs.set i { x with claimed := false } }, ⟨qa, ca, qb, cb, qc, cc⟩⟩) tG (by repeat (first | exact Drop.refl | apply Drop.skip)))⟩
   ·have htr : ¬ tried = false := by simpa using g31
    refine za<|ke<|K.drawS [pv b3 62 o.cells, RowF Kd.msg o.z.q2 o.x.msgs] (fun _ h => h.subD) mixed<|dq 0 rfl (qO fo_62_4 rfl)<|dq 1 rfl (qD ck_60 rfl)<|dq 2 rfl (q_move rfl)<|dq 3 rfl (q_ix (xs := o.x.msgs) i se_60 rfl rfl rfl isF tM rfl hil)<|dq 4 rfl (q_ldEN (xs := o.x.msgs) ck_56 rfl isF tM hx)<|dq 5 rfl (qO fo_62_2 rfl)<|dq 6 rfl (qD ck_3 rfl) ?_
    refine D.all (rs := [7, 11]) tK rfl (DAll.cons rfl tK (kc rfl (h := ref_Tried x o.x.limit hx0)) (.inr (by rintro _ _ ⟨_, ⟨rfl, rfl⟩, rfl⟩ w h; exact h.subD)) rfl ?_ (DAll.cons rfl tK (lL zo_56) (.inr (by rintro _ _ ⟨b10, rfl, rfl⟩ w h; exact h.subD)) rfl ?_ DAll.nil))
    ·rintro _ _ ⟨_, ⟨rfl, rfl⟩, rfl⟩
     refine dq 8 rfl (q_move rfl)<|dq 9 rfl (qX rfl rfl)<|dq 10 rfl (qX rfl rfl)<|dq1 11 rfl (lL zo_56) (.inr (by rintro _ _ ⟨b10, rfl, rfl⟩ w h; exact h.subD)) ?_
     rintro _ _ ⟨b10, rfl, rfl⟩
     refine dq1N 12 rfl (lS ck_56 rfl rfl ⟨rfl, rfl⟩ (msg_one _) tP) (.inr (by rintro _ _ ⟨rfl, rfl⟩ w h; exact h.subD)) ?_
     rintro _ _ ⟨rfl, rfl⟩
     refine dq 13 rfl (q_assign rfl)<|D.done tK<|ke<|ky<|km rfl<|kq (q_not rfl)<|zm ?_
     refine kT (s := 50) rfl (fun g50 => ?_) (fun g50 => ?_)
     ·have hr : freeO o.x id tried = ({ o.x with msgs := o.x.msgs.set i x.tried }, true) := by unfold freeO; rw [if_neg hg20, hgd, if_neg hcl, if_neg htr, if_neg (by simpa using g50), hi]; rfl
      have hsl : (o.x.msgs.set i x.tried).length = o.x.msgs.length := List.length_set
      refine ky<|kq (qO fo_62_4 rfl)<|kq (qD ck_60 rfl)<|km rfl<|kq (qL ck_56 rfl rfl tC)<|kq (q_ix (xs := o.x.msgs) i se_60 rfl rfl rfl isO tM rfl hil)<|kN rfl (l_storeEN x.tried ck_56 rfl rfl tP hil) ?_
      rintro _ _ ⟨rfl, rfl⟩
      refine kz<|kq (q_as (qL ck_62 rfl rfl tC) (show _ = Oz.cells ⟨{ o.x with msgs := o.x.msgs.set i x.tried }, ⟨qa, ca, qb, cb, qc, cc⟩⟩ by show _ = [_, _, _, _, Value.slice qb (o.x.msgs.set i x.tried).length cb, _]; rw [hsl]; rfl))<|kN rfl (lS ck_62 rfl rfl ⟨rfl, rfl⟩ (oz_one _) tP) ?_
      rintro _ _ ⟨rfl, rfl⟩
      refine ka rfl<|zm ?_
      refine K.ret (fn := Tryz.f159) func159 (fun a w hk hs => resCT results159 hk rfl ck_62 rfl (cP tM w hs) rfl) (fun w hs => ?_)
      rw [hr]
      exact ⟨_, ObL ⟨{ o.x with msgs := o.x.msgs.set i x.tried }, ⟨qa, ca, qb, cb, qc, cc⟩⟩, rfl, ⟨⟨qa, ca, qb, cb, qc, cc⟩, rfl, rfl, ha, (by show (o.x.msgs.set i _).length ≤ cb; rw [hsl]; exact hb), hc⟩, obO_freeze (o := ⟨{ o.x with msgs := o.x.msgs.set i x.tried }, ⟨qa, ca, qb, cb, qc, cc⟩⟩) (hs.fit (M := ObO ⟨{ o.x with msgs := o.x.msgs.set i x.tried }, ⟨qa, ca, qb, cb, qc, cc⟩⟩) tG (by repeat (first | exact Drop.refl | apply Drop.skip)))⟩
     ·have hr : freeO o.x id tried = ({ o.x with msgs := o.x.msgs.eraseIdx i, dead := o.x.dead ++ [x.tried] }, true) := by unfold freeO; rw [if_neg hg20, hgd, if_neg hcl, if_neg htr, if_pos (by simpa using g50), hi]; rfl
      have hdk : (o.x.msgs.drop (i + 1)).length = o.x.msgs.length - (i + 1) := by rw [List.length_drop]
      have htk : (o.x.msgs.take i).length = i := by rw [List.length_take]; omega
      refine K.st (fun w h => rowF_take (k := Kd.msg) (p := o.z.q2) (xs := o.x.msgs) i tM h)<|K.st (fun w h => rowF_cut (k := Kd.msg) (p := o.z.q2) (xs := o.x.msgs) (cap := o.z.c2) (i + 1) hlc tM h)<|K.st (fun w h => rowO_nil (k := Kd.msg) 56 h)<|za<|ke<|K.drawS [pv b3 62 o.cells] (fun _ h => h.subD) mixed<|dq 0 rfl (qO fo_62_4 rfl)<|dq 1 rfl (qD ck_60 rfl)<|dq 2 rfl (q_move rfl)<|dq 3 rfl (q_is (q_cutH se_60 rfl rfl tO tO) (show Value.slice o.z.q2 (i : Int).toNat o.z.c2 = Value.slice o.z.q2 (o.x.msgs.take i).length o.z.c2 by rw [htk]; rfl))<|dq 5 rfl (qO fo_62_4 rfl)<|dq 6 rfl (qD ck_60 rfl)<|dq 7 rfl (q_move rfl)<|dq 8 rfl (q_add rfl rfl tN tN)<|dq 9 rfl (q_is (q_cutL se_60 rfl rfl tO tO hlc) (show Value.slice (cutAddr o.z.q2 o.z.c2 ((i : Int) + 1).toNat 6) (o.x.msgs.length - ((i : Int) + 1).toNat) (o.z.c2 - ((i : Int) + 1).toNat) = Value.slice (cutAddr o.z.q2 o.z.c2 (i + 1) 6) (o.x.msgs.drop (i + 1)).length (o.z.c2 - (i + 1)) by rw [hdk]; rfl))<|dq1 4 rfl (lX Kd.msg (xs := []) (ys := o.x.msgs.take i) se_60 underlying60 ⟨_, ze_56, rfl⟩ tD rfl rfl tP isF tM rfl rfl (by show (2 * (0 + (o.x.msgs.take i).length) + 768) * _ ≤ _; omega)) (.inr (by rintro _ _ ⟨q2, c2, rfl, rfl⟩ w h; exact h.subD)) ?_
      rintro _ _ ⟨q2, c2, rfl, rfl⟩
      refine dq1 10 rfl (lX Kd.msg (ys := o.x.msgs.drop (i + 1)) se_60 underlying60 ⟨_, ze_56, rfl⟩ tD rfl rfl tP isF tM rfl rfl (by show (2 * (([] ++ o.x.msgs.take i).length + (o.x.msgs.drop (i + 1)).length) + 768) * _ ≤ _; rw [List.nil_append]; omega)) (.inr (by rintro _ _ ⟨qm, cm, rfl, rfl⟩ w h; exact h.subD)) ?_
      rintro _ _ ⟨qm, cm, rfl, rfl⟩
      rw [List.nil_append, ← List.eraseIdx_eq_take_drop_succ]
      refine dq 11 rfl (qO fo_62_4 rfl)<|dq1N 12 rfl (lA ck_60 rfl rfl rfl tP tA) (.inl tK) ?_
      rintro _ _ ⟨rfl, rfl⟩
      refine D.done tK<|ky<|kq (qO fo_62_5 rfl)<|kq (qD ck_60 rfl)<|kq (qL ck_56 rfl rfl tC)<|kl (lO sz_60_1 rfl rfl ⟨rfl, rfl, rfl⟩) ?_
      rintro _ _ ⟨b72, rfl, rfl⟩
      refine kl (lX Kd.msg (ys := [x.tried]) se_60 underlying60 ⟨_, ze_msg, rfl⟩ tD rfl rfl tP isP tM rfl rfl (by show (2 * (o.x.dead.length + 1) + 768) * 64 ≤ _; omega)) ?_
      rintro _ _ ⟨pn, dn, rfl, rfl⟩
      refine kq (qO fo_62_5 rfl)<|kN rfl (lA ck_60 rfl rfl rfl tP tA) ?_
      rintro _ _ ⟨rfl, rfl⟩
      refine kz<|kq (q_as (qL ck_62 rfl rfl tC) (show _ = Oz.cells ⟨{ o.x with msgs := o.x.msgs.eraseIdx i, dead := o.x.dead ++ [x.tried] }, ⟨qa, ca, qm, cm, pn, dn⟩⟩ from rfl))<|kN rfl (lS ck_62 rfl rfl ⟨rfl, rfl⟩ (oz_one _) tP) ?_
      rintro _ _ ⟨rfl, rfl⟩
      refine ka rfl<|zm ?_
      refine K.ret (fn := Tryz.f159) func159 (fun a w hk hs => resCT results159 hk rfl ck_62 rfl (cP tM w hs) rfl) (fun w hs => ?_)
      rw [hr]
      have hc1 := rC (e := 56) (k := Kd.msg) (p := qm) (cap := cm) (xs := o.x.msgs.eraseIdx i) tM w hs
      have hc2 := rC (e := 56) (k := Kd.msg) (p := pn) (cap := dn) (xs := o.x.dead ++ [x.tried]) tM w hs
      exact ⟨_, ObL ⟨{ o.x with msgs := o.x.msgs.eraseIdx i, dead := o.x.dead ++ [x.tried] }, ⟨qa, ca, qm, cm, pn, dn⟩⟩, rfl, ⟨⟨qa, ca, qm, cm, pn, dn⟩, rfl, rfl, ha, hc1, hc2⟩, obO_freeze (o := ⟨{ o.x with msgs := o.x.msgs.eraseIdx i, dead := o.x.dead ++ [x.tried] }, ⟨qa, ca, qm, cm, pn, dn⟩⟩) (hs.fit (M := ObO ⟨{ o.x with msgs := o.x.msgs.eraseIdx i, dead := o.x.dead ++ [x.tried] }, ⟨qa, ca, qm, cm, pn, dn⟩⟩) tG (by repeat (first | exact Drop.refl | apply Drop.skip)))⟩
    ·rintro _ _ ⟨b10, rfl, rfl⟩
     refine dq1 7 rfl (kc rfl (h := ref_Tried x o.x.limit hx0)) (.inr (by rintro _ _ ⟨_, ⟨rfl, rfl⟩, rfl⟩ w h; exact h.subD)) ?_
     rintro _ _ ⟨_, ⟨rfl, rfl⟩, rfl⟩
     refine dq 8 rfl (q_move rfl)<|dq 9 rfl (qX rfl rfl)<|dq 10 rfl (qX rfl rfl)<|dq1N 12 rfl (lS ck_56 rfl rfl ⟨rfl, rfl⟩ (msg_one _) tP) (.inr (by rintro _ _ ⟨rfl, rfl⟩ w h; exact h.subD)) ?_
     rintro _ _ ⟨rfl, rfl⟩
     refine dq 13 rfl (q_assign rfl)<|D.done tK<|ke<|ky<|km rfl<|kq (q_not rfl)<|zm ?_
     refine kT (s := 50) rfl (fun g50 => ?_) (fun g50 => ?_)
     ·have hr : freeO o.x id tried = ({ o.x with msgs := o.x.msgs.set i x.tried }, true) := by unfold freeO; rw [if_neg hg20, hgd, if_neg hcl, if_neg htr, if_neg (by simpa using g50), hi]; rfl
      have hsl : (o.x.msgs.set i x.tried).length = o.x.msgs.length := List.length_set
      refine ky<|kq (qO fo_62_4 rfl)<|kq (qD ck_60 rfl)<|km rfl<|kq (qL ck_56 rfl rfl tC)<|kq (q_ix (xs := o.x.msgs) i se_60 rfl rfl rfl isO tM rfl hil)<|kN rfl (l_storeEN x.tried ck_56 rfl rfl tP hil) ?_
      rintro _ _ ⟨rfl, rfl⟩
      refine kz<|kq (q_as (qL ck_62 rfl rfl tC) (show _ = Oz.cells ⟨{ o.x with msgs := o.x.msgs.set i x.tried }, ⟨qa, ca, qb, cb, qc, cc⟩⟩ by show _ = [_, _, _, _, Value.slice qb (o.x.msgs.set i x.tried).length cb, _]; rw [hsl]; rfl))<|kN rfl (lS ck_62 rfl rfl ⟨rfl, rfl⟩ (oz_one _) tP) ?_
      rintro _ _ ⟨rfl, rfl⟩
      refine ka rfl<|zm ?_
      refine K.ret (fn := Tryz.f159) func159 (fun a w hk hs => resCT results159 hk rfl ck_62 rfl (cP tM w hs) rfl) (fun w hs => ?_)
      rw [hr]
      exact ⟨_, ObL ⟨{ o.x with msgs := o.x.msgs.set i x.tried }, ⟨qa, ca, qb, cb, qc, cc⟩⟩, rfl, ⟨⟨qa, ca, qb, cb, qc, cc⟩, rfl, rfl, ha, (by show (o.x.msgs.set i _).length ≤ cb; rw [hsl]; exact hb), hc⟩, obO_freeze (o := ⟨{ o.x with msgs := o.x.msgs.set i x.tried }, ⟨qa, ca, qb, cb, qc, cc⟩⟩) (hs.fit (M := ObO ⟨{ o.x with msgs := o.x.msgs.set i x.tried }, ⟨qa, ca, qb, cb, qc, cc⟩⟩) tG (by repeat (first | exact Drop.refl | apply Drop.skip)))⟩
     ·have hr : freeO o.x id tried = ({ o.x with msgs := o.x.msgs.eraseIdx i, dead := o.x.dead ++ [x.tried] }, true) := by unfold freeO; rw [if_neg hg20, hgd, if_neg hcl, if_neg htr, if_pos (by simpa using g50), hi]; rfl
      have hdk : (o.x.msgs.drop (i + 1)).length = o.x.msgs.length - (i + 1) := by rw [List.length_drop]
      have htk : (o.x.msgs.take i).length = i := by rw [List.length_take]; omega
      refine K.st (fun w h => rowF_take (k := Kd.msg) (p := o.z.q2) (xs := o.x.msgs) i tM h)<|K.st (fun w h => rowF_cut (k := Kd.msg) (p := o.z.q2) (xs := o.x.msgs) (cap := o.z.c2) (i + 1) hlc tM h)<|K.st (fun w h => rowO_nil (k := Kd.msg) 56 h)<|za<|ke<|K.drawS [pv b3 62 o.cells] (fun _ h => h.subD) mixed<|dq 0 rfl (qO fo_62_4 rfl)<|dq 1 rfl (qD ck_60 rfl)<|dq 2 rfl (q_move rfl)<|dq 3 rfl (q_is (q_cutH se_60 rfl rfl tO tO) (show Value.slice o.z.q2 (i : Int).toNat o.z.c2 = Value.slice o.z.q2 (o.x.msgs.take i).length o.z.c2 by rw [htk]; rfl))<|dq 5 rfl (qO fo_62_4 rfl)<|dq 6 rfl (qD ck_60 rfl)<|dq 7 rfl (q_move rfl)<|dq 8 rfl (q_add rfl rfl tN tN)<|dq 9 rfl (q_is (q_cutL se_60 rfl rfl tO tO hlc) (show Value.slice (cutAddr o.z.q2 o.z.c2 ((i : Int) + 1).toNat 6) (o.x.msgs.length - ((i : Int) + 1).toNat) (o.z.c2 - ((i : Int) + 1).toNat) = Value.slice (cutAddr o.z.q2 o.z.c2 (i + 1) 6) (o.x.msgs.drop (i + 1)).length (o.z.c2 - (i + 1)) by rw [hdk]; rfl))<|dq1 4 rfl (lX Kd.msg (xs := []) (ys := o.x.msgs.take i) se_60 underlying60 ⟨_, ze_56, rfl⟩ tD rfl rfl tP isF tM rfl rfl (by show (2 * (0 + (o.x.msgs.take i).length) + 768) * _ ≤ _; omega)) (.inr (by rintro _ _ ⟨q2, c2, rfl, rfl⟩ w h; exact h.subD)) ?_
      rintro _ _ ⟨q2, c2, rfl, rfl⟩
      refine dq1 10 rfl (lX Kd.msg (ys := o.x.msgs.drop (i + 1)) se_60 underlying60 ⟨_, ze_56, rfl⟩ tD rfl rfl tP isF tM rfl rfl (by show (2 * (([] ++ o.x.msgs.take i).length + (o.x.msgs.drop (i + 1)).length) + 768) * _ ≤ _; rw [List.nil_append]; omega)) (.inr (by rintro _ _ ⟨qm, cm, rfl, rfl⟩ w h; exact h.subD)) ?_
      rintro _ _ ⟨qm, cm, rfl, rfl⟩
      rw [List.nil_append, ← List.eraseIdx_eq_take_drop_succ]
      refine dq 11 rfl (qO fo_62_4 rfl)<|dq1N 12 rfl (lA ck_60 rfl rfl rfl tP tA) (.inl tK) ?_
      rintro _ _ ⟨rfl, rfl⟩
      refine D.done tK<|ky<|kq (qO fo_62_5 rfl)<|kq (qD ck_60 rfl)<|kq (qL ck_56 rfl rfl tC)<|kl (lO sz_60_1 rfl rfl ⟨rfl, rfl, rfl⟩) ?_
      rintro _ _ ⟨b72, rfl, rfl⟩
      refine kl (lX Kd.msg (ys := [x.tried]) se_60 underlying60 ⟨_, ze_msg, rfl⟩ tD rfl rfl tP isP tM rfl rfl (by show (2 * (o.x.dead.length + 1) + 768) * 64 ≤ _; omega)) ?_
      rintro _ _ ⟨pn, dn, rfl, rfl⟩
      refine kq (qO fo_62_5 rfl)<|kN rfl (lA ck_60 rfl rfl rfl tP tA) ?_
      rintro _ _ ⟨rfl, rfl⟩
      refine kz<|kq (q_as (qL ck_62 rfl rfl tC) (show _ = Oz.cells ⟨{ o.x with msgs := o.x.msgs.eraseIdx i, dead := o.x.dead ++ [x.tried] }, ⟨qa, ca, qm, cm, pn, dn⟩⟩ from rfl))<|kN rfl (lS ck_62 rfl rfl ⟨rfl, rfl⟩ (oz_one _) tP) ?_
      rintro _ _ ⟨rfl, rfl⟩
      refine ka rfl<|zm ?_
      refine K.ret (fn := Tryz.f159) func159 (fun a w hk hs => resCT results159 hk rfl ck_62 rfl (cP tM w hs) rfl) (fun w hs => ?_)
      rw [hr]
      have hc1 := rC (e := 56) (k := Kd.msg) (p := qm) (cap := cm) (xs := o.x.msgs.eraseIdx i) tM w hs
      have hc2 := rC (e := 56) (k := Kd.msg) (p := pn) (cap := dn) (xs := o.x.dead ++ [x.tried]) tM w hs
      exact ⟨_, ObL ⟨{ o.x with msgs := o.x.msgs.eraseIdx i, dead := o.x.dead ++ [x.tried] }, ⟨qa, ca, qm, cm, pn, dn⟩⟩, rfl, ⟨⟨qa, ca, qm, cm, pn, dn⟩, rfl, rfl, ha, hc1, hc2⟩, obO_freeze (o := ⟨{ o.x with msgs := o.x.msgs.eraseIdx i, dead := o.x.dead ++ [x.tried] }, ⟨qa, ca, qm, cm, pn, dn⟩⟩) (hs.fit (M := ObO ⟨{ o.x with msgs := o.x.msgs.eraseIdx i, dead := o.x.dead ++ [x.tried] }, ⟨qa, ca, qm, cm, pn, dn⟩⟩) tG (by repeat (first | exact Drop.refl | apply Drop.skip)))⟩
end Go.Proofs.YtkbhldicnamcdaaGreat.L
namespace Go.Proofs.YtkbhldicnamcdaaGreat.L
open Go Go.Proofs
theorem adj_pair {α : Type} {f : α → α → Bool} (ht : ∀ a b c, f a b = true → f b c = true → f a c = true) : ∀ {l : List α}, adj f l = true → l.Pairwise (fun a b => f a b = true)
 | [], _ => List.Pairwise.nil
 | [a], _ => List.pairwise_singleton _ _
 | a :: b :: l, h => by
  simp only [adj, Bool.and_eq_true] at h
  have ih := adj_pair ht h.2
  refine List.pairwise_cons.2 ⟨fun x hx => ?_, ih⟩
  rcases List.mem_cons.1 hx with rfl | hx
  ·exact h.1
  ·exact ht a b x h.1 ((List.pairwise_cons.1 ih).1 x hx)
structure SR (s : Stt) : Prop where
 obj : ∀ o ∈ s.objs, o.right = true
 names : s.objs.Pairwise (fun a b => cmpB a.name b.name < 0)
 ids : s.ids.Nodup
 len : s.objs.length ≤ 20
 nx : 1 ≤ s.next ∧ s.next ≤ 1099511627776
 lt : ∀ n ∈ s.ids, n < s.next
theorem right_SR {s : Stt} (h : s.right = true) : SR s := by
 unfold Stt.right Stt.once at h
 simp only [Bool.and_eq_true, decide_eq_true_eq, List.all_eq_true] at h
 obtain ⟨⟨⟨⟨⟨h1, h2⟩, h3⟩, h4⟩, h5⟩, h6, h7⟩ := h
 refine ⟨h4, ?_, h6, by omega, ⟨h1, h2⟩, fun n hn => h7 n hn⟩
 exact (adj_pair (f := fun a b : Ob => decide (cmpB a.name b.name < 0)) (fun a b c h1 h2 => decide_eq_true (cmpB_trans (of_decide_eq_true h1) (of_decide_eq_true h2))) h5).imp fun h => of_decide_eq_true h
def freed (lim : Int) (l : List Msg) : List Msg := l.filterMap (fun m => if m.claimed = true then (if lim ≤ m.tried.retry then none else some m.tried) else some m)
def gone (lim : Int) (l : List Msg) : List Msg := l.filterMap (fun m => if m.claimed = true ∧ lim ≤ m.tried.retry then some m.tried else none)
def freedO (o : Ob) : Ob := { o with msgs := freed o.limit o.msgs, dead := o.dead ++ gone o.limit o.msgs }
theorem freed_app (lim : Int) (a b : List Msg) : freed lim (a ++ b) = freed lim a ++ freed lim b := List.filterMap_append
theorem gone_app (lim : Int) (a b : List Msg) : gone lim (a ++ b) = gone lim a ++ gone lim b := List.filterMap_append
theorem freed_sub (lim : Int) : ∀ l : List Msg, ((freed lim l).map (·.id)).Sublist (l.map (·.id))
 | [] => List.Sublist.slnil
 | m :: l => by
  have ih := freed_sub lim l
  unfold freed at ih ⊢
  rw [List.filterMap_cons]
  by_cases hc : m.claimed = true
  ·rw [if_pos hc]
   by_cases hl : lim ≤ m.tried.retry
   ·rw [if_pos hl]; exact List.Sublist.cons _ ih
   ·rw [if_neg hl]; exact List.Sublist.cons_cons _ ih
  ·rw [if_neg hc]; exact List.Sublist.cons_cons _ ih
theorem freed_len (lim : Int) : ∀ l : List Msg, (freed lim l).length + (gone lim l).length = l.length
 | [] => rfl
 | m :: l => by
  have ih := freed_len lim l
  unfold freed gone at ih ⊢
  rw [List.filterMap_cons, List.filterMap_cons]
  by_cases hc : m.claimed = true
  ·rw [if_pos hc]
   by_cases hl : lim ≤ m.tried.retry
   ·rw [if_pos hl, if_pos ⟨hc, hl⟩]; simp only [List.length_cons]; omega
   ·rw [if_neg hl, if_neg (fun h => hl h.2)]; simp only [List.length_cons]; omega
  ·rw [if_neg hc, if_neg (fun h => hc h.1)]; simp only [List.length_cons]; omega
theorem find_at {l r : List Msg} {m : Msg} (h : m.id ∉ l.map (·.id)) : findM (l ++ m :: r) m.id = (l.length : Int) := by
 unfold findM
 refine idxP_some (x := m) (by rw [List.getElem?_append_right (Nat.le_refl _), Nat.sub_self]; rfl) (decide_eq_true rfl) (List.any_eq_false.2 fun x hx => ?_)
 rw [List.take_left' rfl] at hx
 intro he
 exact h (List.mem_map.2 ⟨x, hx, of_decide_eq_true he⟩)
def claimE (name : ByteArray) (id : Int) : Eff := ⟨7, name, ⟨#[]⟩, ⟨#[]⟩, id, 0, true, ⟨0, 0, 0, false, ⟨#[]⟩, ⟨#[]⟩⟩⟩
theorem claimE_right {name : ByteArray} {id : Int} (h1 : effName name = true) (h2 : effId id = true) : (claimE name id).right = true := by
 have hn : claimE name id = (claimE name id).named := rfl
 have hk : (claimE name id).rightK = (effName name && effId id) := rfl
 unfold Eff.right
 rw [← hn, decide_eq_true rfl, hk, h1, h2]
 rfl
theorem free_step {o : Ob} {p l : List Msg} {m : Msg} (hp : o.msgs = p ++ m :: l) (hn : (o.msgs.map (·.id)).Nodup) (hc : m.claimed = true) :
  freeO { o with msgs := freed o.limit p ++ m :: l, dead := o.dead ++ gone o.limit p } m.id true = ({ o with msgs := freed o.limit (p ++ [m]) ++ l, dead := o.dead ++ gone o.limit (p ++ [m]) }, true) := by
 have hni : m.id ∉ (freed o.limit p).map (·.id) := by
  intro h
  have h1 := (freed_sub o.limit p).subset h
  rw [hp, List.map_append, List.map_cons, List.nodup_append] at hn
  exact hn.2.2 m.id h1 m.id List.mem_cons_self rfl
 have hf := find_at (r := l) hni
 have hg : (freed o.limit p ++ m :: l).getD (findM (freed o.limit p ++ m :: l) m.id).toNat ⟨0, 0, 0, false, ⟨#[]⟩, ⟨#[]⟩⟩ = m := by
  rw [hf, Int.toNat_natCast]
  exact gd_at (by rw [List.getElem?_append_right (Nat.le_refl _), Nat.sub_self]; rfl)
 unfold freeO
 dsimp only
 rw [if_neg (by rw [hf]; omega), hg, if_neg (by rw [hc]; decide), if_neg tD]
 rw [freed_app, gone_app]
 by_cases hl : o.limit ≤ m.tried.retry
 ·rw [if_pos hl, hf, Int.toNat_natCast]
  have e1 : freed o.limit [m] = [] := by unfold freed; rw [List.filterMap_cons, if_pos hc, if_pos hl]; rfl
  have e2 : gone o.limit [m] = [m.tried] := by unfold gone; rw [List.filterMap_cons, if_pos ⟨hc, hl⟩]; rfl
  rw [e1, e2, List.append_nil, List.eraseIdx_append_of_length_le (Nat.le_refl _), Nat.sub_self, List.append_assoc]
  rfl
 ·rw [if_neg hl, hf, Int.toNat_natCast]
  have e1 : freed o.limit [m] = [m.tried] := by unfold freed; rw [List.filterMap_cons, if_pos hc, if_neg hl]; rfl
  have e2 : gone o.limit [m] = [] := by unfold gone; rw [List.filterMap_cons, if_neg (fun h => hl h.2)]; rfl
  rw [e1, e2, List.append_nil, List.set_append_right _ _ (Nat.le_refl _), Nat.sub_self, List.append_assoc]
  rfl
theorem freed_skip {o : Ob} {p l : List Msg} {m : Msg} (hc : ¬ m.claimed = true) : freed o.limit p ++ m :: l = freed o.limit (p ++ [m]) ++ l ∧ gone o.limit p = gone o.limit (p ++ [m]) := by
 have e1 : freed o.limit [m] = [m] := by unfold freed; rw [List.filterMap_cons, if_neg hc]; rfl
 have e2 : gone o.limit [m] = [] := by unfold gone; rw [List.filterMap_cons, if_neg (fun h => hc h.1)]; rfl
 rw [freed_app, gone_app, e1, e2, List.append_nil, List.append_assoc]
 exact ⟨rfl, rfl⟩
def clE (name : ByteArray) (l : List Msg) : List Eff := (l.filter (·.claimed)).map (fun m => claimE name m.id)
theorem claims_obj {s : Stt} {i : Nat} {o : Ob} (hi : i < s.objs.length) (hno : (s.objs.take i).any (fun x => decide (x.name = o.name)) = false) (hk : ¬ o.kind = 1) (hname : effName o.name = true) (hids : ∀ m ∈ o.msgs, effId m.id = true) (hn : (o.msgs.map (·.id)).Nodup) :
  ∀ (l p : List Msg), o.msgs = p ++ l → doAll ⟨s.next, s.objs.set i { o with msgs := freed o.limit p ++ l, dead := o.dead ++ gone o.limit p }⟩ (clE o.name l) = (⟨s.next, s.objs.set i (freedO o)⟩, 0)
 | [], p, hp => by
  have : o.msgs = p := by rw [hp, List.append_nil]
  unfold freedO
  rw [this, List.append_nil]
  rfl
 | m :: l, p, hp => by
  have ih := claims_obj hi hno hk hname hids hn l (p ++ [m]) (by rw [hp]; simp)
  by_cases hc : m.claimed = true
  ·have hcl : clE o.name (m :: l) = claimE o.name m.id :: clE o.name l := by unfold clE; rw [List.filter_cons, if_pos hc]; rfl
   rw [hcl]
   obtain ⟨o', ho'⟩ : ∃ o' : Ob, o' = { o with msgs := freed o.limit p ++ m :: l, dead := o.dead ++ gone o.limit p } := ⟨_, rfl⟩
   have hfs := free_step hp hn hc
   rw [← ho'] at hfs ⊢
   have hk7 : (claimE o.name m.id).kind = 7 := rfl
   have hfo : findO ⟨s.next, s.objs.set i o'⟩ (claimE o.name m.id).object = (i : Int) := by
    show findO _ o.name = _
    unfold findO
    refine idxP_some (x := o') (by show (s.objs.set i o')[i]? = _; rw [List.getElem?_set_self hi]) (decide_eq_true (by rw [ho'])) ?_
    show ((s.objs.set i o').take i).any _ = false
    rw [List.take_set_of_le (Nat.le_refl i)]
    exact hno
   have hgd : (⟨s.next, s.objs.set i o'⟩ : Stt).objs.getD (findO ⟨s.next, s.objs.set i o'⟩ (claimE o.name m.id).object).toNat Ob.zero = o' := by rw [hfo, Int.toNat_natCast]; exact gd_at (List.getElem?_set_self hi)
   have hok : o'.kind = o.kind := by rw [ho']
   have hq : queueO ⟨s.next, s.objs.set i o'⟩ o' (claimE o.name m.id) = ({ o with msgs := freed o.limit (p ++ [m]) ++ l, dead := o.dead ++ gone o.limit (p ++ [m]) }, 0) := by
    unfold queueO
    rw [hk7, if_neg tD, if_neg tD, if_neg tD, if_pos rfl, show (claimE o.name m.id).n = m.id from rfl, show (claimE o.name m.id).tried = true from rfl, hfs]
    rfl
   have hdo : doS ⟨s.next, s.objs.set i o'⟩ (claimE o.name m.id) = (⟨s.next, s.objs.set i { o with msgs := freed o.limit (p ++ [m]) ++ l, dead := o.dead ++ gone o.limit (p ++ [m]) }⟩, 0) := by
    unfold doS
    rw [if_neg (by rw [claimE_right hname (hids m (by rw [hp]; simp))]; decide), hk7, if_neg tD, if_neg tD, if_neg (by rw [hfo]; omega), hgd, if_neg (by rw [hok, decide_eq_false hk]; decide), if_neg tD, hq, hfo, Int.toNat_natCast]
    show ((⟨s.next, (s.objs.set i o').set i _⟩ : Stt), (0 : Int)) = _
    rw [List.set_set]
   rw [doAll, if_pos (by rw [hdo]), hdo]
   exact ih
  ·have hcl : clE o.name (m :: l) = clE o.name l := by unfold clE; rw [List.filter_cons, if_neg hc]
   obtain ⟨e1, e2⟩ := freed_skip (o := o) (p := p) (l := l) hc
   rw [hcl, e1, e2]
   exact ih
theorem doAll_app : ∀ {a b : List Eff} {s t : Stt}, doAll s a = (t, 0) → doAll s (a ++ b) = doAll t b
 | [], b, s, t, h => by
  have : s = t := congrArg Prod.fst h
  subst this
  rfl
 | e :: a, b, s, t, h => by
  rw [List.cons_append]
  rw [doAll] at h ⊢
  by_cases hd : (doS s e).2 = 0
  ·rw [if_pos hd] at h ⊢
   exact doAll_app h
  ·rw [if_neg hd] at h
   exact absurd (congrArg Prod.snd h) hd
theorem claimsO_cl (o : Ob) : claimsO o = clE o.name o.msgs := rfl
theorem SR.ids_obj {s : Stt} (h : SR s) {o : Ob} (ho : o ∈ s.objs) : o.ids.Nodup := by
 obtain ⟨a, b, e⟩ := List.append_of_mem ho
 have hi := h.ids
 unfold Stt.ids at hi
 rw [e, List.flatMap_append, List.flatMap_cons, List.nodup_append, List.nodup_append] at hi
 exact hi.2.1.1
theorem right_ob {o : Ob} (h : o.right = true) : effName o.name = true ∧ (o.kind = 1 → o.msgs = [] ∧ o.dead = []) ∧ (¬ o.kind = 1 → ∀ m ∈ o.msgs, m.right = true) := by
 unfold Ob.right at h
 rw [Bool.and_eq_true, Bool.and_eq_true] at h
 refine ⟨h.1.1, fun hk => ?_, fun hk => ?_⟩
 ·have := h.2
  rw [if_pos hk] at this
  simp only [Bool.and_eq_true, decide_eq_true_eq] at this
  exact ⟨List.length_eq_zero_iff.1 tO, List.length_eq_zero_iff.1 tO⟩
 ·have := h.2
  rw [if_neg hk] at this
  simp only [Bool.and_eq_true, decide_eq_true_eq, List.all_eq_true] at this
  exact this.1.2
theorem claims_all {s : Stt} (h : SR s) : ∀ (l p : List Ob), s.objs = p ++ l → doAll ⟨s.next, p.map freedO ++ l⟩ (l.flatMap claimsO) = (⟨s.next, s.objs.map freedO⟩, 0)
 | [], p, hp => by
  have : s.objs = p := by rw [hp, List.append_nil]
  rw [this, List.append_nil]
  rfl
 | o :: l, p, hp => by
  have ih := claims_all h l (p ++ [o]) (by rw [hp]; simp)
  rw [List.flatMap_cons]
  have ho : o ∈ s.objs := by rw [hp]; simp
  obtain ⟨r1, r2, r3⟩ := right_ob (h.obj o ho)
  have hset : (p.map freedO ++ o :: l).set p.length (freedO o) = (p ++ [o]).map freedO ++ l := by
   rw [List.set_append_right _ _ (by rw [List.length_map]; exact Nat.le_refl _), List.length_map, Nat.sub_self, List.map_append, List.append_assoc]
   rfl
  have key : doAll ⟨s.next, p.map freedO ++ o :: l⟩ (claimsO o) = (⟨s.next, (p ++ [o]).map freedO ++ l⟩, 0) := by
   by_cases hk : o.kind = 1
   ·obtain ⟨e1, e2⟩ := r2 hk
    have hf : freedO o = o := by
     obtain ⟨a, b, c, d, ms, dd⟩ := o
     have e1 : ms = [] := e1
     have e2 : dd = [] := e2
     subst e1 e2
     rfl
    rw [claimsO_cl, e1]
    show ((⟨s.next, p.map freedO ++ o :: l⟩ : Stt), (0 : Int)) = _
    rw [List.map_append, List.append_assoc]
    show _ = ((⟨s.next, p.map freedO ++ (freedO o :: l)⟩ : Stt), (0 : Int))
    rw [hf]
   ·have hno : ((p.map freedO ++ o :: l).take p.length).any (fun x => decide (x.name = o.name)) = false := by
     rw [List.take_left' (by rw [List.length_map]), List.any_map]
     refine List.any_eq_false.2 fun x hx => ?_
     have hpw := h.names
     rw [hp, List.pairwise_append] at hpw
     have h1 := hpw.2.2 x hx o List.mem_cons_self
     intro he
     have he : x.name = o.name := of_decide_eq_true he
     rw [he, cmpB_self] at h1
     omega
    have hids := h.ids_obj ho
    unfold Ob.ids at hids
    rw [List.map_append, List.nodup_append] at hids
    have hc := claims_obj (s := ⟨s.next, p.map freedO ++ o :: l⟩) (i := p.length) (o := o) (by show _ < (p.map freedO ++ o :: l).length; rw [List.length_append, List.length_map]; simp) hno hk r1 (fun m hm => by
     have := r3 hk m hm
     unfold Msg.right at this
     simp only [Bool.and_eq_true, decide_eq_true_eq] at this
     unfold effId
     rw [decide_eq_true tO, decide_eq_true tO]; rfl) hids.1 o.msgs [] rfl
    have hself : (p.map freedO ++ o :: l).set p.length { o with msgs := freed o.limit [] ++ o.msgs, dead := o.dead ++ gone o.limit [] } = p.map freedO ++ o :: l := by
     have : ({ o with msgs := freed o.limit [] ++ o.msgs, dead := o.dead ++ gone o.limit [] } : Ob) = o := by
      show (⟨o.name, o.kind, o.limit, o.rows, o.msgs, o.dead ++ []⟩ : Ob) = o
      rw [List.append_nil]
     rw [this, List.set_append_right _ _ (by rw [List.length_map]; exact Nat.le_refl _), List.length_map, Nat.sub_self]
     rfl
    have hc : doAll ⟨s.next, (p.map freedO ++ o :: l).set p.length { o with msgs := freed o.limit [] ++ o.msgs, dead := o.dead ++ gone o.limit [] }⟩ (clE o.name o.msgs) = (⟨s.next, (p.map freedO ++ o :: l).set p.length (freedO o)⟩, 0) := hc
    rw [hself, hset] at hc
    exact hc
  rw [doAll_app key]
  exact ih
theorem apply_claims {s : Stt} (hr : s.right = true) : applyS s (claimsS s) = (⟨s.next, s.objs.map freedO⟩, 0) := by
 unfold applyS
 rw [if_neg (by rw [hr]; decide)]
 exact claims_all (right_SR hr) s.objs [] rfl
theorem claims_len (s : Stt) {n : Nat} (h : (s.objs.map (fun o => o.msgs.length)).sum ≤ n) : (claimsS s).length ≤ n := by
 refine Nat.le_trans ?_ h
 unfold claimsS
 rw [List.length_flatMap]
 generalize s.objs = l
 induction l with
 | nil => exact Nat.le_refl _
 | cons o l ih =>
  simp only [List.map_cons, List.sum_cons]
  have : (claimsO o).length ≤ o.msgs.length := by unfold claimsO; rw [List.length_map]; exact List.length_filter_le _ _
  omega
theorem freedO_len (o : Ob) : (freedO o).msgs.length + (freedO o).dead.length = o.msgs.length + o.dead.length := by
 have := freed_len o.limit o.msgs
 show (freed o.limit o.msgs).length + (o.dead ++ gone o.limit o.msgs).length = _
 rw [List.length_append]
 omega
def alpha : ByteArray := ⟨#[97, 98, 99, 100, 101, 102, 103, 104, 105, 106, 107, 108, 109, 110, 111, 112, 113, 114, 115, 116, 117, 118, 119, 120, 121, 122]⟩
def nmL (k : Nat) : ByteArray := alpha.extract k (k + 1)
def tabO (k : Nat) : Ob := ⟨nmL k, 1, 0, [], [], []⟩
def mkE (k : Nat) : Eff := ⟨1, nmL k, ⟨#[]⟩, ⟨#[]⟩, 1, 0, false, ⟨0, 0, 0, false, ⟨#[]⟩, ⟨#[]⟩⟩⟩
theorem nm_ord : ((List.range 26).all fun i => (List.range 26).all fun j => decide (cmpB (nmL i) (nmL j) = cmpI i j)) = true := by decide +kernel
theorem nm_cmp {i j : Nat} (hi : i < 26) (hj : j < 26) : cmpB (nmL i) (nmL j) = cmpI i j := by
 have := List.all_eq_true.1 nm_ord i (List.mem_range.2 hi)
 exact of_decide_eq_true (List.all_eq_true.1 this j (List.mem_range.2 hj))
theorem nm_right : ((List.range 26).all fun i => (tabO i).right && (mkE i).right) = true := by decide +kernel
theorem tab_right {i : Nat} (hi : i < 26) : (tabO i).right = true ∧ (mkE i).right = true := by
 have := List.all_eq_true.1 nm_right i (List.mem_range.2 hi)
 rwa [Bool.and_eq_true] at this
def stK (ks : List Nat) : Stt := ⟨1, ks.map tabO⟩
structure KS (ks : List Nat) : Prop where
 up : ks.Pairwise (· < ·)
 lt : ∀ k ∈ ks, k < 26
 len : ks.length ≤ 20
theorem KS.nil : KS [] := ⟨List.Pairwise.nil, (fun k h => by cases h), Nat.zero_le _⟩
theorem adj_of_pair {α : Type} {f : α → α → Bool} : ∀ {l : List α}, l.Pairwise (fun a b => f a b = true) → adj f l = true
 | [], _ => rfl
 | [_], _ => rfl
 | a :: b :: l, h => by
  have h' := List.pairwise_cons.1 h
  simp only [adj, Bool.and_eq_true]
  exact ⟨h'.1 b List.mem_cons_self, adj_of_pair h'.2⟩
theorem KS.pair {ks : List Nat} (h : KS ks) : (ks.map tabO).Pairwise (fun a b => cmpB a.name b.name < 0) := by
 rw [List.pairwise_map]
 refine List.Pairwise.imp_of_mem (fun {a b} ha hb hab => ?_) h.up
 show cmpB (nmL a) (nmL b) < 0
 rw [nm_cmp (h.lt a ha) (h.lt b hb), cmpI_neg]
 omega
theorem KS.right {ks : List Nat} (h : KS ks) : (stK ks).right = true := by
 have hids : (stK ks).ids = [] := by
  unfold Stt.ids stK
  rw [List.flatMap_map, List.flatMap_eq_nil_iff]
  intro k _
  rfl
 have ho : (stK ks).once = true := by
  unfold Stt.once
  rw [hids]
  rfl
 have h1 : (stK ks).objs.all Ob.right = true := List.all_eq_true.2 fun o hm => by
  obtain ⟨k, hk, rfl⟩ := List.mem_map.1 (hm : o ∈ ks.map tabO)
  exact (tab_right (h.lt k hk)).1
 have h2 : adj (fun a b => decide (cmpB a.name b.name < 0)) (stK ks).objs = true := adj_of_pair (h.pair.imp fun h => decide_eq_true h)
 have h3 : ((stK ks).objs.length : Int) ≤ 20 := by
  show (((ks.map tabO).length : Nat) : Int) ≤ 20
  rw [List.length_map]
  have := h.len
  omega
 unfold Stt.right
 rw [h1, h2, ho, decide_eq_true h3, show (stK ks).next = 1 from rfl]
 rfl
theorem ins_up {k : Nat} : ∀ {ks : List Nat}, ks.Pairwise (· < ·) → k ∉ ks → (insAt ks (plc (fun j => decide (k < j)) ks) k).Pairwise (· < ·)
 | [], _, _ => List.pairwise_singleton _ _
 | a :: l, h, hn => by
  have h' := List.pairwise_cons.1 h
  by_cases ha : k < a
  ·have hp : plc (fun j => decide (k < j)) (a :: l) = 0 := by
    unfold plc
    rw [idxP_some (i := 0) (x := a) rfl (decide_eq_true ha) rfl]
    rfl
   rw [hp]
   show (k :: a :: l).Pairwise _
   refine List.pairwise_cons.2 ⟨fun x hx => ?_, h⟩
   rcases List.mem_cons.1 hx with rfl | hx
   ·exact ha
   ·exact Nat.lt_trans ha (h'.1 x hx)
  ·have hp : plc (fun j => decide (k < j)) (a :: l) = plc (fun j => decide (k < j)) l + 1 := by
    unfold plc idxP
    rw [List.findIdx?_cons, decide_eq_false ha]
    simp only [Bool.false_eq_true, if_false]
    cases l.findIdx? (fun j => decide (k < j)) with
    | none => simp
    | some i =>
     simp only [Option.map_some]
     rw [if_neg tO, if_neg tO]
     omega
   rw [hp]
   have ih := ins_up h'.2 (fun hm => hn (List.mem_cons_of_mem a hm))
   show (a :: insAt l (plc (fun j => decide (k < j)) l) k).Pairwise _
   refine List.pairwise_cons.2 ⟨fun x hx => ?_, ih⟩
   have hak : a < k := by
    have : a ≠ k := fun e => hn (by rw [e]; exact List.mem_cons_self)
    omega
   unfold insAt at hx
   rcases List.mem_append.1 hx with hx | hx
   ·rcases List.mem_append.1 hx with hx | hx
    ·exact h'.1 x (List.mem_of_mem_take hx)
    ·rw [List.mem_singleton.1 hx]; exact hak
   ·exact h'.1 x (List.mem_of_mem_drop hx)
theorem insAt_memI {α : Type} {l : List α} {i : Nat} {x y : α} : y ∈ insAt l i x ↔ y ∈ l ∨ y = x := by
 unfold insAt
 constructor
 ·intro h
  rcases List.mem_append.1 h with h | h
  ·rcases List.mem_append.1 h with h | h
   ·exact .inl (List.mem_of_mem_take h)
   ·exact .inr (List.mem_singleton.1 h)
  ·exact .inl (List.mem_of_mem_drop h)
 ·rintro (h | rfl)
  ·rw [← List.take_append_drop i l] at h
   rcases List.mem_append.1 h with h | h
   ·exact List.mem_append_left _ (List.mem_append_left _ h)
   ·exact List.mem_append_right _ h
  ·exact List.mem_append_left _ (List.mem_append_right _ List.mem_cons_self)
theorem plc_le {α : Type} (p : α → Bool) (l : List α) : plc p l ≤ l.length := by
 unfold plc
 split
 ·exact Nat.le_refl _
 ·rename_i h
  unfold idxP at h ⊢
  cases hf : l.findIdx? p with
  | none => rw [hf] at h; exact absurd tD h
  | some i =>
   rw [List.findIdx?_eq_some_iff_getElem] at hf
   obtain ⟨hi, _⟩ := hf
   show ((i : Nat) : Int).toNat ≤ _
   omega
def putK (ks : List Nat) (k : Nat) : List Nat := insAt ks (plc (fun j => decide (k < j)) ks) k
theorem putK_mem {ks : List Nat} {k j : Nat} : j ∈ putK ks k ↔ j ∈ ks ∨ j = k := insAt_memI
theorem putK_len (ks : List Nat) (k : Nat) : (putK ks k).length = ks.length + 1 := by
 have := plc_le (fun j => decide (k < j)) ks
 unfold putK insAt
 rw [List.length_append, List.length_append, List.length_take, List.length_drop, List.length_singleton]
 omega
theorem KS.put {ks : List Nat} (h : KS ks) {k : Nat} (hk : k < 26) (hn : k ∉ ks) (hl : ks.length < 20) : KS (putK ks k) :=
 ⟨ins_up h.up hn, fun j hj => (putK_mem.1 hj).elim (h.lt j) (fun e => by omega), by rw [putK_len]; omega⟩
theorem KS.small {ks : List Nat} (h : KS ks) : (stK ks).small 0 := by
 refine ⟨(by show (-9223372036854775808 : Int) ≤ 1 ∧ (1 : Int) ≤ 9223372036854775807; decide), ?_, fun o ho => ?_⟩
 ·show (ks.map tabO).length ≤ _
  rw [List.length_map]; have := h.len; omega
 ·obtain ⟨k, hk, rfl⟩ := List.mem_map.1 (ho : o ∈ ks.map tabO)
  have hk := h.lt k hk
  have hsz : (nmL k).size ≤ 140737488351232 := by
   have hr := (right_ob (tab_right hk).1).1
   unfold effName at hr
   rw [Bool.and_eq_true, decide_eq_true_eq, decide_eq_true_eq] at hr
   have h2 : ((nmL k).size : Int) ≤ 16 := hr.2
   omega
  exact ⟨⟨hsz, (by show (-9223372036854775808 : Int) ≤ 1 ∧ (1 : Int) ≤ 9223372036854775807; decide), (by show (-9223372036854775808 : Int) ≤ 0 ∧ (0 : Int) ≤ 9223372036854775807; decide), (fun _ h => by cases h), (fun _ h => by cases h), (fun _ h => by cases h), Nat.zero_le _, Nat.zero_le _, Nat.zero_le _⟩, Nat.le_refl _, Nat.le_refl _, Nat.le_refl _⟩
theorem putR_form (l : List Rw) (r : Rw) : ∃ m, putR l r = l.takeWhile (fun x => decide (cmpB x.key r.key < 0)) ++ r :: m ∧ (∀ x ∈ m, x ∈ l.dropWhile (fun x => decide (cmpB x.key r.key < 0))) ∧ m.Sublist (l.dropWhile (fun x => decide (cmpB x.key r.key < 0))) ∧ ∀ h t, l.dropWhile (fun x => decide (cmpB x.key r.key < 0)) = h :: t → (cmpB h.key r.key = 0 ∧ m = t) ∨ (¬ cmpB h.key r.key = 0 ∧ m = h :: t) := by
 have hsp := List.takeWhile_append_dropWhile (p := fun x : Rw => decide (cmpB x.key r.key < 0)) (l := l)
 obtain ⟨A, hA⟩ : ∃ A, A = l.takeWhile (fun x => decide (cmpB x.key r.key < 0)) := ⟨_, rfl⟩
 obtain ⟨B, hB⟩ : ∃ B, B = l.dropWhile (fun x => decide (cmpB x.key r.key < 0)) := ⟨_, rfl⟩
 have hlb : lbR l r.key = A.length := by rw [hA]; rfl
 rw [← hA, ← hB] at hsp
 rw [← hA, ← hB]
 have hf : fndR l r.key = B.head?.any (fun x => decide (cmpB x.key r.key = 0)) := by
  unfold fndR
  rw [hlb, ← hsp, List.getElem?_append_right (Nat.le_refl _), Nat.sub_self]
  cases B <;> rfl
 unfold putR
 rw [hlb, hf]
 cases B with
 | nil =>
  refine ⟨[], ?_, fun x hx => (by cases hx), List.Sublist.refl _, fun h t e => (by cases e)⟩
  rw [if_neg (by simp)]
  unfold insAt
  rw [← hsp]
  simp
 | cons b B =>
  by_cases hb : cmpB b.key r.key = 0
  ·refine ⟨B, ?_, fun x hx => List.mem_cons_of_mem _ hx, List.sublist_cons_self _ _, fun h t e => .inl ⟨by cases e; exact hb, by cases e; rfl⟩⟩
   rw [if_pos (by simpa using hb), ← hsp, List.set_append_right _ _ (Nat.le_refl _), Nat.sub_self, List.set_cons_zero]
  ·refine ⟨b :: B, ?_, fun x hx => hx, List.Sublist.refl _, fun h t e => .inr ⟨by cases e; exact hb, e⟩⟩
   rw [if_neg (by simpa using hb)]
   unfold insAt
   rw [← hsp, List.take_left', List.drop_left'] <;> simp
theorem mem_tw {α : Type} {p : α → Bool} : ∀ {l : List α} {x : α}, x ∈ l.takeWhile p → p x = true
 | [], _, h => by cases h
 | a :: l, x, h => by
  cases ha : p a with
  | false => simp [List.takeWhile_cons, ha] at h
  | true =>
   simp only [List.takeWhile_cons, ha, if_true, List.mem_cons] at h
   rcases h with rfl | h
   ·exact ha
   ·exact mem_tw h
theorem dropWhile_head {α : Type} {p : α → Bool} : ∀ {l t : List α} {h : α}, l.dropWhile p = h :: t → p h = false
 | [], _, _, e => by cases e
 | a :: l, t, h, e => by
  cases ha : p a with
  | true => rw [List.dropWhile_cons, if_pos ha] at e; exact dropWhile_head e
  | false => rw [List.dropWhile_cons, if_neg (by rw [ha]; decide)] at e; cases e; exact ha
theorem put_rises {l : List Rw} {r : Rw} (h : risesR l = true) : risesR (putR l r) = true := by
 have hp := (adj_pair (f := fun a b : Rw => decide (cmpB a.key b.key < 0)) (fun a b c h1 h2 => decide_eq_true (cmpB_trans (of_decide_eq_true h1) (of_decide_eq_true h2))) h).imp (fun h => of_decide_eq_true h)
 refine adj_of_pair ?_
 obtain ⟨m, hm, hsub, hsl, hh⟩ := putR_form l r
 rw [hm]
 rw [← List.takeWhile_append_dropWhile (p := fun x : Rw => decide (cmpB x.key r.key < 0)) (l := l), List.pairwise_append] at hp
 obtain ⟨pA, pB, pAB⟩ := hp
 have hgt : ∀ x ∈ m, cmpB r.key x.key < 0 := fun x hx => by
  cases hd : l.dropWhile (fun x => decide (cmpB x.key r.key < 0)) with
  | nil => have := hsub x hx; rw [hd] at this; cases this
  | cons b B =>
   have hb0 : ¬ cmpB b.key r.key < 0 := by have := dropWhile_head hd; simpa using this
   rw [hd, List.pairwise_cons] at pB
   rcases hh b B hd with ⟨e, rfl⟩ | ⟨e, rfl⟩
   ·rw [← cmpB_zero.1 e]; exact pB.1 x hx
   ·have hbr : cmpB r.key b.key < 0 := by rw [cmpB_anti]; omega
    rcases List.mem_cons.1 hx with rfl | hx
    ·exact hbr
    ·exact cmpB_trans hbr (pB.1 x hx)
 rw [List.pairwise_append]
 refine ⟨pA.imp (fun h => decide_eq_true h), List.pairwise_cons.2 ⟨fun x hx => decide_eq_true (hgt x hx), (pB.sublist hsl).imp (fun h => decide_eq_true h)⟩, fun a ha x hx => decide_eq_true ?_⟩
 have har : cmpB a.key r.key < 0 := by have := mem_tw ha; simpa using this
 rcases List.mem_cons.1 hx with rfl | hx
 ·exact har
 ·exact pAB a ha x (hsub x hx)
theorem put_mem {l : List Rw} {r x : Rw} (h : x ∈ putR l r) : x ∈ l ∨ x = r := by
 obtain ⟨m, hm, hsub, _⟩ := putR_form l r
 rw [hm, List.mem_append, List.mem_cons] at h
 rcases h with h | h | h
 ·exact .inl ((List.takeWhile_prefix _).subset h)
 ·exact .inr h
 ·exact .inl ((List.dropWhile_suffix _).subset (hsub x h))
def putO (o : Ob) (r : Rw) : Ob := { o with rows := putR o.rows r }
theorem putO_right {o : Ob} {r : Rw} (hk : o.kind = 1) (hr : r.right = true) (h : o.right = true) : (putO o r).right = true := by
 unfold Ob.right at h ⊢
 rw [if_pos hk] at h
 rw [if_pos (show (putO o r).kind = 1 from hk)]
 simp only [Bool.and_eq_true, List.all_eq_true] at h ⊢
 obtain ⟨⟨h1, h2⟩, ⟨⟨h3, h4⟩, h5⟩, h6⟩ := h
 refine ⟨⟨h1, h2⟩, ⟨⟨h3, h4⟩, put_rises h5⟩, fun x hx => ?_⟩
 rcases put_mem hx with hx | rfl
 ·exact h6 x hx
 ·exact hr
theorem ins_pair {α : Type} {R : α → α → Prop} {l : List α} {i : Nat} {x : α} (hl : l.Pairwise R) (h1 : ∀ a ∈ l.take i, R a x) (h2 : ∀ b ∈ l.drop i, R x b) : (insAt l i x).Pairwise R := by
 unfold insAt
 have hl' := hl
 rw [← List.take_append_drop i l, List.pairwise_append] at hl'
 obtain ⟨p1, p2, p3⟩ := hl'
 rw [List.append_assoc, List.pairwise_append]
 refine ⟨p1, List.pairwise_cons.2 ⟨h2, p2⟩, fun a ha b hb => ?_⟩
 rcases List.mem_cons.1 hb with rfl | hb
 ·exact h1 a ha
 ·exact p3 a ha b hb
theorem plc_tw {α : Type} (p : α → Bool) : ∀ l : List α, plc p l = (l.takeWhile (fun x => !p x)).length
 | [] => rfl
 | a :: l => by
  have ih := plc_tw p l
  unfold plc idxP at ih ⊢
  rw [List.findIdx?_cons]
  cases ha : p a with
  | true => rw [List.takeWhile_cons]; simp [ha]
  | false =>
   rw [List.takeWhile_cons]
   simp only [ha, Bool.false_eq_true, if_false, Bool.not_false, if_true, List.length_cons]
   cases hf : l.findIdx? p with
   | none => rw [hf] at ih; simp at ih ⊢; omega
   | some i =>
    rw [hf] at ih
    simp only [Option.map_some] at ih ⊢
    rw [if_neg tO] at ih ⊢
    omega
theorem tw_take {α : Type} (p : α → Bool) : ∀ l : List α, l.take (l.takeWhile p).length = l.takeWhile p
 | [] => rfl
 | a :: l => by
  cases ha : p a with
  | true => simp [List.takeWhile_cons, ha, tw_take p l]
  | false => simp [List.takeWhile_cons, ha]
theorem tw_drop {α : Type} (p : α → Bool) : ∀ l : List α, l.drop (l.takeWhile p).length = l.dropWhile p
 | [] => rfl
 | a :: l => by
  cases ha : p a with
  | true => simp [List.takeWhile_cons, List.dropWhile_cons, ha, tw_drop p l]
  | false => simp [List.takeWhile_cons, List.dropWhile_cons, ha]
theorem plc_before {α : Type} {p : α → Bool} {l : List α} {a : α} (h : a ∈ l.take (plc p l)) : p a = false := by
 rw [plc_tw, tw_take] at h
 have := mem_tw h
 simpa using this
theorem plc_behind {α : Type} {p : α → Bool} {l : List α} {R : α → α → Prop} {x : α} (hl : l.Pairwise R) (hx : ∀ b, p b = true → R x b) (ht : ∀ b c, R x b → R b c → R x c) : ∀ b ∈ l.drop (plc p l), R x b := by
 rw [plc_tw, tw_drop]
 have hp := hl.sublist (List.dropWhile_sublist (fun y => !p y))
 intro b hb
 cases hd : l.dropWhile (fun y => !p y) with
 | nil => rw [hd] at hb; cases hb
 | cons c t =>
  have hc : p c = true := by have := dropWhile_head hd; simpa using this
  rw [hd] at hb hp
  rcases List.mem_cons.1 hb with rfl | hb
  ·exact hx _ hc
  ·exact ht c b (hx c hc) ((List.pairwise_cons.1 hp).1 b hb)
theorem SR.right {s : Stt} (h : SR s) : s.right = true := by
 unfold Stt.right Stt.once
 simp only [Bool.and_eq_true, decide_eq_true_eq, List.all_eq_true]
 exact ⟨⟨⟨⟨⟨h.nx.1, h.nx.2⟩, by have := h.len; omega⟩, h.obj⟩, adj_of_pair (h.names.imp fun h => decide_eq_true h)⟩, h.ids, h.lt⟩
theorem cmpM_neg {a b : Msg} : cmpM a b < 0 ↔ a.pri < b.pri ∨ a.pri = b.pri ∧ a.id < b.id := by
 unfold cmpM
 split
 ·rw [cmpI_neg]; omega
 ·rw [cmpI_neg]; omega
theorem cmpM_trans {a b c : Msg} (h1 : cmpM a b < 0) (h2 : cmpM b c < 0) : cmpM a c < 0 := by
 rw [cmpM_neg] at *; omega
theorem cmpM_tot {a b : Msg} (h : ¬ a.id = b.id) : cmpM a b < 0 ∨ 0 < cmpM a b := by
 unfold cmpM
 split
 ·unfold cmpI; split
  ·exact .inl tD
  ·split
   ·exact .inr tD
   ·omega
 ·unfold cmpI; split
  ·exact .inl tD
  ·split
   ·exact .inr tD
   ·omega
theorem cmpM_pos {a b : Msg} (h : 0 < cmpM a b) : cmpM b a < 0 := by
 rw [cmpM_neg]
 unfold cmpM cmpI at h
 split at h
 ·split at h
  ·omega
  ·split at h
   ·omega
   ·omega
 ·split at h
  ·omega
  ·split at h
   ·omega
   ·omega
structure QR (o : Ob) : Prop where
 nm : effName o.name = true
 kd : effKind o.kind o.limit = true
 rows : o.rows = []
 up : o.msgs.Pairwise (fun a b => cmpM a b < 0)
 ids : (o.msgs.map (·.id)).Nodup
 msg : ∀ m ∈ o.msgs, m.right = true
 dd : ∀ m ∈ o.dead, m.claimed = false ∧ m.right = true
theorem ob_QR {o : Ob} (hk : ¬ o.kind = 1) : o.right = true ↔ QR o := by
 unfold Ob.right risesM
 rw [if_neg hk]
 simp only [Bool.and_eq_true, decide_eq_true_eq, List.all_eq_true, Bool.not_eq_true']
 constructor
 ·rintro ⟨⟨h1, h2⟩, ⟨⟨h3, h4, h5⟩, h6⟩, h7⟩
  exact ⟨h1, h2, List.eq_nil_of_length_eq_zero tO, (adj_pair (f := fun a b : Msg => decide (cmpM a b < 0)) (fun a b c x y => decide_eq_true (cmpM_trans (of_decide_eq_true x) (of_decide_eq_true y))) h4).imp (fun h => of_decide_eq_true h), h5, h6, h7⟩
 ·intro h
  exact ⟨⟨h.nm, h.kd⟩, ⟨⟨by rw [h.rows]; rfl, adj_of_pair (h.up.imp fun h => decide_eq_true h), h.ids⟩, h.msg⟩, h.dd⟩
theorem QR.right {o : Ob} (hk : ¬ o.kind = 1) (h : QR o) : o.right = true := (ob_QR hk).2 h
theorem QR.set {o : Ob} {k : Nat} {m m' : Msg} (h : QR o) (hm : o.msgs[k]? = some m) (h1 : m'.id = m.id) (h2 : m'.pri = m.pri) (hr : m'.right = true) : QR { o with msgs := o.msgs.set k m' } := by
 obtain ⟨hk, hme⟩ := List.getElem?_eq_some_iff.1 hm
 have hsame : ∀ {β : Type} (f : Msg → β), f m' = f m → (o.msgs.set k m').map f = o.msgs.map f := fun f hf => by
  rw [List.map_set, hf]
  refine List.ext_getElem? fun j => ?_
  rw [List.getElem?_set]
  split
  ·rename_i e; subst e; rw [List.getElem?_map, hm]; simp [hk]
  ·rfl
 refine ⟨h.nm, h.kd, h.rows, ?_, ?_, fun x hx => ?_, h.dd⟩
 ·have hp : (o.msgs.map (fun m => (m.pri, m.id))).Pairwise (fun a b => a.1 < b.1 ∨ a.1 = b.1 ∧ a.2 < b.2) := by
   rw [List.pairwise_map]; exact h.up.imp fun h => cmpM_neg.1 h
  have he := hsame (fun m => (m.pri, m.id)) (by simp [h1, h2])
  rw [← he, List.pairwise_map] at hp
  exact hp.imp fun h => cmpM_neg.2 h
 ·show ((o.msgs.set k m').map (·.id)).Nodup
  rw [hsame (·.id) h1]; exact h.ids
 ·rcases List.mem_or_eq_of_mem_set hx with hx | rfl
  ·exact h.msg x hx
  ·exact hr
theorem set_ids {o : Ob} {k : Nat} {m m' : Msg} (hm : o.msgs[k]? = some m) (h1 : m'.id = m.id) : Ob.ids { o with msgs := o.msgs.set k m' } = o.ids := by
 obtain ⟨hk, hme⟩ := List.getElem?_eq_some_iff.1 hm
 have e : (o.msgs.set k m').map (·.id) = o.msgs.map (·.id) := by
  rw [List.map_set, h1]
  refine List.ext_getElem? fun j => ?_
  rw [List.getElem?_set]
  split
  ·rename_i e; subst e; rw [List.getElem?_map, hm]; simp [hk]
  ·rfl
 unfold Ob.ids
 dsimp only
 rw [List.map_append, List.map_append, e]
theorem erase_perm {α : Type} {l : List α} {k : Nat} {x : α} (h : l[k]? = some x) : l.Perm (x :: l.eraseIdx k) := by
 obtain ⟨hk, he⟩ := List.getElem?_eq_some_iff.1 h
 rw [List.eraseIdx_eq_take_drop_succ]
 conv => lhs; rw [← List.take_append_drop k l, List.drop_eq_getElem_cons hk, he]
 exact List.perm_middle
theorem ins_perm {α : Type} (l : List α) (i : Nat) (x : α) : (insAt l i x).Perm (x :: l) := by
 unfold insAt
 rw [List.append_assoc]
 conv => rhs; rw [← List.take_append_drop i l]
 exact List.perm_middle
theorem tried_right {m : Msg} (h : m.right = true) : m.tried.right = true := by
 unfold Msg.right at h ⊢
 simp only [Bool.and_eq_true, decide_eq_true_eq] at h ⊢
 obtain ⟨⟨⟨⟨⟨⟨⟨a, b⟩, c⟩, d⟩, e⟩, f⟩, g⟩, i⟩ := h
 refine ⟨⟨⟨⟨⟨⟨⟨a, b⟩, c⟩, d⟩, ?_⟩, ?_⟩, g⟩, i⟩
 ·show 0 ≤ (if 999 < m.retry then 999 else m.retry) + 1; split <;> omega
 ·show (if 999 < m.retry then 999 else m.retry) + 1 ≤ 1000; split <;> omega
theorem find_M {l : List Msg} {id : Int} (h : ¬ findM l id < 0) : ∃ (k : Nat) (m : Msg), l[k]? = some m ∧ (findM l id).toNat = k ∧ m.id = id := by
 obtain ⟨k, m, h1, h2, h3⟩ := idxP_nat h
 exact ⟨k, m, h1, by unfold findM; rw [h2]; rfl, of_decide_eq_true h3⟩
inductive IdsTo (a : List Int) (n : Option Int) (b : List Int) : Prop where
 | less (l : List Int) (h1 : b.Perm l) (h2 : l.Sublist a) : IdsTo a n b
 | more (m : Int) (h1 : n = some m) (h2 : b.Perm (m :: a)) : IdsTo a n b
theorem freeO_QR {o : Ob} {id : Int} {t : Bool} (h : QR o) (hk : ¬ o.kind = 1) (h0 : (freeO o id t).2 = true) : QR (freeO o id t).1 ∧ (freeO o id t).1.ids.Perm o.ids ∧ (freeO o id t).1.name = o.name ∧ (freeO o id t).1.kind = o.kind := by
 unfold freeO at h0 ⊢
 by_cases h1 : findM o.msgs id < 0
 ·rw [if_pos h1] at h0; cases h0
 rw [if_neg h1] at h0 ⊢
 obtain ⟨k, m, hm, hkk, hid⟩ := find_M h1
 rw [hkk, gd_at hm] at h0 ⊢
 have hmr := h.msg m (List.mem_of_getElem? hm)
 by_cases h2 : m.claimed = false
 ·rw [if_pos h2] at h0; cases h0
 rw [if_neg h2] at h0 ⊢
 by_cases h3 : t = false
 ·rw [if_pos h3] at h0 ⊢
  exact ⟨h.set hm rfl rfl hmr, by rw [set_ids (m' := { m with claimed := false }) hm rfl], rfl, rfl⟩
 rw [if_neg h3] at h0 ⊢
 by_cases h4 : o.limit ≤ m.tried.retry
 ·rw [if_pos h4] at h0 ⊢
  refine ⟨⟨h.nm, h.kd, h.rows, h.up.sublist (List.eraseIdx_sublist _ _), h.ids.sublist ((List.eraseIdx_sublist _ _).map _), fun x hx => h.msg x (List.mem_of_mem_eraseIdx hx), fun x hx => ?_⟩, ?_, rfl, rfl⟩
  ·rcases List.mem_append.1 hx with hx | hx
   ·exact h.dd x hx
   ·rw [List.mem_singleton.1 hx]; exact ⟨rfl, tried_right hmr⟩
  ·unfold Ob.ids
   dsimp only
   have hp := (erase_perm hm).map (fun x : Msg => x.id)
   rw [List.map_append, List.map_append, List.map_append]
   rw [← List.append_assoc]
   refine (List.perm_append_comm).trans ?_
   show ([m.tried].map (·.id) ++ _).Perm _
   rw [show [m.tried].map (fun x : Msg => x.id) = [m.id] from rfl, List.singleton_append, ← List.cons_append]
   exact (List.Perm.append_right _ (by simpa using hp.symm))
 ·rw [if_neg h4] at h0 ⊢
  exact ⟨h.set hm rfl rfl (tried_right hmr), by rw [set_ids (m' := m.tried) hm rfl], rfl, rfl⟩
theorem queueO_QR {s : Stt} {o : Ob} {e : Eff} (h : QR o) (hk : ¬ o.kind = 1) (hr : e.right = true) (hms : ∀ m ∈ o.ids, m ∈ s.ids) (hho : hasM s e.msg.id = false → e.msg.id ∉ s.ids) (h0 : (queueO s o e).2 = 0) :
  QR (queueO s o e).1 ∧ (queueO s o e).1.name = o.name ∧ (queueO s o e).1.kind = o.kind ∧ IdsTo o.ids (if e.msg.id < s.next ∧ e.msg.id ∉ s.ids then some e.msg.id else none) (queueO s o e).1.ids := by
 unfold queueO at h0 ⊢
 by_cases k4 : e.kind = 4
 ·rw [if_pos k4] at h0 ⊢
  by_cases c1 : s.next ≤ e.msg.id ∨ e.msg.claimed = true
  ·rw [if_pos c1] at h0; exact absurd (show (1 : Int) = 0 from h0) tD
  rw [if_neg c1] at h0 ⊢
  by_cases c2 : hasM s e.msg.id = true
  ·rw [if_pos c2] at h0; exact absurd (show (4 : Int) = 0 from h0) tD
  rw [if_neg c2]
  have hni := hho (by simpa using c2)
  have hnm : ∀ x ∈ o.msgs, ¬ x.id = e.msg.id := fun x hx ex => hni (ex ▸ hms _ (List.mem_map_of_mem (List.mem_append_left _ hx)))
  have hmr : e.msg.right = true := by
   have := right_k hr
   unfold Eff.rightK at this
   rw [if_neg tO, if_neg tO, if_neg tO, if_pos k4, Bool.and_eq_true] at this
   exact this.2
  have hpm := ins_perm o.msgs (plc (fun x => decide (0 < cmpM x e.msg)) o.msgs) e.msg
  refine ⟨⟨h.nm, h.kd, h.rows, ins_pair h.up (fun a ha => ?_) (plc_behind h.up (fun b hb => cmpM_pos (of_decide_eq_true hb)) (fun b c x y => cmpM_trans x y)), ?_, fun x hx => ?_, h.dd⟩, rfl, rfl, .more e.msg.id (if_pos ⟨by omega, hni⟩) ?_⟩
  ·have hb := of_decide_eq_false (plc_before (p := fun x => decide (0 < cmpM x e.msg)) ha)
   rcases cmpM_tot (hnm a (List.mem_of_mem_take ha)) with h1 | h1
   ·exact h1
   ·exact absurd h1 hb
  ·refine ((hpm.map (fun x : Msg => x.id)).nodup_iff).2 ?_
   rw [List.map_cons]
   exact List.nodup_cons.2 ⟨fun hm => by obtain ⟨x, hx, ex⟩ := List.mem_map.1 hm; exact hnm x hx ex, h.ids⟩
  ·rcases insAt_mem hx with hx | rfl
   ·exact h.msg x hx
   ·exact hmr
  ·unfold Ob.ids
   dsimp only
   rw [List.map_append, List.map_append]
   exact (List.Perm.append_right _ (hpm.map (fun x : Msg => x.id)))
 rw [if_neg k4] at h0 ⊢
 by_cases k5 : e.kind = 5
 ·rw [if_pos k5] at h0 ⊢
  refine ⟨?_, rfl, rfl, .less _ (List.Perm.refl _) ?_⟩
  ·unfold cutM
   split
   ·exact ⟨h.nm, h.kd, h.rows, h.up, h.ids, h.msg, h.dd⟩
   ·exact ⟨h.nm, h.kd, h.rows, h.up.sublist (List.eraseIdx_sublist _ _), h.ids.sublist ((List.eraseIdx_sublist _ _).map _), fun x hx => h.msg x (List.mem_of_mem_eraseIdx hx), h.dd⟩
  ·unfold Ob.ids cutM
   split
   ·exact List.Sublist.refl _
   ·exact (List.Sublist.append (List.eraseIdx_sublist _ _) (List.Sublist.refl _)).map _
 rw [if_neg k5] at h0 ⊢
 by_cases k6 : e.kind = 6
 ·rw [if_pos k6] at h0 ⊢
  by_cases c1 : findM o.msgs e.n < 0
  ·rw [if_pos c1] at h0; exact absurd (show (7 : Int) = 0 from h0) tD
  rw [if_neg c1] at h0 ⊢
  obtain ⟨k, m, hm, hkk, hid⟩ := find_M c1
  unfold claimM at h0 ⊢
  rw [if_neg c1, hkk, gd_at hm] at h0 ⊢
  split at h0
  ·exact absurd (show (2 : Int) = 0 from h0) tD
  ·rename_i c2
   rw [if_neg c2]
   have hmr : Msg.right { m with claimed := true } = true := h.msg m (List.mem_of_getElem? hm)
   exact ⟨h.set hm rfl rfl hmr, rfl, rfl, .less _ (by rw [show Ob.ids { o with msgs := o.msgs.set k { m with claimed := true } } = o.ids from set_ids hm rfl]) (List.Sublist.refl _)⟩
 rw [if_neg k6] at h0 ⊢
 by_cases k7 : e.kind = 7
 ·rw [if_pos k7] at h0 ⊢
  have hf : (freeO o e.n e.tried).2 = true := by
   cases hf : (freeO o e.n e.tried).2 with
   | true => rfl
   | false => rw [hf] at h0; exact absurd (show (7 : Int) = 0 from h0) tD
  obtain ⟨h1, h2, h3, h4⟩ := freeO_QR h hk hf
  exact ⟨h1, h3, h4, .less _ h2 (List.Sublist.refl _)⟩
 ·rw [if_neg k7] at h0; exact absurd (show (7 : Int) = 0 from h0) tD
theorem ids_set {s : Stt} {i : Nat} {o : Ob} (ho : s.objs[i]? = some o) (n : Int) (p : Ob) : ∃ A B, s.ids = A ++ (o.ids ++ B) ∧ Stt.ids ⟨n, s.objs.set i p⟩ = A ++ (p.ids ++ B) := by
 obtain ⟨hil, hoe⟩ := List.getElem?_eq_some_iff.1 ho
 refine ⟨(s.objs.take i).flatMap Ob.ids, (s.objs.drop (i + 1)).flatMap Ob.ids, ?_, ?_⟩
 ·unfold Stt.ids
  conv => lhs; rw [← List.take_append_drop i s.objs, List.drop_eq_getElem_cons hil, hoe]
  simp only [List.flatMap_append, List.flatMap_cons]
 ·unfold Stt.ids
  dsimp only
  rw [List.set_eq_take_append_cons_drop, if_pos hil]
  simp only [List.flatMap_append, List.flatMap_cons]
theorem SR.set {s : Stt} (h : SR s) {i : Nat} {o p : Ob} (ho : s.objs[i]? = some o) (hn : p.name = o.name) (hp : p.right = true) {m : Option Int} (hi : IdsTo o.ids m p.ids) (hm : ∀ n, m = some n → n < s.next ∧ n ∉ s.ids) : SR ⟨s.next, s.objs.set i p⟩ := by
 obtain ⟨hil, hoe⟩ := List.getElem?_eq_some_iff.1 ho
 obtain ⟨A, B, e1, e2⟩ := ids_set ho s.next p
 have hids := h.ids
 have hlt := h.lt
 rw [e1] at hids hlt
 have key : (A ++ (p.ids ++ B)).Nodup ∧ ∀ n ∈ A ++ (p.ids ++ B), n < s.next := by
  rcases hi with ⟨l, h1, h2⟩ | ⟨n, h1, h2⟩
  ·have hpm : (A ++ (p.ids ++ B)).Perm (A ++ (l ++ B)) := (List.Perm.append_right B h1).append_left A
   have hsb : (A ++ (l ++ B)).Sublist (A ++ (o.ids ++ B)) := List.Sublist.append (List.Sublist.refl _) (List.Sublist.append h2 (List.Sublist.refl _))
   exact ⟨hpm.nodup_iff.2 (hids.sublist hsb), fun n hn => hlt n (hsb.subset (hpm.mem_iff.1 hn))⟩
  ·have hpm : (A ++ (p.ids ++ B)).Perm (n :: (A ++ (o.ids ++ B))) := ((List.Perm.append_right B h2).append_left A).trans List.perm_middle
   obtain ⟨g1, g2⟩ := hm n h1
   rw [e1] at g2
   refine ⟨hpm.nodup_iff.2 (List.nodup_cons.2 ⟨g2, hids⟩), fun x hx => ?_⟩
   rcases List.mem_cons.1 (hpm.mem_iff.1 hx) with rfl | hx
   ·exact g1
   ·exact hlt x hx
 have hnm : (s.objs.set i p).map (·.name) = s.objs.map (·.name) := by
  rw [List.map_set, hn]
  refine List.ext_getElem? fun j => ?_
  rw [List.getElem?_set]
  split
  ·rename_i e; subst e; rw [List.getElem?_map, ho]; simp [hil]
  ·rfl
 refine ⟨fun x hx => ?_, ?_, by rw [e2]; exact key.1, by show (s.objs.set i p).length ≤ 20; rw [List.length_set]; exact h.len, h.nx, by rw [e2]; exact key.2⟩
 ·rcases List.mem_or_eq_of_mem_set hx with hx | rfl
  ·exact h.obj x hx
  ·exact hp
 ·have h1 : (s.objs.map (·.name)).Pairwise (fun a b => cmpB a b < 0) := by rw [List.pairwise_map]; exact h.names
  rw [← hnm, List.pairwise_map] at h1
  exact h1
theorem SR.obj_at {s : Stt} {name : ByteArray} (h : ¬ findO s name < 0) : ∃ (i : Nat) (o : Ob), s.objs[i]? = some o ∧ (findO s name).toNat = i ∧ o.name = name := by
 obtain ⟨i, o, h1, h2, h3⟩ := idxP_nat h
 exact ⟨i, o, h1, by unfold findO; rw [h2]; rfl, of_decide_eq_true h3⟩
theorem findO_none {s : Stt} {name : ByteArray} (h : findO s name < 0) : ∀ o ∈ s.objs, ¬ o.name = name := fun o ho he => by
 have h1 := idxP_any (fun o : Ob => decide (o.name = name)) s.objs
 have h2 : s.objs.any (fun o : Ob => decide (o.name = name)) = true := List.any_eq_true.2 ⟨o, ho, decide_eq_true he⟩
 rw [h2] at h1
 have h3 := of_decide_eq_true h1
 unfold findO at h; omega
theorem hasM_not {s : Stt} {n : Int} (h : hasM s n = false) : n ∉ s.ids := fun hn => by
 unfold Stt.ids at hn
 obtain ⟨o, ho, hno⟩ := List.mem_flatMap.1 hn
 unfold hasM at h
 have := List.any_eq_false.1 h o ho
 refine this (decide_eq_true fun hw => ?_)
 unfold whereM at hw
 unfold Ob.ids at hno
 obtain ⟨m, hm, rfl⟩ := List.mem_map.1 hno
 have f1 := idxP_any (fun x : Msg => decide (x.id = m.id)) o.msgs
 have f2 := idxP_any (fun x : Msg => decide (x.id = m.id)) o.dead
 rcases List.mem_append.1 hm with hm | hm
 ·have a : o.msgs.any (fun x : Msg => decide (x.id = m.id)) = true := List.any_eq_true.2 ⟨m, hm, decide_eq_true rfl⟩
  rw [a] at f1
  rw [if_pos (show 0 ≤ findM o.msgs m.id from of_decide_eq_true f1)] at hw
  exact absurd hw tD
 ·have a : o.dead.any (fun x : Msg => decide (x.id = m.id)) = true := List.any_eq_true.2 ⟨m, hm, decide_eq_true rfl⟩
  rw [a] at f2
  have hd : 0 ≤ findM o.dead m.id := of_decide_eq_true f2
  split at hw
  ·exact absurd hw tD
  ·first | exact absurd hw tD | (rw [if_pos hd] at hw; exact absurd hw tD)
theorem tableO_right {o : Ob} {e : Eff} (h : o.right = true) (hk : o.kind = 1) (he : e.kind = 2 ∨ e.kind = 3) (hr : e.right = true) : (tableO o e).1.right = true ∧ (tableO o e).1.name = o.name ∧ (tableO o e).1.ids = o.ids ∧ (tableO o e).1.kind = o.kind := by
 unfold tableO
 have hrk := right_k hr
 unfold Eff.rightK at hrk
 split
 ·rename_i k2
  rw [if_neg tO, if_pos k2, Bool.and_eq_true] at hrk
  exact ⟨putO_right hk hrk.2 h, rfl, rfl, rfl⟩
 ·refine ⟨?_, rfl, rfl, rfl⟩
  unfold Ob.right at h ⊢
  rw [if_pos hk] at h
  dsimp only
  rw [if_pos hk]
  simp only [Bool.and_eq_true, List.all_eq_true] at h ⊢
  obtain ⟨⟨h1, h2⟩, ⟨⟨h3, h4⟩, h5⟩, h6⟩ := h
  unfold cutR
  split
  ·refine ⟨⟨h1, h2⟩, ⟨⟨h3, h4⟩, ?_⟩, fun x hx => h6 x (List.mem_of_mem_eraseIdx hx)⟩
   refine adj_of_pair ?_
   exact (adj_pair (f := fun a b : Rw => decide (cmpB a.key b.key < 0)) (fun a b c h1 h2 => decide_eq_true (cmpB_trans (of_decide_eq_true h1) (of_decide_eq_true h2))) h5).sublist (List.eraseIdx_sublist _ _)
  ·exact ⟨⟨h1, h2⟩, ⟨⟨h3, h4⟩, h5⟩, h6⟩
theorem makeS_SR {s : Stt} {e : Eff} (h : SR s) (hk : e.kind = 1) (hr : e.right = true) (h0 : (makeS s e).2 = 0) : SR (makeS s e).1 := by
 unfold makeS at h0 ⊢
 by_cases c1 : 0 ≤ findO s e.object
 ·rw [if_pos c1] at h0; exact absurd (show (4 : Int) = 0 from h0) tD
 rw [if_neg c1] at h0 ⊢
 by_cases c2 : 20 ≤ s.objs.length
 ·rw [if_pos c2] at h0; exact absurd (show (6 : Int) = 0 from h0) tD
 rw [if_neg c2]
 have hrk := right_k hr
 unfold Eff.rightK at hrk
 rw [if_pos hk, Bool.and_eq_true] at hrk
 have hno := findO_none (s := s) (name := e.object) tO
 have hkk : e.n = 1 ∨ e.n = 2 := by
  have := hrk.2
  unfold effKind at this
  split at this
  ·left; assumption
  ·split at this
   ·right; assumption
   ·cases this
 have hor : Ob.right ⟨e.object, e.n, e.limit, [], [], []⟩ = true := by
  unfold Ob.right
  dsimp only
  rw [hrk.1, hrk.2]
  rcases hkk with k | k <;> rw [k] <;> rfl
 have hids : Stt.ids ⟨s.next, insAt s.objs (plc (fun o => decide (0 < cmpB o.name e.object)) s.objs) ⟨e.object, e.n, e.limit, [], [], []⟩⟩ = s.ids := by
  unfold Stt.ids insAt
  dsimp only
  conv => rhs; rw [← List.take_append_drop (plc (fun o => decide (0 < cmpB o.name e.object)) s.objs) s.objs]
  rw [List.flatMap_append, List.flatMap_append, List.flatMap_append, List.flatMap_singleton, show Ob.ids ⟨e.object, e.n, e.limit, [], [], []⟩ = [] from rfl, List.append_nil]
 refine ⟨fun x hx => ?_, ins_pair h.names (fun a ha => ?_) (plc_behind (R := fun a b : Ob => cmpB a.name b.name < 0) h.names (fun b hb => ?_) (fun b c x y => cmpB_trans x y)), by rw [hids]; exact h.ids, ?_, h.nx, by rw [hids]; exact h.lt⟩
 ·rcases insAt_mem hx with hx | rfl
  ·exact h.obj x hx
  ·exact hor
 ·have hb := of_decide_eq_false (plc_before (p := fun o : Ob => decide (0 < cmpB o.name e.object)) ha)
  have hne := hno a (List.mem_of_mem_take ha)
  have hz : ¬ cmpB a.name e.object = 0 := fun hz => hne (cmpB_zero.1 hz)
  show cmpB a.name e.object < 0
  omega
 ·have := of_decide_eq_true hb
  show cmpB e.object b.name < 0
  rw [cmpB_anti]; omega
 ·show (insAt s.objs _ _).length ≤ 20
  have := insAt_le s.objs (plc (fun o => decide (0 < cmpB o.name e.object)) s.objs) ⟨e.object, e.n, e.limit, [], [], []⟩
  omega
theorem doS_SR {s : Stt} {e : Eff} (h : SR s) (h0 : (doS s e).2 = 0) : SR (doS s e).1 := by
 unfold doS at h0 ⊢
 by_cases c0 : e.right = false
 ·rw [if_pos c0] at h0; exact absurd (show (1 : Int) = 0 from h0) tD
 rw [if_neg c0] at h0 ⊢
 have hr : e.right = true := by simpa using c0
 by_cases c1 : e.kind = 1
 ·rw [if_pos c1] at h0 ⊢
  exact makeS_SR h c1 hr h0
 rw [if_neg c1] at h0 ⊢
 by_cases c8 : e.kind = 8
 ·rw [if_pos c8] at h0 ⊢
  unfold nextS at h0 ⊢
  by_cases cn : e.n < s.next
  ·rw [if_pos cn] at h0; exact absurd (show (1 : Int) = 0 from h0) tD
  rw [if_neg cn]
  have hrk := right_k hr
  unfold Eff.rightK at hrk
  rw [if_neg tO, if_neg tO, if_neg tO, if_neg tO, if_neg tO, if_pos c8] at hrk
  unfold effId at hrk
  rw [Bool.and_eq_true, decide_eq_true_eq, decide_eq_true_eq] at hrk
  exact ⟨h.obj, h.names, h.ids, h.len, hrk, fun n hn => by have := h.lt n hn; show n < e.n; omega⟩
 rw [if_neg c8] at h0 ⊢
 by_cases cf : findO s e.object < 0
 ·rw [if_pos cf] at h0; exact absurd (show (3 : Int) = 0 from h0) tD
 rw [if_neg cf] at h0 ⊢
 obtain ⟨i, o, ho, hi, hnm⟩ := SR.obj_at cf
 rw [hi, gd_at ho] at h0 ⊢
 have hor := h.obj o (List.mem_of_getElem? ho)
 split at h0
 ·exact absurd (show (5 : Int) = 0 from h0) tD
 ·rename_i ck
  rw [if_neg ck]
  have ck : decide (e.kind = 2 ∨ e.kind = 3) = decide (o.kind = 1) := Decidable.not_not.1 ck
  by_cases ct : e.kind = 2 ∨ e.kind = 3
  ·rw [if_pos ct]
   have hk1 : o.kind = 1 := of_decide_eq_true (by rw [← ck]; exact decide_eq_true ct)
   obtain ⟨t1, t2, t3, _⟩ := tableO_right (e := e) hor hk1 ct hr
   exact h.set ho t2 t1 (m := none) (.less _ (by rw [t3]) (List.Sublist.refl _)) (fun n hn => by cases hn)
  ·rw [if_neg ct] at h0 ⊢
   have hk1 : ¬ o.kind = 1 := of_decide_eq_false (by rw [← ck]; exact decide_eq_false ct)
   obtain ⟨q1, q2, q3, q4⟩ := queueO_QR ((ob_QR hk1).1 hor) hk1 hr (fun m hm => List.mem_flatMap.2 ⟨o, List.mem_of_getElem? ho, hm⟩) hasM_not h0
   refine h.set ho q2 (q1.right (by rw [q3]; exact hk1)) q4 (fun n hn => ?_)
   split at hn
   ·rename_i hc; cases hn; exact hc
   ·cases hn
theorem doAll_SR : ∀ {l : List Eff} {s : Stt}, SR s → (doAll s l).2 = 0 → SR (doAll s l).1
 | [], _, h, _ => h
 | e :: l, s, h, h0 => by
  unfold doAll at h0 ⊢
  by_cases c : (doS s e).2 = 0
  ·rw [if_pos c] at h0 ⊢
   exact doAll_SR (doS_SR h c) h0
  ·rw [if_neg c] at h0
   exact absurd h0 c
theorem apply_right {s : Stt} {l : List Eff} (h0 : (applyS s l).2 = 0) : s.right = true ∧ (applyS s l).1.right = true ∧ applyS s l = doAll s l := by
 unfold applyS at h0 ⊢
 split at h0
 ·exact absurd (show (1 : Int) = 0 from h0) tD
 ·rename_i hr
  have hr : s.right = true := by simpa using hr
  rw [if_neg (by rw [hr]; decide)]
  exact ⟨hr, (doAll_SR (right_SR hr) h0).right, rfl⟩
theorem apply_eq {s : Stt} (h : s.right = true) (l : List Eff) : applyS s l = doAll s l := by unfold applyS; rw [if_neg (by rw [h]; decide)]
theorem init_right : Stt.right ⟨1, []⟩ = true := by decide
end Go.Proofs.YtkbhldicnamcdaaGreat.L
namespace Go.Proofs.YtkbhldicnamcdaaGreat.L
open Go Go.Proofs
attribute [local irreducible] pv fv pt fz RowF RowO rowP old pure_ elA Rd.int Rd.text Rd.flag Rd.msg Rd.rint Rd.rtext Rd.rflag Rd.rmsg
theorem hasM_count {s : Stt} {n : Int} : hasM s n = true ↔ 0 < s.ids.count n := by
 rw [List.count_pos_iff]
 constructor
 ·intro h
  unfold hasM at h
  obtain ⟨o, ho, hw⟩ := List.any_eq_true.1 h
  have hw := of_decide_eq_true hw
  unfold whereM at hw
  refine List.mem_flatMap.2 ⟨o, ho, ?_⟩
  unfold Ob.ids
  rw [List.map_append, List.mem_append]
  by_cases c : 0 ≤ findM o.msgs n
  ·left
   obtain ⟨i, x, hx, hi, hp⟩ := idxP_nat (l := o.msgs) (p := fun m => decide (m.id = n)) (by show ¬ findM o.msgs n < 0; omega)
   exact List.mem_map.2 ⟨x, List.mem_of_getElem? hx, of_decide_eq_true hp⟩
  ·rw [if_neg c] at hw
   by_cases c2 : 0 ≤ findM o.dead n
   ·right
    obtain ⟨i, x, hx, hi, hp⟩ := idxP_nat (l := o.dead) (p := fun m => decide (m.id = n)) (by show ¬ findM o.dead n < 0; omega)
    exact List.mem_map.2 ⟨x, List.mem_of_getElem? hx, of_decide_eq_true hp⟩
   ·rw [if_neg c2] at hw; exact absurd rfl hw
 ·intro h
  cases hh : hasM s n with
  | true => rfl
  | false => exact absurd h (hasM_not hh)
set_option maxHeartbeats 1600000 in
theorem ref_totalA (A0 : HP) (s : Sz) (n : Int) (hA0 : IsRow A0 Kd.oz s.q s.l) (hok : s.ok) (hN : s.cnt s.l.length ≤ 9000000000000000000) : Fn Tryz.prog 116 [.agg s.cells.toArray, .int .i64 n].toArray [A0, NestF s.l] (fun v post => v = .int .i64 (s.st.ids.count n : Nat) ∧ post = [A0]) := by
 have hlen := idsTo_len s
 have hcm := cnt_mono s
 obtain ⟨hn0, hl, hlc, hall⟩ := hok
 refine Fn.enter (N := 67) func116 rfl ntmps116 tK rfl (fun ρ L => ?_)
 refine ky<|kl (l_box rfl rfl) ?_
 rintro _ _ ⟨b2, rfl, rfl⟩
 refine ka rfl<|kz<|ka rfl<|zm<|ke<|ky<|ka rfl<|zm<|kB ?_
 refine kX (ι := { x : Nat // x ≤ s.l.length }) (fun x => [(6, .int .i64 x.1), (5, .int .i64 (((idsTo s x.1).count n : Nat) : Int)), (2, .pointer (some ⟨b2, 0, none⟩)), (1, .int .i64 n)]) (fun x => [pv b2 47 s.cells, A0, NestF s.l] ++ L) (fun x => s.l.length - x.1) ⟨0, Nat.zero_le _⟩ tS (fun w h => h.fitD) (fun x ih => ?_)
 obtain ⟨i, hi⟩ := x
 dsimp only at hi ⊢
 refine ke<|ky<|km rfl<|kq (qO fo_47_1 rfl)<|kq (qD ck_45 rfl)<|kq (qG underlying45 rfl)<|kq (q_lt rfl rfl)<|zm ?_
 refine kD (s := 13) rfl (fun g13 => ?_) (fun g13 => ?_)
 ·obtain ⟨o, ho⟩ : ∃ e, s.l[i]? = some e := ⟨_, List.getElem?_eq_getElem tO⟩
  have hmo := List.mem_of_getElem? ho
  obtain ⟨⟨_, _, _, _, _, _, ha, hb, hd⟩, _⟩ := hall o hmo
  have hcs := cnt_succ ho
  have hc1 := hcm (i + 1)
  have hl0 := hlen i
  unfold Ob.cnt at hcs
  refine K.st (fun w h => nA (l := s.l) tM hmo h) ?_
  generalize hA : idsTo s i = A at hl0 ⊢
  refine za<|ke<|kB<|ke<|ky<|ka rfl<|zm<|kB ?_
  refine kX (ι := { x : Nat // x ≤ o.x.msgs.length }) (fun x => [(7, .int .i64 x.1), (6, .int .i64 i), (5, .int .i64 (((A ++ (o.x.msgs.take x.1).map (·.id)).count n : Nat) : Int)), (2, .pointer (some ⟨b2, 0, none⟩)), (1, .int .i64 n)]) (fun x => ObL o ++ [pv b2 47 s.cells, A0, NestF s.l] ++ L) (fun x => o.x.msgs.length - x.1) ⟨0, Nat.zero_le _⟩ (eC rfl (eC rfl (eC (by refine congrArg (fun z => some (Value.int .i64 z)) ?_; simp) (eC rfl (eC rfl (Env.sub_nil _)))))) (fun w h => h.fitD) (fun x ih2 => ?_)
  obtain ⟨k, hk⟩ := x
  dsimp only at hk ⊢
  have hle : (A ++ (o.x.msgs.take k).map (·.id)).count n ≤ 9000000000000000000 - 1 - o.x.msgs.length + k := by
   refine Nat.le_trans List.count_le_length ?_
   rw [List.length_append, List.length_map, List.length_take]
   omega
  refine ke<|ky<|km rfl<|kq (qO fo_47_1 rfl)<|kq (qD ck_45 rfl)<|km rfl<|kq (q_ix (xs := s.l) i se_45 rfl rfl rfl hA0 tM rfl tO)<|kq (qE fo_62_4 rfl)<|kq (q_ldE (xs := s.l) ck_60 rfl hA0 tM ho rfl)<|kq (qG underlying60 rfl)<|kq (q_lt rfl rfl)<|zm ?_
  refine kD (s := 24) rfl (fun g24 => ?_) (fun g24 => ?_)
  ·obtain ⟨m, hm⟩ : ∃ e, o.x.msgs[k]? = some e := ⟨_, List.getElem?_eq_getElem tO⟩
   have hst := count_step (A := A) n hm
   refine za<|ke<|kB<|ky<|kq (qO fo_47_1 rfl)<|kq (qD ck_45 rfl)<|km rfl<|kq (q_ix (xs := s.l) i se_45 rfl rfl rfl hA0 tM rfl tO)<|kq (qE fo_62_4 rfl)<|kq (q_ldE (xs := s.l) ck_60 rfl hA0 tM ho rfl)<|km rfl ?_
   first | refine kq (q_ix _ se_60 rfl rfl rfl isF tM rfl tL) ?_ | refine kq (q_ix _ se_60 rfl rfl rfl isO tM rfl tL) ?_
   refine kq (qE fo_56_0 rfl) ?_
   first | refine kq (q_ldE ck_3 rfl isF tM tE rfl) ?_ | refine kq (q_ldE ck_3 rfl isO tM tE rfl) ?_
   refine km rfl<|kq (q_eq rfl rfl)<|zm ?_
   refine kD (s := 38) rfl (fun g38 => ?_) (fun g38 => ?_)
   ·refine kr<|km rfl<|kq (q_add rfl rfl tN tN)<|ka rfl<|zm<|zd<|kr<|km rfl<|kq (q_add rfl rfl tN tN)<|ka rfl<|zm ?_
    refine K.weak (eC rfl (eC rfl (eC ?_ (eC rfl (eC rfl (Env.sub_nil _)))))) (fun w h => h.fitD) (ih2 ⟨k + 1, by omega⟩ (by show o.x.msgs.length - (k + 1) < o.x.msgs.length - k; omega))
    show _ = some (Value.int .i64 (((A ++ (o.x.msgs.take (k + 1)).map (·.id)).count n : Nat) : Int))
    refine congrArg (fun z => some (Value.int .i64 z)) ?_
    first
     | rw [if_pos g38] at hst
     | rw [if_neg g38] at hst
    omega
   ·refine za<|zd<|kr<|km rfl<|kq (q_add rfl rfl tN tN)<|ka rfl<|zm ?_
    refine K.weak (eC rfl (eC rfl (eC ?_ (eC rfl (eC rfl (Env.sub_nil _)))))) (fun w h => h.fitD) (ih2 ⟨k + 1, by omega⟩ (by show o.x.msgs.length - (k + 1) < o.x.msgs.length - k; omega))
    show _ = some (Value.int .i64 (((A ++ (o.x.msgs.take (k + 1)).map (·.id)).count n : Nat) : Int))
    refine congrArg (fun z => some (Value.int .i64 z)) ?_
    first
     | rw [if_pos g38] at hst
     | rw [if_neg g38] at hst
    omega
  ·obtain rfl : k = o.x.msgs.length := by omega
   rw [List.take_length]
   refine K.exit rfl<|ky<|ka rfl<|zm<|kB ?_
   refine kX (ι := { x : Nat // x ≤ o.x.dead.length }) (fun x => [(8, .int .i64 x.1), (6, .int .i64 i), (5, .int .i64 (((A ++ o.x.msgs.map (·.id) ++ (o.x.dead.take x.1).map (·.id)).count n : Nat) : Int)), (2, .pointer (some ⟨b2, 0, none⟩)), (1, .int .i64 n)]) (fun x => ObL o ++ [pv b2 47 s.cells, A0, NestF s.l] ++ L) (fun x => o.x.dead.length - x.1) ⟨0, Nat.zero_le _⟩ (eC rfl (eC rfl (eC (by refine congrArg (fun z => some (Value.int .i64 z)) ?_; simp) (eC rfl (eC rfl (Env.sub_nil _)))))) (fun w h => h.fitD) (fun x ih3 => ?_)
   obtain ⟨k2, hk2⟩ := x
   dsimp only at hk2 ⊢
   have hle2 : (A ++ o.x.msgs.map (·.id) ++ (o.x.dead.take k2).map (·.id)).count n ≤ 9000000000000000000 - 1 - o.x.dead.length + k2 := by
    refine Nat.le_trans List.count_le_length ?_
    rw [List.length_append, List.length_append, List.length_map, List.length_map, List.length_take]
    omega
   refine ke<|ky<|km rfl<|kq (qO fo_47_1 rfl)<|kq (qD ck_45 rfl)<|km rfl<|kq (q_ix (xs := s.l) i se_45 rfl rfl rfl hA0 tM rfl tO)<|kq (qE fo_62_5 rfl)<|kq (q_ldE (xs := s.l) ck_60 rfl hA0 tM ho rfl)<|kq (qG underlying60 rfl)<|kq (q_lt rfl rfl)<|zm ?_
   refine kD (s := 49) rfl (fun g49 => ?_) (fun g49 => ?_)
   ·obtain ⟨m, hm⟩ : ∃ e, o.x.dead[k2]? = some e := ⟨_, List.getElem?_eq_getElem tO⟩
    have hst := count_step (A := A ++ o.x.msgs.map (·.id)) n hm
    refine za<|ke<|kB<|ky<|kq (qO fo_47_1 rfl)<|kq (qD ck_45 rfl)<|km rfl<|kq (q_ix (xs := s.l) i se_45 rfl rfl rfl hA0 tM rfl tO)<|kq (qE fo_62_5 rfl)<|kq (q_ldE (xs := s.l) ck_60 rfl hA0 tM ho rfl)<|km rfl ?_
    first | refine kq (q_ix _ se_60 rfl rfl rfl isF tM rfl tL) ?_ | refine kq (q_ix _ se_60 rfl rfl rfl isO tM rfl tL) ?_
    refine kq (qE fo_56_0 rfl) ?_
    first | refine kq (q_ldE ck_3 rfl isF tM tE rfl) ?_ | refine kq (q_ldE ck_3 rfl isO tM tE rfl) ?_
    refine km rfl<|kq (q_eq rfl rfl)<|zm ?_
    refine kD (s := 63) rfl (fun g63 => ?_) (fun g63 => ?_)
    ·refine kr<|km rfl<|kq (q_add rfl rfl tN tN)<|ka rfl<|zm<|zd<|kr<|km rfl<|kq (q_add rfl rfl tN tN)<|ka rfl<|zm ?_
     refine K.weak (eC rfl (eC rfl (eC ?_ (eC rfl (eC rfl (Env.sub_nil _)))))) (fun w h => h.fitD) (ih3 ⟨k2 + 1, by omega⟩ (by show o.x.dead.length - (k2 + 1) < o.x.dead.length - k2; omega))
     show _ = some (Value.int .i64 (((A ++ o.x.msgs.map (·.id) ++ (o.x.dead.take (k2 + 1)).map (·.id)).count n : Nat) : Int))
     refine congrArg (fun z => some (Value.int .i64 z)) ?_
     first
      | rw [if_pos g63] at hst
      | rw [if_neg g63] at hst
     omega
    ·refine za<|zd<|kr<|km rfl<|kq (q_add rfl rfl tN tN)<|ka rfl<|zm ?_
     refine K.weak (eC rfl (eC rfl (eC ?_ (eC rfl (eC rfl (Env.sub_nil _)))))) (fun w h => h.fitD) (ih3 ⟨k2 + 1, by omega⟩ (by show o.x.dead.length - (k2 + 1) < o.x.dead.length - k2; omega))
     show _ = some (Value.int .i64 (((A ++ o.x.msgs.map (·.id) ++ (o.x.dead.take (k2 + 1)).map (·.id)).count n : Nat) : Int))
     refine congrArg (fun z => some (Value.int .i64 z)) ?_
     first
      | rw [if_pos g63] at hst
      | rw [if_neg g63] at hst
     omega
   ·obtain rfl : k2 = o.x.dead.length := by omega
    rw [List.take_length]
    have hfin : A ++ o.x.msgs.map (·.id) ++ o.x.dead.map (·.id) = idsTo s (i + 1) := by rw [idsTo_succ ho, hA]; unfold Ob.ids; rw [List.map_append, List.append_assoc]
    rw [hfin]
    refine K.exit rfl<|zd<|kr<|km rfl<|kq (q_add rfl rfl tN tN)<|ka rfl<|zm ?_
    refine K.weak tS (fun w h => h.fitD) (ih ⟨i + 1, by omega⟩ (by show s.l.length - (i + 1) < s.l.length - i; omega))
 ·obtain rfl : i = s.l.length := by omega
  rw [idsTo_all]
  refine K.exit rfl<|ky<|km rfl<|ka rfl<|zm ?_
  refine kr1 func116 results116 rfl (fun w hs => ?_)
  exact ⟨_, [A0], rfl, ⟨rfl, rfl⟩, hs.fitD⟩
set_option maxHeartbeats 3200000 in
theorem ref_Copy (s : Sz) (hl : s.l.length ≤ 1000000000) (hle : ∀ o ∈ s.l, o.le 1000000000) : Fn Tryz.prog 63 [.agg s.cells.toArray].toArray (StL s)
  (fun r post => ∃ q' c' l', r = .agg (Sz.cells ⟨s.next, q', c', l'⟩).toArray ∧ post = [RowO Kd.oz 62 q' c' l', NestF l'] ∧ l'.map (·.x) = s.l.map (·.x) ∧ l'.length ≤ c' ∧ ∀ o ∈ l', o.cap) := by
 refine Fn.enter (N := 24) func63 rfl ntmps63 tK rfl (fun ρ L => ?_)
 refine ky<|kl (l_box rfl rfl) ?_
 rintro _ _ ⟨b1, rfl, rfl⟩
 refine kl (lL zo_47) ?_
 rintro _ _ ⟨b2, rfl, rfl⟩
 refine kz<|ka rfl<|zm<|ke<|ky<|ka rfl<|zm<|kB ?_
 refine kX (ι := { x : Nat × Option Addr × Nat × List Oz // x.1 ≤ s.l.length ∧ x.2.2.2.map (·.x) = (s.l.take x.1).map (·.x) ∧ ∀ o ∈ x.2.2.2, o.cap }) (fun x => [(4, .int .i64 x.1.1), (3, .slice x.1.2.1 x.1.2.2.2.length x.1.2.2.1), (1, .pointer (some ⟨b1, 0, none⟩)), (2, .pointer (some ⟨b2, 0, none⟩))]) (fun x => [RowO Kd.oz 62 x.1.2.1 x.1.2.2.1 x.1.2.2.2, NestF x.1.2.2.2, pv b1 47 s.cells, pv b2 47 [.int .i64 0, .slice none 0 0], RowF Kd.oz s.q s.l, NestF s.l] ++ L) (fun x => s.l.length - x.1.1) ⟨(0, none, 0, []), Nat.zero_le _, rfl, fun o ho => by cases ho⟩ tS (fun w h => (nestF_nil (rowO_nil (k := Kd.oz) 62 h)).fitD) (fun x ih => ?_)
 obtain ⟨⟨i, q', c', l'⟩, hi, hm, hcap⟩ := x
 dsimp only at hi hm hcap ⊢
 have hll : l'.length = i := by have := congrArg List.length hm; rw [List.length_map, List.length_map, List.length_take] at this; omega
 refine ke<|ky<|km rfl<|kq (qO fo_47_1 rfl)<|kq (qD ck_45 rfl)<|kq (qG underlying45 rfl)<|kq (q_lt rfl rfl)<|zm ?_
 refine kD (s := 9) rfl (fun g9 => ?_) (fun g9 => ?_)
 ·obtain ⟨o, ho⟩ : ∃ e, s.l[i]? = some e := ⟨_, List.getElem?_eq_getElem tO⟩
  have hmo := List.mem_of_getElem? ho
  refine K.st (fun w h => nA (l := s.l) tM hmo h)<|za<|ke<|kB<|kr<|km rfl<|kq (qO fo_47_1 rfl)<|kq (qD ck_45 rfl)<|km rfl<|kq (q_ix (xs := s.l) i se_45 rfl rfl rfl isF tM rfl tO)<|kq (q_ldEN (xs := s.l) (enc := Oz.cells) ck_62 rfl isF tM ho)<|kl (kc rfl (h := ref_CopyObject o (hle o hmo))) ?_
  rintro _ _ ⟨_, ⟨z, rfl, rfl, hz⟩, rfl⟩
  refine kl (lO sz_45_1 rfl rfl ⟨rfl, rfl, rfl⟩) ?_
  rintro _ _ ⟨b19, rfl, rfl⟩
  refine kl (lX Kd.oz (ys := [⟨o.x, z⟩]) se_45 underlying45 ⟨_, ze_oz, rfl⟩ tD rfl rfl tP isP tM rfl rfl (by show (2 * (l'.length + 1) + 768) * _ ≤ _; omega)) ?_
  rintro _ _ ⟨qn, cn, rfl, rfl⟩
  refine ka rfl<|zm<|zd<|kr<|km rfl<|kq (q_add rfl rfl tN tN)<|ka rfl<|zm ?_
  refine K.st (fun w h => obO_freeze (o := ⟨o.x, z⟩) (h.fit (M := ObO ⟨o.x, z⟩ ++ [RowO Kd.oz 62 qn cn (l' ++ [⟨o.x, z⟩]), NestF l', pv b1 47 s.cells, pv b2 47 [.int .i64 0, .slice none 0 0], RowF Kd.oz s.q s.l, NestF s.l]) tG (by repeat (first | exact Drop.refl | apply Drop.skip)))) ?_
  refine K.st (fun w h => nestF_snoc (l := l') ⟨o.x, z⟩ tM tM tM tM h) ?_
  exact K.weak tS (fun w h => h.fitD) (ih ⟨(i + 1, qn, cn, l' ++ [⟨o.x, z⟩]), by show i + 1 ≤ _; omega, by
   show (l' ++ [_]).map _ = (s.l.take (i + 1)).map _
   rw [List.map_append, hm, List.take_add_one, ho, List.map_append]; rfl, fun p hp => by
   rcases List.mem_append.1 hp with hp | hp
   ·exact hcap p hp
   ·rw [List.mem_singleton.1 hp]; exact hz⟩ (by show s.l.length - (i + 1) < s.l.length - i; omega))
 ·obtain rfl : i = s.l.length := by omega
  rw [List.take_length] at hm
  clear ih
  refine K.exit rfl<|ky<|km rfl<|kq (qO fo_47_1 rfl)<|kN rfl (lA ck_45 rfl rfl rfl tP tA) ?_
  rintro _ _ ⟨rfl, rfl⟩
  refine kz<|kq (q_as_sz (l_ := l') (qL ck_47 rfl rfl tC) rfl)<|kN rfl (lS ck_47 rfl rfl ⟨rfl, rfl⟩ (sz_one _) tP) ?_
  rintro _ _ ⟨rfl, rfl⟩
  refine zm ?_
  refine K.ret (fn := Tryz.f63) func63 (fun a w hk hs => resC results63 hk rfl ck_47 rfl (cP tM w hs)) (fun w hs => ?_)
  have hc3 := rC (e := 62) (k := Kd.oz) (p := q') (cap := c') (xs := l') tM w hs
  exact ⟨_, [RowO Kd.oz 62 q' c' l', NestF l'], rfl, ⟨q', c', l', rfl, rfl, hm, hc3, hcap⟩, hs.fitD⟩
theorem right_kind {e : Eff} (h : e.right = true) : e.kind = 1 ∨ e.kind = 2 ∨ e.kind = 3 ∨ e.kind = 4 ∨ e.kind = 5 ∨ e.kind = 6 ∨ e.kind = 7 ∨ e.kind = 8 := by
 unfold Eff.right Eff.rightK at h
 simp only [Bool.and_eq_true] at h
 have h := h.2
 by_cases c1 : e.kind = 1
 ·exact .inl c1
 by_cases c2 : e.kind = 2
 ·exact .inr (.inl c2)
 by_cases c3 : e.kind = 3
 ·exact .inr (.inr (.inl c3))
 by_cases c4 : e.kind = 4
 ·exact .inr (.inr (.inr (.inl c4)))
 by_cases c5 : e.kind = 5 ∨ e.kind = 6 ∨ e.kind = 7
 ·omega
 by_cases c8 : e.kind = 8
 ·omega
 rw [if_neg c1, if_neg c2, if_neg c3, if_neg c4, if_neg c5, if_neg c8] at h
 cases h
structure Ready (s : Sz) (e : Eff) : Prop where
 right : e.right = true
 room : s.l.length ≤ s.c
 len : s.l.length ≤ 1000000000
 le : ∀ o ∈ s.l, o.le 1000000000
 cap : ∀ o ∈ s.l, o.cap
 rt : ∀ o ∈ s.l, ∀ m ∈ o.x.msgs, -9223372036854775808 ≤ m.retry
 key : ∀ o ∈ s.l, ∀ r ∈ o.x.rows, (r.key.size : Int) ≤ 9223372036854775807
 ekey : (e.key.size : Int) ≤ 9223372036854775807
 nkey : ∀ o ∈ s.l, (o.x.name.size : Int) ≤ 9223372036854775807
 eobj : (e.object.size : Int) ≤ 9223372036854775807
 ok : s.ok
 few : s.cnt s.l.length ≤ 9000000000000000000
def After (b : Nat) (s : Sz) (e : Eff) (r : Value) (post : List HP) : Prop := ∃ s' : Sz, r = .int .i64 (doS s.st e).2 ∧ ((doS s.st e).2 = 0 → s'.st = (doS s.st e).1) ∧ post = StO b s' ∧ s'.l.length ≤ s'.c ∧ ∀ o ∈ s'.l, o.cap
set_option maxHeartbeats 6400000 in
theorem ref_on (b : Nat) (s : Sz) (e : Eff) (hR : Ready s e) (h1 : ¬ e.kind = 1) (h8 : ¬ e.kind = 8) : Fn Tryz.prog 120 [.pointer (some ⟨b, 0, none⟩), .agg e.cells.toArray].toArray (StO b s) (After b s e) := by
 have hk8 := right_kind hR.right
 have her : ¬ e.right = false := by rw [hR.right]; decide
 have hset : ∀ (i : Nat) (o' : Oz), Sz.st ⟨s.next, s.q, s.c, s.l.set i o'⟩ = ⟨s.st.next, s.st.objs.set i o'.x⟩ := fun i o' => by unfold Sz.st; dsimp only; rw [List.map_set]
 have hok := hR.ok
 have hN := hR.few
 have hek := hR.ekey
 obtain ⟨nx, q, c, l⟩ := s
 have hc : l.length ≤ c := hR.room
 have hl : l.length ≤ 1000000000 := hR.len
 have hle : ∀ o ∈ l, o.le 1000000000 := hR.le
 have hcap : ∀ o ∈ l, o.cap := hR.cap
 have hs0 : ∀ o ∈ l, ∀ m ∈ o.x.msgs, -9223372036854775808 ≤ m.retry := hR.rt
 have hky : ∀ o ∈ l, ∀ r ∈ o.x.rows, (r.key.size : Int) ≤ 9223372036854775807 := hR.key
 clear hR
 refine Fn.enter (N := 140) func120 rfl ntmps120 tK rfl (fun ρ L => ?_)
 refine ky<|kl (l_box rfl rfl) ?_
 rintro _ _ ⟨b3, rfl, rfl⟩
 refine ka rfl<|zm<|ke<|K.drawS [pv b 47 (Sz.cells ⟨nx, q, c, l⟩), pv b3 58 e.cells] (fun _ h => h.subD) mixed<|dq 0 rfl (q_move rfl)<|dq 1 rfl (qN rfl)<|dq 2 rfl (q_as_sz (qL ck_47 rfl rfl tC) (by rfl))<|dq 3 rfl (qO fo_58_1 rfl)<|dq 4 rfl (qD ck_9 rfl)<|dq1 5 rfl (kc rfl (h := ref_FindObject (RowO Kd.oz 62 q c l) ⟨nx, q, c, l⟩ e.object isO hl)) (.inr (by rintro _ _ ⟨_, ⟨rfl, rfl⟩, rfl⟩ w h; exact h.subD)) ?_
 rintro _ _ ⟨_, ⟨rfl, rfl⟩, rfl⟩
 refine dq 6 rfl (q_assign rfl)<|D.done tK<|ke<|ky<|km rfl<|kq (q_lt rfl rfl)<|zm ?_
 refine kD (s := 16) rfl (fun g16 => ?_) (fun g16 => ?_)
 ·have hr2 : (doS (Sz.st ⟨nx, q, c, l⟩) e).2 = 3 := by unfold doS; rw [if_neg her, if_neg h1, if_neg h8, if_pos g16]
  refine ky<|ka rfl<|zm ?_
  refine kr1 func120 results120 rfl (fun w hs => ?_)
  exact ⟨_, StO b ⟨nx, q, c, l⟩, rfl, ⟨⟨nx, q, c, l⟩, by rw [hr2], fun h => by rw [hr2] at h; exact absurd h tD, rfl, hc, hcap⟩, hs.fitD⟩
 ·obtain ⟨i, o, ho, hi, hgd⟩ := findO_nat g16
  have ho : l[i]? = some o := ho
  have hset : ∀ o' : Oz, Sz.st ⟨nx, q, c, l.set i o'⟩ = ⟨nx, (Sz.st ⟨nx, q, c, l⟩).objs.set i o'.x⟩ := hset i
  have hil := (List.getElem?_eq_some_iff.1 ho).1
  have hmo := List.mem_of_getElem? ho
  have hol := hle o hmo
  have hoc := hcap o hmo
  have hrk := hky o hmo
  have hl1 : o.x.rows.length ≤ 1000000000 := hol.1
  have hl2 : o.x.msgs.length ≤ 1000000000 := hol.2.1
  have hk1 : o.x.rows.length ≤ o.z.c1 := hoc.1
  have hk2 : o.x.msgs.length ≤ o.z.c2 := hoc.2.1
  have hb := fun h5 => show doS (Sz.st ⟨nx, q, c, l⟩) e = (Sz.st ⟨nx, q, c, l⟩, 5) by unfold doS; rw [if_neg her, if_neg h1, if_neg h8, if_neg g16, hgd, if_pos h5]
  have ht := fun h5 h6 => show doS (Sz.st ⟨nx, q, c, l⟩) e = (⟨nx, (Sz.st ⟨nx, q, c, l⟩).objs.set i (tableO o.x e).1⟩, (tableO o.x e).2) by unfold doS; rw [if_neg her, if_neg h1, if_neg h8, if_neg g16, hgd, if_neg h5, if_pos h6, hi]; rfl
  have hqq := fun h5 h6 => show doS (Sz.st ⟨nx, q, c, l⟩) e = (⟨nx, (Sz.st ⟨nx, q, c, l⟩).objs.set i (queueO (Sz.st ⟨nx, q, c, l⟩) o.x e).1⟩, (queueO (Sz.st ⟨nx, q, c, l⟩) o.x e).2) by unfold doS; rw [if_neg her, if_neg h1, if_neg h8, if_neg g16, hgd, if_neg h5, if_neg h6, hi]; rfl
  rw [hi]
  refine K.st (fun w h => nA (l := l) tM hmo h)<|za<|ky<|km rfl<|kq (qN rfl)<|kq (qO fo_47_1 rfl)<|kq (qD ck_45 rfl)<|km rfl<|kq (q_ix (xs := l) i se_45 rfl rfl rfl isO tM rfl hil)<|kq (q_ldEN (xs := l) (enc := Oz.cells) ck_62 rfl isO tM ho)<|kl (lL zo_62) ?_
  rintro _ _ ⟨b6, rfl, rfl⟩
  refine kN rfl (lS ck_62 rfl rfl ⟨rfl, rfl⟩ (oz_one _) tP) ?_
  rintro _ _ ⟨rfl, rfl⟩
  refine kz<|kq (qO fo_58_0 rfl)<|kq (qD ck_3 rfl)<|kq (q_eq rfl rfl)<|km rfl ?_
  refine KO.dsplit 27 rfl (fun g27 => ?_) (fun g27 => ?_)
  ·refine zq<|zq<|zq<|kq (qT rfl rfl)<|ka rfl<|zm<|ke<|ky<|km rfl<|kq (qO fo_62_1 rfl)<|kq (qD ck_3 rfl)<|kq (q_eq rfl rfl)<|kq (q_bne underlying4 rfl rfl)<|zm ?_
   refine kT (s := 36) rfl (fun g36 => ?_) (fun g36 => ?_)
   ·have hr2 : (doS (Sz.st ⟨nx, q, c, l⟩) e).2 = 5 := congrArg Prod.snd<|hb (by rw [decide_eq_true (Or.inl g27)]; simpa using g36)
    refine ky<|ka rfl<|zm ?_
    refine kr1 func120 results120 rfl (fun w hs => ?_)
    exact ⟨_, StO b ⟨nx, q, c, l⟩, rfl, ⟨⟨nx, q, c, l⟩, by rw [hr2], fun h => by rw [hr2] at h; exact absurd h tD, rfl, hc, hcap⟩, hs.fitD⟩
   ·have hh := ht (by rw [decide_eq_true (Or.inl g27)]; simpa using g36) (.inl g27)
    refine za<|ky<|ka rfl<|zm<|ke<|ky<|kq (qO fo_58_0 rfl)<|kq (qD ck_3 rfl)<|zm<|kB<|ky<|kq (q_eq rfl rfl)<|ka rfl<|zm ?_
    refine kD (s := 39) rfl (fun g39 => ?_) (fun g39 => ?_)
    ·have hr : doS (Sz.st ⟨nx, q, c, l⟩) e = (⟨nx, (Sz.st ⟨nx, q, c, l⟩).objs.set i { o.x with rows := putR o.x.rows ⟨e.key, e.value⟩ }⟩, 0) := by rw [hh]; unfold tableO; rw [if_pos g39]
     refine kr<|kq (qO fo_62_3 rfl)<|kq (qD ck_59 rfl)<|kq (qO fo_58_2 rfl)<|kq (qD ck_9 rfl)<|kq (qO fo_58_3 rfl)<|kq (qD ck_9 rfl)<|kq (q_as_rw (q_build st_136 rfl tF) rfl)<|kl (kc rfl (h := ref_PutRow o.z.q1 o.z.c1 o.x.rows ⟨e.key, e.value⟩ hl1 hk1 hrk hek)) ?_
     rintro _ _ ⟨_, ⟨qn, cn, rfl, rfl, hcn⟩, rfl⟩
     refine kq (qO fo_62_3 rfl)<|kN rfl (lA ck_59 rfl rfl rfl tP tA) ?_
     rintro _ _ ⟨rfl, rfl⟩
     refine zm<|zd<|ke<|ky<|km rfl<|kq (q_not rfl)<|zm<|K.no rfl<|za<|ke<|K.drawS [pv b 47 (Sz.cells ⟨nx, q, c, l⟩), pv b6 62 (Oz.cells ⟨{ o.x with rows := putR o.x.rows ⟨e.key, e.value⟩ }, { o.z with q1 := qn, c1 := cn }⟩), RowO Kd.oz 62 q c l] (fun _ h => h.subD) mixed<|dq 0 rfl (q_move rfl)<|dq 1 rfl (qN rfl)<|dq 2 rfl (qO fo_47_1 rfl)<|dq 3 rfl (qD ck_45 rfl)<|dq 4 rfl (q_move rfl)<|dq 5 rfl (q_as (qL ck_62 rfl rfl tC) (show _ = Oz.cells ⟨{ o.x with rows := putR o.x.rows ⟨e.key, e.value⟩ }, { o.z with q1 := qn, c1 := cn }⟩ from rfl))<|dq 6 rfl (q_ix (xs := l) i se_45 rfl rfl rfl isO tM rfl hil)<|dq1N 7 rfl (l_storeEN ⟨{ o.x with rows := putR o.x.rows ⟨e.key, e.value⟩ }, { o.z with q1 := qn, c1 := cn }⟩ ck_62 rfl rfl tP hil) (.inl tK) ?_
     rintro _ _ ⟨rfl, rfl⟩
     refine D.done tK<|ky<|ka rfl<|zm ?_
     refine kr1 func120 results120 rfl (fun w hs => ?_)
     exact ⟨_, StO b ⟨nx, q, c, l.set i ⟨{ o.x with rows := putR o.x.rows ⟨e.key, e.value⟩ }, { o.z with q1 := qn, c1 := cn }⟩⟩, rfl, ⟨⟨nx, q, c, l.set i ⟨{ o.x with rows := putR o.x.rows ⟨e.key, e.value⟩ }, { o.z with q1 := qn, c1 := cn }⟩⟩, by rw [hr], fun _ => by rw [hr]; exact hset _, rfl, by show (l.set i _).length ≤ c; rw [List.length_set]; exact hc, set_le hcap (⟨hcn, hoc.2.1, hoc.2.2⟩)⟩, stO_put (o' := ⟨{ o.x with rows := putR o.x.rows ⟨e.key, e.value⟩ }, { o.z with q1 := qn, c1 := cn }⟩) ((rO (e := 136) (cap := cn) (k := Kd.rw) (p := qn) (xs := putR o.x.rows ⟨e.key, e.value⟩) (hs.pick tP)).fit (M := [RowO Kd.oz 62 q c (l.set i ⟨{ o.x with rows := putR o.x.rows ⟨e.key, e.value⟩ }, { o.z with q1 := qn, c1 := cn }⟩), NestF l] ++ ObL ⟨{ o.x with rows := putR o.x.rows ⟨e.key, e.value⟩ }, { o.z with q1 := qn, c1 := cn }⟩ ++ [pv b 47 (Sz.cells ⟨nx, q, c, l⟩)]) tG (by repeat (first | exact Drop.refl | apply Drop.skip)))⟩
    ·exact absurd g27 g39
  ·refine kq (qO fo_58_0 rfl)<|kq (qD ck_3 rfl)<|kq (q_eq rfl rfl)<|kq (qF rfl rfl)<|ka rfl<|zm<|ke<|ky<|km rfl<|kq (qO fo_62_1 rfl)<|kq (qD ck_3 rfl)<|kq (q_eq rfl rfl)<|kq (q_bne underlying4 rfl rfl)<|zm ?_
   refine kT (s := 36) rfl (fun g36 => ?_) (fun g36 => ?_)
   ·have hr2 : (doS (Sz.st ⟨nx, q, c, l⟩) e).2 = 5 := congrArg Prod.snd<|hb (by rw [show decide (e.kind = 2 ∨ e.kind = 3) = decide (e.kind = 3) by simp [g27]]; simpa using g36)
    refine ky<|ka rfl<|zm ?_
    refine kr1 func120 results120 rfl (fun w hs => ?_)
    exact ⟨_, StO b ⟨nx, q, c, l⟩, rfl, ⟨⟨nx, q, c, l⟩, by rw [hr2], fun h => by rw [hr2] at h; exact absurd h tD, rfl, hc, hcap⟩, hs.fitD⟩
   ·have h5 : ¬ decide (e.kind = 2 ∨ e.kind = 3) ≠ decide (o.x.kind = 1) := by rw [show decide (e.kind = 2 ∨ e.kind = 3) = decide (e.kind = 3) by simp [g27]]; simpa using g36
    refine za<|ky<|ka rfl<|zm<|ke<|ky<|kq (qO fo_58_0 rfl)<|kq (qD ck_3 rfl)<|zm<|kB<|ky<|kq (q_eq rfl rfl)<|ka rfl<|zm ?_
    refine kD (s := 39) rfl (fun g39 => ?_) (fun g39 => ?_)
    ·exact absurd g39 g27
    ·refine ky<|kq (q_eq rfl rfl)<|ka rfl<|zm ?_
     refine kD (s := 50) rfl (fun g50 => ?_) (fun g50 => ?_)
     ·have hh := ht h5 (.inr g50)
      have hh : doS (Sz.st ⟨nx, q, c, l⟩) e = (⟨nx, (Sz.st ⟨nx, q, c, l⟩).objs.set i { o.x with rows := (cutR o.x.rows e.key).1 }⟩, if (cutR o.x.rows e.key).2 = true then 0 else 7) := by rw [hh]; unfold tableO; rw [if_neg g39]
      refine kr<|kq (qO fo_62_3 rfl)<|kq (qD ck_59 rfl)<|kq (qO fo_58_2 rfl)<|kq (qD ck_9 rfl)<|kl (kc rfl (h := ref_CutRow o.z.q1 o.z.c1 o.x.rows e.key hl1 hk1 hrk hek)) ?_
      rintro _ _ ⟨_, ⟨qn, cn, rfl, rfl, hcn⟩, rfl⟩
      refine km rfl<|kq (qX rfl rfl)<|kq (qX rfl rfl)<|kq (qO fo_62_3 rfl)<|kN rfl (lA ck_59 rfl rfl rfl tP tA) ?_
      rintro _ _ ⟨rfl, rfl⟩
      refine ka rfl<|zm<|zd<|ke<|ky<|km rfl<|kq (q_not rfl)<|zm ?_
      refine kT (s := 132) rfl (fun g132 => ?_) (fun g132 => ?_)
      ·have hr2 : (doS (Sz.st ⟨nx, q, c, l⟩) e).2 = 7 := by rw [hh]; show (if _ then _ else _) = _; rw [if_neg (by simpa using g132)]
       refine ky<|ka rfl<|zm ?_
       refine kr1 func120 results120 rfl (fun w hs => ?_)
       exact ⟨_, StO b ⟨nx, q, c, l⟩, rfl, ⟨⟨nx, q, c, l⟩, by rw [hr2], fun h => by rw [hr2] at h; exact absurd h tD, rfl, hc, hcap⟩, hs.fitD⟩
      ·have hr : doS (Sz.st ⟨nx, q, c, l⟩) e = (⟨nx, (Sz.st ⟨nx, q, c, l⟩).objs.set i { o.x with rows := (cutR o.x.rows e.key).1 }⟩, 0) := by rw [hh, if_pos (by simpa using g132)]
       refine za<|ke<|K.drawS [pv b 47 (Sz.cells ⟨nx, q, c, l⟩), pv b6 62 (Oz.cells ⟨{ o.x with rows := (cutR o.x.rows e.key).1 }, { o.z with q1 := qn, c1 := cn }⟩), RowO Kd.oz 62 q c l] (fun _ h => h.subD) mixed<|dq 0 rfl (q_move rfl)<|dq 1 rfl (qN rfl)<|dq 2 rfl (qO fo_47_1 rfl)<|dq 3 rfl (qD ck_45 rfl)<|dq 4 rfl (q_move rfl)<|dq 5 rfl (q_as (qL ck_62 rfl rfl tC) (show _ = Oz.cells ⟨{ o.x with rows := (cutR o.x.rows e.key).1 }, { o.z with q1 := qn, c1 := cn }⟩ from rfl))<|dq 6 rfl (q_ix (xs := l) i se_45 rfl rfl rfl isO tM rfl hil)<|dq1N 7 rfl (l_storeEN ⟨{ o.x with rows := (cutR o.x.rows e.key).1 }, { o.z with q1 := qn, c1 := cn }⟩ ck_62 rfl rfl tP hil) (.inl tK) ?_
       rintro _ _ ⟨rfl, rfl⟩
       refine D.done tK<|ky<|ka rfl<|zm ?_
       refine kr1 func120 results120 rfl (fun w hs => ?_)
       exact ⟨_, StO b ⟨nx, q, c, l.set i ⟨{ o.x with rows := (cutR o.x.rows e.key).1 }, { o.z with q1 := qn, c1 := cn }⟩⟩, rfl, ⟨⟨nx, q, c, l.set i ⟨{ o.x with rows := (cutR o.x.rows e.key).1 }, { o.z with q1 := qn, c1 := cn }⟩⟩, by rw [hr], fun _ => by rw [hr]; exact hset _, rfl, by show (l.set i _).length ≤ c; rw [List.length_set]; exact hc, set_le hcap (⟨hcn, hoc.2.1, hoc.2.2⟩)⟩, stO_put (o' := ⟨{ o.x with rows := (cutR o.x.rows e.key).1 }, { o.z with q1 := qn, c1 := cn }⟩) ((rO (e := 136) (cap := cn) (k := Kd.rw) (p := qn) (xs := (cutR o.x.rows e.key).1) (hs.pick tP)).fit (M := [RowO Kd.oz 62 q c (l.set i ⟨{ o.x with rows := (cutR o.x.rows e.key).1 }, { o.z with q1 := qn, c1 := cn }⟩), NestF l] ++ ObL ⟨{ o.x with rows := (cutR o.x.rows e.key).1 }, { o.z with q1 := qn, c1 := cn }⟩ ++ [pv b 47 (Sz.cells ⟨nx, q, c, l⟩)]) tG (by repeat (first | exact Drop.refl | apply Drop.skip)))⟩
     ·have hh := hqq h5 (by simp [g39, g50])
      refine ky<|kq (q_eq rfl rfl)<|ka rfl<|zm ?_
      refine kD (s := 61) rfl (fun g61 => ?_) (fun g61 => ?_)
      ·have hq4 : ∀ r, (if nx ≤ e.msg.id ∨ e.msg.claimed = true then (o.x, (1 : Int)) else if hasM (Sz.st ⟨nx, q, c, l⟩) e.msg.id = true then (o.x, 4) else ({ o.x with msgs := addM o.x.msgs e.msg }, 0)) = r → queueO (Sz.st ⟨nx, q, c, l⟩) o.x e = r := fun r h => by unfold queueO; rw [if_pos g61]; exact h
       refine ke<|ke<|K.drawS [pv b 47 (Sz.cells ⟨nx, q, c, l⟩), pv b3 58 e.cells] (fun _ h => h.subD) mixed<|dq 0 rfl (qO fo_58_7 rfl)<|dq 1 rfl (qO fo_56_0 rfl)<|dq 2 rfl (qD ck_3 rfl)<|dq 3 rfl (q_move rfl)<|dq 4 rfl (qN rfl)<|dq 5 rfl (qO fo_47_0 rfl)<|dq 6 rfl (qD ck_3 rfl)<|dq 7 rfl (q_ge rfl rfl)<|dq 8 rfl (q_move rfl) ?_
       refine D.dsplit 71 rfl (fun g71 => ?_) (fun g71 => ?_)
       ·have hr2 : (doS (Sz.st ⟨nx, q, c, l⟩) e).2 = 1 := by rw [hh, hq4 (o.x, 1) (by rw [if_pos (.inl g71)])]
        refine dk 9 rfl<|dk 10 rfl<|dk 11 rfl<|dq 12 rfl (qT rfl rfl)<|D.done tK<|K.yes rfl<|ky<|ka rfl<|zm ?_
        refine kr1 func120 results120 rfl (fun w hs => ?_)
        exact ⟨_, StO b ⟨nx, q, c, l⟩, rfl, ⟨⟨nx, q, c, l⟩, by rw [hr2], fun h => by rw [hr2] at h; exact absurd h tD, rfl, hc, hcap⟩, hs.fitD⟩
       ·refine dq 9 rfl (qO fo_58_7 rfl)<|dq 10 rfl (qO fo_56_3 rfl)<|dq 11 rfl (qD ck_4 rfl)<|dq 12 rfl (qF rfl rfl)<|D.done tK ?_
        first | refine kD (s := 75) rfl (fun g75 => ?_) (fun g75 => ?_) | refine kT (s := 75) rfl (fun g75 => ?_) (fun g75 => ?_)
        ·have hr2 : (doS (Sz.st ⟨nx, q, c, l⟩) e).2 = 1 := by rw [hh, hq4 (o.x, 1) (by rw [if_pos (.inr (by simpa using g75))])]
         refine ky<|ka rfl<|zm ?_
         refine kr1 func120 results120 rfl (fun w hs => ?_)
         exact ⟨_, StO b ⟨nx, q, c, l⟩, rfl, ⟨⟨nx, q, c, l⟩, by rw [hr2], fun h => by rw [hr2] at h; exact absurd h tD, rfl, hc, hcap⟩, hs.fitD⟩
        ·have hno : ¬ (nx ≤ e.msg.id ∨ e.msg.claimed = true) := fun h => h.elim (fun h => g71 h) (fun h => by simp [h] at g75)
         refine za<|ke<|ke<|K.drawS [pv b 47 (Sz.cells ⟨nx, q, c, l⟩), pv b3 58 e.cells] (fun _ h => h.subD) mixed<|dq 0 rfl (q_move rfl)<|dq 1 rfl (qN rfl)<|dq 2 rfl (q_as_sz (qL ck_47 rfl rfl tC) (by rfl))<|dq 3 rfl (qO fo_58_7 rfl)<|dq 4 rfl (qO fo_56_0 rfl)<|dq 5 rfl (qD ck_3 rfl)<|dq1 6 rfl (kc rfl (h := ref_totalA (RowO Kd.oz 62 q c l) ⟨nx, q, c, l⟩ e.msg.id isO hok hN)) (.inr (by rintro _ _ ⟨_, ⟨rfl, rfl⟩, rfl⟩ w h; exact h.subD)) ?_
         rintro _ _ ⟨_, ⟨rfl, rfl⟩, rfl⟩
         refine dq 7 rfl (q_gt rfl rfl)<|D.done tK ?_
         refine kD (s := 83) rfl (fun g83 => ?_) (fun g83 => ?_)
         ·have hr2 : (doS (Sz.st ⟨nx, q, c, l⟩) e).2 = 4 := by rw [hh, hq4 (o.x, 4) (by rw [if_neg hno, if_pos (hasM_count.2 tO)])]
          refine ky<|ka rfl<|zm ?_
          refine kr1 func120 results120 rfl (fun w hs => ?_)
          exact ⟨_, StO b ⟨nx, q, c, l⟩, rfl, ⟨⟨nx, q, c, l⟩, by rw [hr2], fun h => by rw [hr2] at h; exact absurd h tD, rfl, hc, hcap⟩, hs.fitD⟩
         ·have hr : doS (Sz.st ⟨nx, q, c, l⟩) e = (⟨nx, (Sz.st ⟨nx, q, c, l⟩).objs.set i { o.x with msgs := addM o.x.msgs e.msg }⟩, 0) := by rw [hh, hq4 _ (by rw [if_neg hno, if_neg (fun h => g83 (by have := hasM_count.1 h; omega))])]
          refine za<|kr<|kq (qO fo_62_4 rfl)<|kq (qD ck_60 rfl)<|kq (qO fo_58_7 rfl)<|kq (q_ldPS sub_eff_msg msg_sz ck_56 rfl tM)<|kl (kc rfl (h := ref_AddMsg o.z.q2 o.z.c2 o.x.msgs e.msg hl2 hk2)) ?_
          rintro _ _ ⟨_, ⟨qn, cn, rfl, rfl, hcn⟩, rfl⟩
          refine kq (qO fo_62_4 rfl)<|kN rfl (lA ck_60 rfl rfl rfl tP tA) ?_
          rintro _ _ ⟨rfl, rfl⟩
          refine zm<|zd<|ke<|ky<|km rfl<|kq (q_not rfl)<|zm<|K.no rfl<|za<|ke<|K.drawS [pv b 47 (Sz.cells ⟨nx, q, c, l⟩), pv b6 62 (Oz.cells ⟨{ o.x with msgs := addM o.x.msgs e.msg }, { o.z with q2 := qn, c2 := cn }⟩), RowO Kd.oz 62 q c l] (fun _ h => h.subD) mixed<|dq 0 rfl (q_move rfl)<|dq 1 rfl (qN rfl)<|dq 2 rfl (qO fo_47_1 rfl)<|dq 3 rfl (qD ck_45 rfl)<|dq 4 rfl (q_move rfl)<|dq 5 rfl (q_as (qL ck_62 rfl rfl tC) (show _ = Oz.cells ⟨{ o.x with msgs := addM o.x.msgs e.msg }, { o.z with q2 := qn, c2 := cn }⟩ from rfl))<|dq 6 rfl (q_ix (xs := l) i se_45 rfl rfl rfl isO tM rfl hil)<|dq1N 7 rfl (l_storeEN ⟨{ o.x with msgs := addM o.x.msgs e.msg }, { o.z with q2 := qn, c2 := cn }⟩ ck_62 rfl rfl tP hil) (.inl tK) ?_
          rintro _ _ ⟨rfl, rfl⟩
          refine D.done tK<|ky<|ka rfl<|zm ?_
          refine kr1 func120 results120 rfl (fun w hs => ?_)
          exact ⟨_, StO b ⟨nx, q, c, l.set i ⟨{ o.x with msgs := addM o.x.msgs e.msg }, { o.z with q2 := qn, c2 := cn }⟩⟩, rfl, ⟨⟨nx, q, c, l.set i ⟨{ o.x with msgs := addM o.x.msgs e.msg }, { o.z with q2 := qn, c2 := cn }⟩⟩, by rw [hr], fun _ => by rw [hr]; exact hset _, rfl, by show (l.set i _).length ≤ c; rw [List.length_set]; exact hc, set_le hcap (⟨hoc.1, hcn, hoc.2.2⟩)⟩, stO_put (o' := ⟨{ o.x with msgs := addM o.x.msgs e.msg }, { o.z with q2 := qn, c2 := cn }⟩) ((rO (e := 56) (cap := cn) (k := Kd.msg) (p := qn) (xs := addM o.x.msgs e.msg) (hs.pick tP)).fit (M := [RowO Kd.oz 62 q c (l.set i ⟨{ o.x with msgs := addM o.x.msgs e.msg }, { o.z with q2 := qn, c2 := cn }⟩), NestF l] ++ ObL ⟨{ o.x with msgs := addM o.x.msgs e.msg }, { o.z with q2 := qn, c2 := cn }⟩ ++ [pv b 47 (Sz.cells ⟨nx, q, c, l⟩)]) tG (by repeat (first | exact Drop.refl | apply Drop.skip)))⟩
      ·refine ky<|kq (q_eq rfl rfl)<|ka rfl<|zm ?_
       refine kD (s := 90) rfl (fun g90 => ?_) (fun g90 => ?_)
       ·have hh : doS (Sz.st ⟨nx, q, c, l⟩) e = (⟨nx, (Sz.st ⟨nx, q, c, l⟩).objs.set i { o.x with msgs := (cutM o.x.msgs e.n).1 }⟩, if (cutM o.x.msgs e.n).2 = true then 0 else 7) := by rw [hh]; unfold queueO; rw [if_neg g61, if_pos g90]
        refine kr<|kq (qO fo_62_4 rfl)<|kq (qD ck_60 rfl)<|kq (qO fo_58_4 rfl)<|kq (qD ck_3 rfl)<|kl (kc rfl (h := ref_CutMsg o.z.q2 o.z.c2 o.x.msgs e.n hl2 hk2)) ?_
        rintro _ _ ⟨_, ⟨qn, cn, rfl, rfl, hcn⟩, rfl⟩
        refine km rfl<|kq (qX rfl rfl)<|kq (qX rfl rfl)<|kq (qO fo_62_4 rfl)<|kN rfl (lA ck_60 rfl rfl rfl tP tA) ?_
        rintro _ _ ⟨rfl, rfl⟩
        refine ka rfl<|zm<|zd<|ke<|ky<|km rfl<|kq (q_not rfl)<|zm ?_
        refine kT (s := 132) rfl (fun g132 => ?_) (fun g132 => ?_)
        ·have hr2 : (doS (Sz.st ⟨nx, q, c, l⟩) e).2 = 7 := by rw [hh]; show (if _ then _ else _) = _; rw [if_neg (by simpa using g132)]
         refine ky<|ka rfl<|zm ?_
         refine kr1 func120 results120 rfl (fun w hs => ?_)
         exact ⟨_, StO b ⟨nx, q, c, l⟩, rfl, ⟨⟨nx, q, c, l⟩, by rw [hr2], fun h => by rw [hr2] at h; exact absurd h tD, rfl, hc, hcap⟩, hs.fitD⟩
        ·have hr : doS (Sz.st ⟨nx, q, c, l⟩) e = (⟨nx, (Sz.st ⟨nx, q, c, l⟩).objs.set i { o.x with msgs := (cutM o.x.msgs e.n).1 }⟩, 0) := by rw [hh, if_pos (by simpa using g132)]
         refine za<|ke<|K.drawS [pv b 47 (Sz.cells ⟨nx, q, c, l⟩), pv b6 62 (Oz.cells ⟨{ o.x with msgs := (cutM o.x.msgs e.n).1 }, { o.z with q2 := qn, c2 := cn }⟩), RowO Kd.oz 62 q c l] (fun _ h => h.subD) mixed<|dq 0 rfl (q_move rfl)<|dq 1 rfl (qN rfl)<|dq 2 rfl (qO fo_47_1 rfl)<|dq 3 rfl (qD ck_45 rfl)<|dq 4 rfl (q_move rfl)<|dq 5 rfl (q_as (qL ck_62 rfl rfl tC) (show _ = Oz.cells ⟨{ o.x with msgs := (cutM o.x.msgs e.n).1 }, { o.z with q2 := qn, c2 := cn }⟩ from rfl))<|dq 6 rfl (q_ix (xs := l) i se_45 rfl rfl rfl isO tM rfl hil)<|dq1N 7 rfl (l_storeEN ⟨{ o.x with msgs := (cutM o.x.msgs e.n).1 }, { o.z with q2 := qn, c2 := cn }⟩ ck_62 rfl rfl tP hil) (.inl tK) ?_
         rintro _ _ ⟨rfl, rfl⟩
         refine D.done tK<|ky<|ka rfl<|zm ?_
         refine kr1 func120 results120 rfl (fun w hs => ?_)
         exact ⟨_, StO b ⟨nx, q, c, l.set i ⟨{ o.x with msgs := (cutM o.x.msgs e.n).1 }, { o.z with q2 := qn, c2 := cn }⟩⟩, rfl, ⟨⟨nx, q, c, l.set i ⟨{ o.x with msgs := (cutM o.x.msgs e.n).1 }, { o.z with q2 := qn, c2 := cn }⟩⟩, by rw [hr], fun _ => by rw [hr]; exact hset _, rfl, by show (l.set i _).length ≤ c; rw [List.length_set]; exact hc, set_le hcap (⟨hoc.1, hcn, hoc.2.2⟩)⟩, stO_put (o' := ⟨{ o.x with msgs := (cutM o.x.msgs e.n).1 }, { o.z with q2 := qn, c2 := cn }⟩) ((rO (e := 56) (cap := cn) (k := Kd.msg) (p := qn) (xs := (cutM o.x.msgs e.n).1) (hs.pick tP)).fit (M := [RowO Kd.oz 62 q c (l.set i ⟨{ o.x with msgs := (cutM o.x.msgs e.n).1 }, { o.z with q2 := qn, c2 := cn }⟩), NestF l] ++ ObL ⟨{ o.x with msgs := (cutM o.x.msgs e.n).1 }, { o.z with q2 := qn, c2 := cn }⟩ ++ [pv b 47 (Sz.cells ⟨nx, q, c, l⟩)]) tG (by repeat (first | exact Drop.refl | apply Drop.skip)))⟩
       ·refine ky<|kq (q_eq rfl rfl)<|ka rfl<|zm ?_
        refine kD (s := 101) rfl (fun g101 => ?_) (fun g101 => ?_)
        ·have hq6 : queueO (Sz.st ⟨nx, q, c, l⟩) o.x e = (if findM o.x.msgs e.n < 0 then (o.x, 7) else ({ o.x with msgs := (claimM o.x.msgs e.n true).1 }, if (claimM o.x.msgs e.n true).2 = true then 0 else 2)) := by unfold queueO; rw [if_neg g61, if_neg g90, if_pos g101]
         refine ke<|ky<|kq (qO fo_62_4 rfl)<|kq (qD ck_60 rfl)<|kq (qO fo_58_4 rfl)<|kq (qD ck_3 rfl)<|kl (kc rfl (h := ref_FindMsg o.z.q2 o.z.c2 o.x.msgs e.n tO)) ?_
         rintro _ _ ⟨_, ⟨rfl, rfl⟩, rfl⟩
         refine kq (q_lt rfl rfl)<|zm ?_
         refine kD (s := 108) rfl (fun g108 => ?_) (fun g108 => ?_)
         ·have hr2 : (doS (Sz.st ⟨nx, q, c, l⟩) e).2 = 7 := by rw [hh, hq6, if_pos (show findM o.x.msgs e.n < 0 from g108)]
          refine ky<|ka rfl<|zm ?_
          refine kr1 func120 results120 rfl (fun w hs => ?_)
          exact ⟨_, StO b ⟨nx, q, c, l⟩, rfl, ⟨⟨nx, q, c, l⟩, by rw [hr2], fun h => by rw [hr2] at h; exact absurd h tD, rfl, hc, hcap⟩, hs.fitD⟩
         ·have hh : doS (Sz.st ⟨nx, q, c, l⟩) e = (⟨nx, (Sz.st ⟨nx, q, c, l⟩).objs.set i { o.x with msgs := (claimM o.x.msgs e.n true).1 }⟩, if (claimM o.x.msgs e.n true).2 = true then 0 else 2) := by rw [hh, hq6, if_neg (show ¬ findM o.x.msgs e.n < 0 from g108)]
          refine za<|ky<|kq (qO fo_62_4 rfl)<|kq (qD ck_60 rfl)<|kq (qO fo_58_4 rfl)<|kq (qD ck_3 rfl)<|kl (kc rfl (h := ref_Claim o.z.q2 o.z.c2 o.x.msgs e.n true hl2)) ?_
          rintro _ _ ⟨_, ⟨qn, cn, rfl, rfl, hcn⟩, rfl⟩
          refine km rfl<|kq (qX rfl rfl)<|kq (qX rfl rfl)<|kq (qO fo_62_4 rfl)<|kN rfl (lA ck_60 rfl rfl rfl tP tA) ?_
          rintro _ _ ⟨rfl, rfl⟩
          refine ka rfl<|kz<|km rfl<|kq (q_not rfl)<|zm ?_
          refine kT (s := 119) rfl (fun g119 => ?_) (fun g119 => ?_)
          ·have hr2 : (doS (Sz.st ⟨nx, q, c, l⟩) e).2 = 2 := by rw [hh]; show (if _ then _ else _) = _; rw [if_neg (by simpa using g119)]
           refine ky<|ka rfl<|zm ?_
           refine kr1 func120 results120 rfl (fun w hs => ?_)
           exact ⟨_, StO b ⟨nx, q, c, l⟩, rfl, ⟨⟨nx, q, c, l⟩, by rw [hr2], fun h => by rw [hr2] at h; exact absurd h tD, rfl, hc, hcap⟩, hs.fitD⟩
          ·have hr : doS (Sz.st ⟨nx, q, c, l⟩) e = (⟨nx, (Sz.st ⟨nx, q, c, l⟩).objs.set i { o.x with msgs := (claimM o.x.msgs e.n true).1 }⟩, 0) := by rw [hh, if_pos (by simpa using g119)]
           refine za<|zd<|ke<|ky<|km rfl<|kq (q_not rfl)<|zm ?_
           refine kT (s := 132) rfl (fun g132 => ?_) (fun g132 => ?_)
           ·rw [g119] at g132; cases g132
           ·refine za<|ke<|K.drawS [pv b 47 (Sz.cells ⟨nx, q, c, l⟩), pv b6 62 (Oz.cells ⟨{ o.x with msgs := (claimM o.x.msgs e.n true).1 }, { o.z with q2 := qn, c2 := cn }⟩), RowO Kd.oz 62 q c l] (fun _ h => h.subD) mixed<|dq 0 rfl (q_move rfl)<|dq 1 rfl (qN rfl)<|dq 2 rfl (qO fo_47_1 rfl)<|dq 3 rfl (qD ck_45 rfl)<|dq 4 rfl (q_move rfl)<|dq 5 rfl (q_as (qL ck_62 rfl rfl tC) (show _ = Oz.cells ⟨{ o.x with msgs := (claimM o.x.msgs e.n true).1 }, { o.z with q2 := qn, c2 := cn }⟩ from rfl))<|dq 6 rfl (q_ix (xs := l) i se_45 rfl rfl rfl isO tM rfl hil)<|dq1N 7 rfl (l_storeEN ⟨{ o.x with msgs := (claimM o.x.msgs e.n true).1 }, { o.z with q2 := qn, c2 := cn }⟩ ck_62 rfl rfl tP hil) (.inl tK) ?_
            rintro _ _ ⟨rfl, rfl⟩
            refine D.done tK<|ky<|ka rfl<|zm ?_
            refine kr1 func120 results120 rfl (fun w hs => ?_)
            exact ⟨_, StO b ⟨nx, q, c, l.set i ⟨{ o.x with msgs := (claimM o.x.msgs e.n true).1 }, { o.z with q2 := qn, c2 := cn }⟩⟩, rfl, ⟨⟨nx, q, c, l.set i ⟨{ o.x with msgs := (claimM o.x.msgs e.n true).1 }, { o.z with q2 := qn, c2 := cn }⟩⟩, by rw [hr], fun _ => by rw [hr]; exact hset _, rfl, by show (l.set i _).length ≤ c; rw [List.length_set]; exact hc, set_le hcap (⟨hoc.1, hcn, hoc.2.2⟩)⟩, stO_put (o' := ⟨{ o.x with msgs := (claimM o.x.msgs e.n true).1 }, { o.z with q2 := qn, c2 := cn }⟩) ((rO (e := 56) (cap := cn) (k := Kd.msg) (p := qn) (xs := (claimM o.x.msgs e.n true).1) (hs.pick tP)).fit (M := [RowO Kd.oz 62 q c (l.set i ⟨{ o.x with msgs := (claimM o.x.msgs e.n true).1 }, { o.z with q2 := qn, c2 := cn }⟩), NestF l] ++ ObL ⟨{ o.x with msgs := (claimM o.x.msgs e.n true).1 }, { o.z with q2 := qn, c2 := cn }⟩ ++ [pv b 47 (Sz.cells ⟨nx, q, c, l⟩)]) tG (by repeat (first | exact Drop.refl | apply Drop.skip)))⟩
        ·refine ky<|kq (q_eq rfl rfl)<|ka rfl<|zm ?_
         refine kD (s := 120) rfl (fun g120 => ?_) (fun g120 => ?_)
         ·have hh : doS (Sz.st ⟨nx, q, c, l⟩) e = (⟨nx, (Sz.st ⟨nx, q, c, l⟩).objs.set i (freeO o.x e.n e.tried).1⟩, if (freeO o.x e.n e.tried).2 = true then 0 else 7) := by rw [hh]; unfold queueO; rw [if_neg g61, if_neg g90, if_neg g101, if_pos g120]
          refine kr<|kq (qL ck_62 rfl rfl tC)<|kq (qO fo_58_4 rfl)<|kq (qD ck_3 rfl)<|kq (qO fo_58_6 rfl)<|kq (qD ck_4 rfl)<|kl (kc rfl (h := ref_Free o e.n e.tried hol hoc (hs0 o hmo))) ?_
          rintro _ _ ⟨_, ⟨z, rfl, rfl, hz⟩, rfl⟩
          refine km rfl<|kq (qX rfl rfl)<|kq (qX rfl rfl)<|kN rfl (lS ck_62 rfl rfl ⟨rfl, rfl⟩ (oz_one _) tP) ?_
          rintro _ _ ⟨rfl, rfl⟩
          refine ka rfl<|zm<|zd<|ke<|ky<|km rfl<|kq (q_not rfl)<|zm ?_
          refine kT (s := 132) rfl (fun g132 => ?_) (fun g132 => ?_)
          ·have hr2 : (doS (Sz.st ⟨nx, q, c, l⟩) e).2 = 7 := by rw [hh]; show (if _ then _ else _) = _; rw [if_neg (by simpa using g132)]
           refine ky<|ka rfl<|zm ?_
           refine kr1 func120 results120 rfl (fun w hs => ?_)
           exact ⟨_, StO b ⟨nx, q, c, l⟩, rfl, ⟨⟨nx, q, c, l⟩, by rw [hr2], fun h => by rw [hr2] at h; exact absurd h tD, rfl, hc, hcap⟩, hs.fitD⟩
          ·have hr : doS (Sz.st ⟨nx, q, c, l⟩) e = (⟨nx, (Sz.st ⟨nx, q, c, l⟩).objs.set i (freeO o.x e.n e.tried).1⟩, 0) := by rw [hh, if_pos (by simpa using g132)]
           refine za<|ke<|K.drawS [pv b 47 (Sz.cells ⟨nx, q, c, l⟩), pv b6 62 (Oz.cells ⟨(freeO o.x e.n e.tried).1, z⟩), RowO Kd.oz 62 q c l] (fun _ h => h.subD) mixed<|dq 0 rfl (q_move rfl)<|dq 1 rfl (qN rfl)<|dq 2 rfl (qO fo_47_1 rfl)<|dq 3 rfl (qD ck_45 rfl)<|dq 4 rfl (q_move rfl)<|dq 5 rfl (q_as (qL ck_62 rfl rfl tC) (show _ = Oz.cells ⟨(freeO o.x e.n e.tried).1, z⟩ from rfl))<|dq 6 rfl (q_ix (xs := l) i se_45 rfl rfl rfl isO tM rfl hil)<|dq1N 7 rfl (l_storeEN ⟨(freeO o.x e.n e.tried).1, z⟩ ck_62 rfl rfl tP hil) (.inl tK) ?_
           rintro _ _ ⟨rfl, rfl⟩
           refine D.done tK<|ky<|ka rfl<|zm ?_
           refine kr1 func120 results120 rfl (fun w hs => ?_)
           exact ⟨_, StO b ⟨nx, q, c, l.set i ⟨(freeO o.x e.n e.tried).1, z⟩⟩, rfl, ⟨⟨nx, q, c, l.set i ⟨(freeO o.x e.n e.tried).1, z⟩⟩, by rw [hr], fun _ => by rw [hr]; exact hset _, rfl, by show (l.set i _).length ≤ c; rw [List.length_set]; exact hc, set_le hcap (hz)⟩, stO_put (o' := ⟨(freeO o.x e.n e.tried).1, z⟩) (hs.fit (M := [RowO Kd.oz 62 q c (l.set i ⟨(freeO o.x e.n e.tried).1, z⟩), NestF l] ++ ObL ⟨(freeO o.x e.n e.tried).1, z⟩ ++ [pv b 47 (Sz.cells ⟨nx, q, c, l⟩)]) tG (by repeat (first | exact Drop.refl | apply Drop.skip)))⟩
         ·exfalso; omega
set_option maxHeartbeats 6400000 in
theorem ref_one (b : Nat) (s : Sz) (e : Eff) (hR : Ready s e) : Fn Tryz.prog 65 [.pointer (some ⟨b, 0, none⟩), .agg e.cells.toArray].toArray (StO b s) (After b s e) := by
 have hR' := hR
 have her : ¬ e.right = false := by rw [hR.right]; decide
 have hnk := hR.nkey
 have heo := hR.eobj
 obtain ⟨nx, q, c, l⟩ := s
 have hc : l.length ≤ c := hR.room
 have hl : l.length ≤ 1000000000 := hR.len
 have hcap : ∀ o ∈ l, o.cap := hR.cap
 have hnk : ∀ o ∈ l, (o.x.name.size : Int) ≤ 9223372036854775807 := hnk
 clear hR
 refine Fn.enter (N := 91) func65 rfl ntmps65 tK rfl (fun ρ L => ?_)
 refine ky<|kl (l_box rfl rfl) ?_
 rintro _ _ ⟨b3, rfl, rfl⟩
 refine ka rfl<|zm<|ke<|ky<|kq (qO fo_58_0 rfl)<|kq (qD ck_3 rfl)<|zm<|kB<|ky<|kq (q_eq rfl rfl)<|ka rfl<|zm ?_
 refine kD (s := 9) rfl (fun g9 => ?_) (fun g9 => ?_)
 ·have hd : doS (Sz.st ⟨nx, q, c, l⟩) e = nextS (Sz.st ⟨nx, q, c, l⟩) e.n := by unfold doS; rw [if_neg her, if_neg tO, if_pos g9]
  refine ke<|ke<|K.drawS [pv b 47 (Sz.cells ⟨nx, q, c, l⟩), pv b3 58 e.cells] (fun _ h => h.subD) mixed<|dq 0 rfl (qO fo_58_4 rfl)<|dq 1 rfl (qD ck_3 rfl)<|dq 2 rfl (q_move rfl)<|dq 3 rfl (qN rfl)<|dq 4 rfl (qO fo_47_0 rfl)<|dq 5 rfl (qD ck_3 rfl)<|dq 6 rfl (q_lt rfl rfl)<|D.done tK ?_
  refine kD (s := 17) rfl (fun g17 => ?_) (fun g17 => ?_)
  ·have hr2 : (doS (Sz.st ⟨nx, q, c, l⟩) e).2 = 1 := by rw [hd]; unfold nextS; rw [if_pos (show e.n < (Sz.st ⟨nx, q, c, l⟩).next from g17)]
   refine ky<|ka rfl<|zm ?_
   refine kr1 func65 results65 rfl (fun w hs => ?_)
   exact ⟨_, StO b ⟨nx, q, c, l⟩, rfl, ⟨⟨nx, q, c, l⟩, by rw [hr2], fun h => by rw [hr2] at h; exact absurd h tD, rfl, hc, hcap⟩, hs.fitD⟩
  ·have hr : doS (Sz.st ⟨nx, q, c, l⟩) e = (Sz.st ⟨e.n, q, c, l⟩, 0) := by rw [hd]; unfold nextS; rw [if_neg (show ¬ e.n < (Sz.st ⟨nx, q, c, l⟩).next from g17)]; rfl
   refine za<|ky<|km rfl<|kq (qO fo_58_4 rfl)<|kq (qD ck_3 rfl)<|kq (qN rfl)<|kq (qO fo_47_0 rfl)<|kN rfl (lA ck_3 rfl rfl rfl tP tA) ?_
   rintro _ _ ⟨rfl, rfl⟩
   refine kz<|ka rfl<|zm ?_
   refine kr1 func65 results65 rfl (fun w hs => ?_)
   exact ⟨_, StO b ⟨e.n, q, c, l⟩, rfl, ⟨⟨e.n, q, c, l⟩, by rw [hr], fun h => by rw [hr], rfl, hc, hcap⟩, hs.fitD⟩
 ·refine ky<|kq (q_eq rfl rfl)<|ka rfl<|zm ?_
  refine kD (s := 23) rfl (fun g23 => ?_) (fun g23 => ?_)
  ·have hd : doS (Sz.st ⟨nx, q, c, l⟩) e = makeS (Sz.st ⟨nx, q, c, l⟩) e := by unfold doS; rw [if_neg her, if_pos g23]
   refine ke<|ke<|K.drawS [pv b 47 (Sz.cells ⟨nx, q, c, l⟩), pv b3 58 e.cells] (fun _ h => h.subD) mixed<|dq 0 rfl (q_move rfl)<|dq 1 rfl (qN rfl)<|dq 2 rfl (q_as_sz (qL ck_47 rfl rfl tC) (by rfl))<|dq 3 rfl (qO fo_58_1 rfl)<|dq 4 rfl (qD ck_9 rfl)<|dq1 5 rfl (kc rfl (h := ref_FindObject (RowO Kd.oz 62 q c l) ⟨nx, q, c, l⟩ e.object isO hl)) (.inr (by rintro _ _ ⟨_, ⟨rfl, rfl⟩, rfl⟩ w h; exact h.subD)) ?_
   rintro _ _ ⟨_, ⟨rfl, rfl⟩, rfl⟩
   refine dq 6 rfl (q_ge rfl rfl)<|D.done tK ?_
   refine kD (s := 31) rfl (fun g31 => ?_) (fun g31 => ?_)
   ·have hr2 : (doS (Sz.st ⟨nx, q, c, l⟩) e).2 = 4 := by rw [hd]; unfold makeS; rw [if_pos g31]
    refine ky<|ka rfl<|zm ?_
    refine kr1 func65 results65 rfl (fun w hs => ?_)
    exact ⟨_, StO b ⟨nx, q, c, l⟩, rfl, ⟨⟨nx, q, c, l⟩, by rw [hr2], fun h => by rw [hr2] at h; exact absurd h tD, rfl, hc, hcap⟩, hs.fitD⟩
   ·refine za<|ke<|ky<|km rfl<|kq (qN rfl)<|kq (qO fo_47_1 rfl)<|kq (qD ck_45 rfl)<|kq (qG underlying45 rfl)<|kq (q_ge rfl rfl)<|zm ?_
    refine kD (s := 37) rfl (fun g37 => ?_) (fun g37 => ?_)
    ·have g37' : (20 : Int) ≤ (l.length : Int) := g37
     have hr2 : (doS (Sz.st ⟨nx, q, c, l⟩) e).2 = 6 := by rw [hd]; unfold makeS; rw [if_neg g31, if_pos (by show 20 ≤ (l.map (·.x)).length; rw [List.length_map]; omega)]
     refine ky<|ka rfl<|zm ?_
     refine kr1 func65 results65 rfl (fun w hs => ?_)
     exact ⟨_, StO b ⟨nx, q, c, l⟩, rfl, ⟨⟨nx, q, c, l⟩, by rw [hr2], fun h => by rw [hr2] at h; exact absurd h tD, rfl, hc, hcap⟩, hs.fitD⟩
    ·have g37' : ¬ (20 : Int) ≤ (l.length : Int) := g37
     have hpm : plc (fun o : Ob => decide (0 < cmpB o.name e.object)) (Sz.st ⟨nx, q, c, l⟩).objs = plc (fun o : Oz => decide (0 < cmpB o.x.name e.object)) l := by
      unfold plc
      rw [show (Sz.st ⟨nx, q, c, l⟩).objs = l.map (·.x) from rfl, idxP_map, List.length_map]
     have hne : ∀ o ∈ l, cmpB o.x.name e.object ≠ 0 := fun o ho h0 => by
      have hnm : o.x.name = e.object := cmpB_zero.1 h0
      have hf : findO (Sz.st ⟨nx, q, c, l⟩) e.object < 0 := by omega
      exact findO_none hf o.x (List.mem_map_of_mem ho) hnm
     have hr0 : doS (Sz.st ⟨nx, q, c, l⟩) e = (⟨nx, insAt (l.map (·.x)) (plc (fun o : Oz => decide (0 < cmpB o.x.name e.object)) l) ⟨e.object, e.n, e.limit, [], [], []⟩⟩, 0) := by rw [hd]; unfold makeS; rw [if_neg g31, if_neg (by show ¬ 20 ≤ (l.map (·.x)).length; rw [List.length_map]; omega), hpm]; rfl
     refine za<|ky<|ka rfl<|zm<|ke<|kB ?_
     refine kX (ι := { i : Nat // i ≤ l.length ∧ (l.take i).any (fun o : Oz => decide (0 < cmpB o.x.name e.object)) = false }) (fun x => [(5, .int .i64 x.1), (0, .pointer (some ⟨b, 0, none⟩)), (3, .pointer (some ⟨b3, 0, none⟩))]) (fun x => [pv b 47 (Sz.cells ⟨nx, q, c, l⟩), pv b3 58 e.cells, RowO Kd.oz 62 q c l, NestF l] ++ L) (fun x => l.length - x.1) ⟨0, Nat.zero_le _, rfl⟩ tS (fun w h => h.fitD) (fun x ih => ?_)
     obtain ⟨i, hi, hz⟩ := x
     dsimp only at hi hz ⊢
     refine ke<|ke<|K.drawS [pv b 47 (Sz.cells ⟨nx, q, c, l⟩), pv b3 58 e.cells, RowO Kd.oz 62 q c l] (fun _ h => h.subD) mixed<|dq 0 rfl (q_move rfl)<|dq 1 rfl (q_move rfl)<|dq 2 rfl (qN rfl)<|dq 3 rfl (qO fo_47_1 rfl)<|dq 4 rfl (qD ck_45 rfl)<|dq 5 rfl (qG underlying45 rfl)<|dq 6 rfl (q_lt rfl rfl)<|dq 7 rfl (q_move rfl) ?_
     refine D.dsplit 45 rfl (fun g45 => ?_) (fun g45 => ?_)
     ·have g45' : (i : Int) < (l.length : Int) := g45
      obtain ⟨o, ho⟩ : ∃ o, l[i]? = some o := ⟨_, List.getElem?_eq_getElem tO⟩
      have hmo := List.mem_of_getElem? ho
      have hno := hnk o hmo
      refine dq 8 rfl (q_move rfl)<|dq 9 rfl (qN rfl)<|dq 10 rfl (qO fo_47_1 rfl)<|dq 11 rfl (qD ck_45 rfl)<|dq 12 rfl (q_move rfl)<|dq 13 rfl (q_ix (xs := l) i se_45 rfl rfl rfl isO tM rfl tO)<|dq 14 rfl (qE fo_62_0 rfl)<|dq 15 rfl (q_ldE (xs := l) ck_9 rfl isO tM ho rfl)<|dq 16 rfl (qO fo_58_1 rfl)<|dq 17 rfl (qD ck_9 rfl) ?_
      refine dq1 18 rfl (kc rfl (h := ref_Keys _ _ (by first | assumption | omega) (by first | assumption | omega))) (.inr (by rintro _ _ ⟨_, ⟨rfl, rfl⟩, rfl⟩ w h; exact h.subD)) ?_
      rintro _ _ ⟨_, ⟨rfl, rfl⟩, rfl⟩
      refine dq 19 rfl (q_lt rfl rfl)<|dq 20 rfl (qT rfl rfl)<|D.done tK ?_
      refine kD (s := 58) rfl (fun g58 => ?_) (fun g58 => ?_)
      ·refine za<|kB<|kr<|km rfl<|kq (q_add rfl rfl tN tN)<|ka rfl<|zm<|zd ?_
       exact K.weak tS (fun w h => h.fitD) (ih ⟨i + 1, by omega, by rw [any_take_succ ho, hz, decide_eq_false tO]; rfl⟩ (by show l.length - (i + 1) < l.length - i; omega))
      ·have hpl : plc (fun o : Oz => decide (0 < cmpB o.x.name e.object)) l = i := plc_hit ho (decide_eq_true (by have := hne o hmo; omega)) hz
       rw [hpl] at hr0
       clear ih
       refine K.exit rfl<|ky<|kq (qO fo_58_1 rfl)<|kq (qD ck_9 rfl)<|kq (qO fo_58_4 rfl)<|kq (qD ck_3 rfl)<|kq (qO fo_58_5 rfl)<|kq (qD ck_3 rfl)<|kq (q_as_oz (rows_ := []) (msgs_ := []) (dead_ := []) (q_build st_62 rfl tF) rfl)<|kl (lL zo_62) ?_
       rintro _ _ ⟨b6, rfl, rfl⟩
       refine kN rfl (lS ck_62 rfl rfl ⟨rfl, rfl⟩ (oz_one _) tP) ?_
       rintro _ _ ⟨rfl, rfl⟩
       refine zm<|ke ?_
       have hdk : (l.drop i).length = l.length - i := by rw [List.length_drop]
       have htk : (l.take i).length = i := by rw [List.length_take]; omega
       refine K.st (fun w h => rO (e := 62) (cap := c) (k := Kd.oz) (p := q) (xs := l) (h.pick tP))<|K.st (fun w h => rowF_take (k := Kd.oz) (p := q) (xs := l) i tM h)<|K.st (fun w h => rowF_cut (k := Kd.oz) (p := q) (xs := l) (cap := c) i hc tM h)<|K.st (fun w h => rowO_nil (k := Kd.oz) 62 h)<|K.drawS [pv b 47 (Sz.cells ⟨nx, q, c, l⟩), pv b6 62 (Oz.cells (⟨⟨e.object, e.n, e.limit, [], [], []⟩, ⟨none, 0, none, 0, none, 0⟩⟩ : Oz))] (fun _ h => h.subD) mixed<|dq 0 rfl (q_move rfl)<|dq 1 rfl (q_move rfl)<|dq 2 rfl (qN rfl)<|dq 3 rfl (qO fo_47_1 rfl)<|dq 4 rfl (qD ck_45 rfl)<|dq 5 rfl (q_move rfl)<|dq 6 rfl (q_is (q_cutH se_45 rfl rfl tO (by show (i : Int) ≤ (c : Int); omega)) (show Value.slice q (i : Int).toNat c = Value.slice q (l.take i).length c by rw [htk]; rfl))<|dq 8 rfl (qL ck_62 rfl rfl tC)<|dq 11 rfl (q_move rfl)<|dq 12 rfl (qN rfl)<|dq 13 rfl (qO fo_47_1 rfl)<|dq 14 rfl (qD ck_45 rfl)<|dq 15 rfl (q_move rfl)<|dq 16 rfl (q_is (q_cutL se_45 rfl rfl tO (by show (i : Int) ≤ (l.length : Int); omega) hc) (show Value.slice (cutAddr q c (i : Int).toNat 6) (l.length - (i : Int).toNat) (c - (i : Int).toNat) = Value.slice (cutAddr q c i 6) (l.drop i).length (c - i) by rw [hdk]; rfl)) ?_
       refine D.all (rs := [7, 9]) tK rfl (DAll.cons rfl tK (lX Kd.oz (xs := []) (ys := l.take i) se_45 underlying45 ⟨_, ze_oz, rfl⟩ tD rfl rfl tP isF tM rfl rfl (by show (2 * (0 + (l.take i).length) + 768) * _ ≤ _; omega)) (.inr (by rintro _ _ ⟨q1, c1, rfl, rfl⟩ w h; exact h.subD)) rfl ?_ (DAll.cons rfl tK (lO sz_45_1 rfl rfl ⟨rfl, rfl, rfl⟩) (.inr (by rintro _ _ ⟨b77, rfl, rfl⟩ w h; exact h.subD)) rfl ?_ DAll.nil))
       ·rintro _ _ ⟨q1, c1, rfl, rfl⟩
        refine dq1 9 rfl (lO sz_45_1 rfl rfl ⟨rfl, rfl, rfl⟩) (.inr (by rintro _ _ ⟨b77, rfl, rfl⟩ w h; exact h.subD)) ?_
        rintro _ _ ⟨b77, rfl, rfl⟩
        refine dq1 10 rfl (lX Kd.oz (ys := [(⟨⟨e.object, e.n, e.limit, [], [], []⟩, ⟨none, 0, none, 0, none, 0⟩⟩ : Oz)]) se_45 underlying45 ⟨_, ze_oz, rfl⟩ tD rfl rfl tP isP tM rfl rfl (by show (2 * (([] ++ l.take i).length + 1) + 768) * _ ≤ _; rw [List.nil_append]; omega)) (.inr (by rintro _ _ ⟨q2, c2, rfl, rfl⟩ w h; exact h.subD)) ?_
        rintro _ _ ⟨q2, c2, rfl, rfl⟩
        refine dq1 17 rfl (lX Kd.oz (ys := l.drop i) se_45 underlying45 ⟨_, ze_oz, rfl⟩ tD rfl rfl tP isF tM rfl rfl (by show (2 * (([] ++ l.take i ++ [(⟨⟨e.object, e.n, e.limit, [], [], []⟩, ⟨none, 0, none, 0, none, 0⟩⟩ : Oz)]).length + (l.drop i).length) + 768) * _ ≤ _; rw [List.nil_append, List.length_append, List.length_singleton]; omega)) (.inr (by rintro _ _ ⟨q3, c3, rfl, rfl⟩ w h; exact h.subD)) ?_
        rintro _ _ ⟨q3, c3, rfl, rfl⟩
        rw [List.nil_append]
        refine dq1 18 rfl (OpQ.loud (qN rfl)) (.inl tK) ?_
        rintro _ _ ⟨rfl, rfl⟩
        refine dq1 19 rfl (OpQ.loud (qO fo_47_1 rfl)) (.inl tK) ?_
        rintro _ _ ⟨rfl, rfl⟩
        refine dq1N 20 rfl (lA ck_45 rfl rfl rfl tP tA) (.inl tK) ?_
        rintro _ _ ⟨rfl, rfl⟩
        refine D.done tK<|ky<|ka rfl<|zm ?_
        refine kr1 func65 results65 rfl (fun w hs => ?_)
        have hc3 := rC (e := 62) (k := Kd.oz) (p := q3) (cap := c3) (xs := l.take i ++ [(⟨⟨e.object, e.n, e.limit, [], [], []⟩, ⟨none, 0, none, 0, none, 0⟩⟩ : Oz)] ++ l.drop i) tM w hs
        have hmem : ∀ p : Oz, p ∈ l.take i ++ [(⟨⟨e.object, e.n, e.limit, [], [], []⟩, ⟨none, 0, none, 0, none, 0⟩⟩ : Oz)] ++ l.drop i → p ∈ l ∨ p = (⟨⟨e.object, e.n, e.limit, [], [], []⟩, ⟨none, 0, none, 0, none, 0⟩⟩ : Oz) := fun p hp => by
         rcases List.mem_append.1 hp with hp | hp
         ·rcases List.mem_append.1 hp with hp | hp
          ·exact .inl (List.mem_of_mem_take hp)
          ·exact .inr (List.mem_singleton.1 hp)
         ·exact .inl (List.mem_of_mem_drop hp)
        exact ⟨_, StO b ⟨nx, q3, c3, l.take i ++ [(⟨⟨e.object, e.n, e.limit, [], [], []⟩, ⟨none, 0, none, 0, none, 0⟩⟩ : Oz)] ++ l.drop i⟩, rfl, ⟨⟨nx, q3, c3, l.take i ++ [(⟨⟨e.object, e.n, e.limit, [], [], []⟩, ⟨none, 0, none, 0, none, 0⟩⟩ : Oz)] ++ l.drop i⟩, by rw [hr0], fun _ => (by
          rw [hr0]
          unfold Sz.st insAt
          simp only [List.map_append, List.map_take, List.map_drop, List.map_cons, List.map_nil]), rfl, hc3, fun p hp => (hmem p hp).elim (hcap p) (fun h => by rw [h]; exact ⟨Nat.le_refl _, Nat.le_refl _, Nat.le_refl _⟩)⟩,
         (nestF_put (l := l) (⟨⟨e.object, e.n, e.limit, [], [], []⟩, ⟨none, 0, none, 0, none, 0⟩⟩ : Oz) hmem tM tM tM tM (rowF_nilA (k := Kd.rw) (rowF_nilA (k := Kd.msg) (hs.fit (M := [pv b 47 (Sz.cells ⟨nx, q3, c3, l.take i ++ [(⟨⟨e.object, e.n, e.limit, [], [], []⟩, ⟨none, 0, none, 0, none, 0⟩⟩ : Oz)] ++ l.drop i⟩), RowO Kd.oz 62 q3 c3 (l.take i ++ [(⟨⟨e.object, e.n, e.limit, [], [], []⟩, ⟨none, 0, none, 0, none, 0⟩⟩ : Oz)] ++ l.drop i), NestF l]) tG (by repeat (first | exact Drop.refl | apply Drop.skip)))))).fitD⟩
       ·rintro _ _ ⟨b77, rfl, rfl⟩
        refine dq1 7 rfl (lX Kd.oz (xs := []) (ys := l.take i) se_45 underlying45 ⟨_, ze_oz, rfl⟩ tD rfl rfl tP isF tM rfl rfl (by show (2 * (0 + (l.take i).length) + 768) * _ ≤ _; omega)) (.inr (by rintro _ _ ⟨q1, c1, rfl, rfl⟩ w h; exact h.subD)) ?_
        rintro _ _ ⟨q1, c1, rfl, rfl⟩
        refine dq1 10 rfl (lX Kd.oz (ys := [(⟨⟨e.object, e.n, e.limit, [], [], []⟩, ⟨none, 0, none, 0, none, 0⟩⟩ : Oz)]) se_45 underlying45 ⟨_, ze_oz, rfl⟩ tD rfl rfl tP isP tM rfl rfl (by show (2 * (([] ++ l.take i).length + 1) + 768) * _ ≤ _; rw [List.nil_append]; omega)) (.inr (by rintro _ _ ⟨q2, c2, rfl, rfl⟩ w h; exact h.subD)) ?_
        rintro _ _ ⟨q2, c2, rfl, rfl⟩
        refine dq1 17 rfl (lX Kd.oz (ys := l.drop i) se_45 underlying45 ⟨_, ze_oz, rfl⟩ tD rfl rfl tP isF tM rfl rfl (by show (2 * (([] ++ l.take i ++ [(⟨⟨e.object, e.n, e.limit, [], [], []⟩, ⟨none, 0, none, 0, none, 0⟩⟩ : Oz)]).length + (l.drop i).length) + 768) * _ ≤ _; rw [List.nil_append, List.length_append, List.length_singleton]; omega)) (.inr (by rintro _ _ ⟨q3, c3, rfl, rfl⟩ w h; exact h.subD)) ?_
        rintro _ _ ⟨q3, c3, rfl, rfl⟩
        rw [List.nil_append]
        refine dq1 18 rfl (OpQ.loud (qN rfl)) (.inl tK) ?_
        rintro _ _ ⟨rfl, rfl⟩
        refine dq1 19 rfl (OpQ.loud (qO fo_47_1 rfl)) (.inl tK) ?_
        rintro _ _ ⟨rfl, rfl⟩
        refine dq1N 20 rfl (lA ck_45 rfl rfl rfl tP tA) (.inl tK) ?_
        rintro _ _ ⟨rfl, rfl⟩
        refine D.done tK<|ky<|ka rfl<|zm ?_
        refine kr1 func65 results65 rfl (fun w hs => ?_)
        have hc3 := rC (e := 62) (k := Kd.oz) (p := q3) (cap := c3) (xs := l.take i ++ [(⟨⟨e.object, e.n, e.limit, [], [], []⟩, ⟨none, 0, none, 0, none, 0⟩⟩ : Oz)] ++ l.drop i) tM w hs
        have hmem : ∀ p : Oz, p ∈ l.take i ++ [(⟨⟨e.object, e.n, e.limit, [], [], []⟩, ⟨none, 0, none, 0, none, 0⟩⟩ : Oz)] ++ l.drop i → p ∈ l ∨ p = (⟨⟨e.object, e.n, e.limit, [], [], []⟩, ⟨none, 0, none, 0, none, 0⟩⟩ : Oz) := fun p hp => by
         rcases List.mem_append.1 hp with hp | hp
         ·rcases List.mem_append.1 hp with hp | hp
          ·exact .inl (List.mem_of_mem_take hp)
          ·exact .inr (List.mem_singleton.1 hp)
         ·exact .inl (List.mem_of_mem_drop hp)
        exact ⟨_, StO b ⟨nx, q3, c3, l.take i ++ [(⟨⟨e.object, e.n, e.limit, [], [], []⟩, ⟨none, 0, none, 0, none, 0⟩⟩ : Oz)] ++ l.drop i⟩, rfl, ⟨⟨nx, q3, c3, l.take i ++ [(⟨⟨e.object, e.n, e.limit, [], [], []⟩, ⟨none, 0, none, 0, none, 0⟩⟩ : Oz)] ++ l.drop i⟩, by rw [hr0], fun _ => (by
          rw [hr0]
          unfold Sz.st insAt
          simp only [List.map_append, List.map_take, List.map_drop, List.map_cons, List.map_nil]), rfl, hc3, fun p hp => (hmem p hp).elim (hcap p) (fun h => by rw [h]; exact ⟨Nat.le_refl _, Nat.le_refl _, Nat.le_refl _⟩)⟩,
         (nestF_put (l := l) (⟨⟨e.object, e.n, e.limit, [], [], []⟩, ⟨none, 0, none, 0, none, 0⟩⟩ : Oz) hmem tM tM tM tM (rowF_nilA (k := Kd.rw) (rowF_nilA (k := Kd.msg) (hs.fit (M := [pv b 47 (Sz.cells ⟨nx, q3, c3, l.take i ++ [(⟨⟨e.object, e.n, e.limit, [], [], []⟩, ⟨none, 0, none, 0, none, 0⟩⟩ : Oz)] ++ l.drop i⟩), RowO Kd.oz 62 q3 c3 (l.take i ++ [(⟨⟨e.object, e.n, e.limit, [], [], []⟩, ⟨none, 0, none, 0, none, 0⟩⟩ : Oz)] ++ l.drop i), NestF l]) tG (by repeat (first | exact Drop.refl | apply Drop.skip)))))).fitD⟩
     ·have g45' : ¬ (i : Int) < (l.length : Int) := g45
      have hpl : plc (fun o : Oz => decide (0 < cmpB o.x.name e.object)) l = i := by rw [plc_miss (by rw [List.take_of_length_le tO] at hz; exact hz)]; omega
      rw [hpl] at hr0
      clear ih
      refine dk 8 rfl<|dk 9 rfl<|dk 10 rfl<|dk 11 rfl<|dk 12 rfl<|dk 13 rfl<|dk 14 rfl<|dk 15 rfl<|dk 16 rfl<|dk 17 rfl<|dk 18 rfl<|dk 19 rfl<|dq 20 rfl (qF rfl rfl)<|D.done tK<|K.no rfl<|K.exit rfl<|ky<|kq (qO fo_58_1 rfl)<|kq (qD ck_9 rfl)<|kq (qO fo_58_4 rfl)<|kq (qD ck_3 rfl)<|kq (qO fo_58_5 rfl)<|kq (qD ck_3 rfl)<|kq (q_as_oz (rows_ := []) (msgs_ := []) (dead_ := []) (q_build st_62 rfl tF) rfl)<|kl (lL zo_62) ?_
      rintro _ _ ⟨b6, rfl, rfl⟩
      refine kN rfl (lS ck_62 rfl rfl ⟨rfl, rfl⟩ (oz_one _) tP) ?_
      rintro _ _ ⟨rfl, rfl⟩
      refine zm<|ke ?_
      have hdk : (l.drop i).length = l.length - i := by rw [List.length_drop]
      have htk : (l.take i).length = i := by rw [List.length_take]; omega
      refine K.st (fun w h => rO (e := 62) (cap := c) (k := Kd.oz) (p := q) (xs := l) (h.pick tP))<|K.st (fun w h => rowF_take (k := Kd.oz) (p := q) (xs := l) i tM h)<|K.st (fun w h => rowF_cut (k := Kd.oz) (p := q) (xs := l) (cap := c) i hc tM h)<|K.st (fun w h => rowO_nil (k := Kd.oz) 62 h)<|K.drawS [pv b 47 (Sz.cells ⟨nx, q, c, l⟩), pv b6 62 (Oz.cells (⟨⟨e.object, e.n, e.limit, [], [], []⟩, ⟨none, 0, none, 0, none, 0⟩⟩ : Oz))] (fun _ h => h.subD) mixed<|dq 0 rfl (q_move rfl)<|dq 1 rfl (q_move rfl)<|dq 2 rfl (qN rfl)<|dq 3 rfl (qO fo_47_1 rfl)<|dq 4 rfl (qD ck_45 rfl)<|dq 5 rfl (q_move rfl)<|dq 6 rfl (q_is (q_cutH se_45 rfl rfl tO (by show (i : Int) ≤ (c : Int); omega)) (show Value.slice q (i : Int).toNat c = Value.slice q (l.take i).length c by rw [htk]; rfl))<|dq 8 rfl (qL ck_62 rfl rfl tC)<|dq 11 rfl (q_move rfl)<|dq 12 rfl (qN rfl)<|dq 13 rfl (qO fo_47_1 rfl)<|dq 14 rfl (qD ck_45 rfl)<|dq 15 rfl (q_move rfl)<|dq 16 rfl (q_is (q_cutL se_45 rfl rfl tO (by show (i : Int) ≤ (l.length : Int); omega) hc) (show Value.slice (cutAddr q c (i : Int).toNat 6) (l.length - (i : Int).toNat) (c - (i : Int).toNat) = Value.slice (cutAddr q c i 6) (l.drop i).length (c - i) by rw [hdk]; rfl)) ?_
      refine D.all (rs := [7, 9]) tK rfl (DAll.cons rfl tK (lX Kd.oz (xs := []) (ys := l.take i) se_45 underlying45 ⟨_, ze_oz, rfl⟩ tD rfl rfl tP isF tM rfl rfl (by show (2 * (0 + (l.take i).length) + 768) * _ ≤ _; omega)) (.inr (by rintro _ _ ⟨q1, c1, rfl, rfl⟩ w h; exact h.subD)) rfl ?_ (DAll.cons rfl tK (lO sz_45_1 rfl rfl ⟨rfl, rfl, rfl⟩) (.inr (by rintro _ _ ⟨b77, rfl, rfl⟩ w h; exact h.subD)) rfl ?_ DAll.nil))
      ·rintro _ _ ⟨q1, c1, rfl, rfl⟩
       refine dq1 9 rfl (lO sz_45_1 rfl rfl ⟨rfl, rfl, rfl⟩) (.inr (by rintro _ _ ⟨b77, rfl, rfl⟩ w h; exact h.subD)) ?_
       rintro _ _ ⟨b77, rfl, rfl⟩
       refine dq1 10 rfl (lX Kd.oz (ys := [(⟨⟨e.object, e.n, e.limit, [], [], []⟩, ⟨none, 0, none, 0, none, 0⟩⟩ : Oz)]) se_45 underlying45 ⟨_, ze_oz, rfl⟩ tD rfl rfl tP isP tM rfl rfl (by show (2 * (([] ++ l.take i).length + 1) + 768) * _ ≤ _; rw [List.nil_append]; omega)) (.inr (by rintro _ _ ⟨q2, c2, rfl, rfl⟩ w h; exact h.subD)) ?_
       rintro _ _ ⟨q2, c2, rfl, rfl⟩
       refine dq1 17 rfl (lX Kd.oz (ys := l.drop i) se_45 underlying45 ⟨_, ze_oz, rfl⟩ tD rfl rfl tP isF tM rfl rfl (by show (2 * (([] ++ l.take i ++ [(⟨⟨e.object, e.n, e.limit, [], [], []⟩, ⟨none, 0, none, 0, none, 0⟩⟩ : Oz)]).length + (l.drop i).length) + 768) * _ ≤ _; rw [List.nil_append, List.length_append, List.length_singleton]; omega)) (.inr (by rintro _ _ ⟨q3, c3, rfl, rfl⟩ w h; exact h.subD)) ?_
       rintro _ _ ⟨q3, c3, rfl, rfl⟩
       rw [List.nil_append]
       refine dq1 18 rfl (OpQ.loud (qN rfl)) (.inl tK) ?_
       rintro _ _ ⟨rfl, rfl⟩
       refine dq1 19 rfl (OpQ.loud (qO fo_47_1 rfl)) (.inl tK) ?_
       rintro _ _ ⟨rfl, rfl⟩
       refine dq1N 20 rfl (lA ck_45 rfl rfl rfl tP tA) (.inl tK) ?_
       rintro _ _ ⟨rfl, rfl⟩
       refine D.done tK<|ky<|ka rfl<|zm ?_
       refine kr1 func65 results65 rfl (fun w hs => ?_)
       have hc3 := rC (e := 62) (k := Kd.oz) (p := q3) (cap := c3) (xs := l.take i ++ [(⟨⟨e.object, e.n, e.limit, [], [], []⟩, ⟨none, 0, none, 0, none, 0⟩⟩ : Oz)] ++ l.drop i) tM w hs
       have hmem : ∀ p : Oz, p ∈ l.take i ++ [(⟨⟨e.object, e.n, e.limit, [], [], []⟩, ⟨none, 0, none, 0, none, 0⟩⟩ : Oz)] ++ l.drop i → p ∈ l ∨ p = (⟨⟨e.object, e.n, e.limit, [], [], []⟩, ⟨none, 0, none, 0, none, 0⟩⟩ : Oz) := fun p hp => by
        rcases List.mem_append.1 hp with hp | hp
        ·rcases List.mem_append.1 hp with hp | hp
         ·exact .inl (List.mem_of_mem_take hp)
         ·exact .inr (List.mem_singleton.1 hp)
        ·exact .inl (List.mem_of_mem_drop hp)
       exact ⟨_, StO b ⟨nx, q3, c3, l.take i ++ [(⟨⟨e.object, e.n, e.limit, [], [], []⟩, ⟨none, 0, none, 0, none, 0⟩⟩ : Oz)] ++ l.drop i⟩, rfl, ⟨⟨nx, q3, c3, l.take i ++ [(⟨⟨e.object, e.n, e.limit, [], [], []⟩, ⟨none, 0, none, 0, none, 0⟩⟩ : Oz)] ++ l.drop i⟩, by rw [hr0], fun _ => (by
         rw [hr0]
         unfold Sz.st insAt
         simp only [List.map_append, List.map_take, List.map_drop, List.map_cons, List.map_nil]), rfl, hc3, fun p hp => (hmem p hp).elim (hcap p) (fun h => by rw [h]; exact ⟨Nat.le_refl _, Nat.le_refl _, Nat.le_refl _⟩)⟩,
        (nestF_put (l := l) (⟨⟨e.object, e.n, e.limit, [], [], []⟩, ⟨none, 0, none, 0, none, 0⟩⟩ : Oz) hmem tM tM tM tM (rowF_nilA (k := Kd.rw) (rowF_nilA (k := Kd.msg) (hs.fit (M := [pv b 47 (Sz.cells ⟨nx, q3, c3, l.take i ++ [(⟨⟨e.object, e.n, e.limit, [], [], []⟩, ⟨none, 0, none, 0, none, 0⟩⟩ : Oz)] ++ l.drop i⟩), RowO Kd.oz 62 q3 c3 (l.take i ++ [(⟨⟨e.object, e.n, e.limit, [], [], []⟩, ⟨none, 0, none, 0, none, 0⟩⟩ : Oz)] ++ l.drop i), NestF l]) tG (by repeat (first | exact Drop.refl | apply Drop.skip)))))).fitD⟩
      ·rintro _ _ ⟨b77, rfl, rfl⟩
       refine dq1 7 rfl (lX Kd.oz (xs := []) (ys := l.take i) se_45 underlying45 ⟨_, ze_oz, rfl⟩ tD rfl rfl tP isF tM rfl rfl (by show (2 * (0 + (l.take i).length) + 768) * _ ≤ _; omega)) (.inr (by rintro _ _ ⟨q1, c1, rfl, rfl⟩ w h; exact h.subD)) ?_
       rintro _ _ ⟨q1, c1, rfl, rfl⟩
       refine dq1 10 rfl (lX Kd.oz (ys := [(⟨⟨e.object, e.n, e.limit, [], [], []⟩, ⟨none, 0, none, 0, none, 0⟩⟩ : Oz)]) se_45 underlying45 ⟨_, ze_oz, rfl⟩ tD rfl rfl tP isP tM rfl rfl (by show (2 * (([] ++ l.take i).length + 1) + 768) * _ ≤ _; rw [List.nil_append]; omega)) (.inr (by rintro _ _ ⟨q2, c2, rfl, rfl⟩ w h; exact h.subD)) ?_
       rintro _ _ ⟨q2, c2, rfl, rfl⟩
       refine dq1 17 rfl (lX Kd.oz (ys := l.drop i) se_45 underlying45 ⟨_, ze_oz, rfl⟩ tD rfl rfl tP isF tM rfl rfl (by show (2 * (([] ++ l.take i ++ [(⟨⟨e.object, e.n, e.limit, [], [], []⟩, ⟨none, 0, none, 0, none, 0⟩⟩ : Oz)]).length + (l.drop i).length) + 768) * _ ≤ _; rw [List.nil_append, List.length_append, List.length_singleton]; omega)) (.inr (by rintro _ _ ⟨q3, c3, rfl, rfl⟩ w h; exact h.subD)) ?_
       rintro _ _ ⟨q3, c3, rfl, rfl⟩
       rw [List.nil_append]
       refine dq1 18 rfl (OpQ.loud (qN rfl)) (.inl tK) ?_
       rintro _ _ ⟨rfl, rfl⟩
       refine dq1 19 rfl (OpQ.loud (qO fo_47_1 rfl)) (.inl tK) ?_
       rintro _ _ ⟨rfl, rfl⟩
       refine dq1N 20 rfl (lA ck_45 rfl rfl rfl tP tA) (.inl tK) ?_
       rintro _ _ ⟨rfl, rfl⟩
       refine D.done tK<|ky<|ka rfl<|zm ?_
       refine kr1 func65 results65 rfl (fun w hs => ?_)
       have hc3 := rC (e := 62) (k := Kd.oz) (p := q3) (cap := c3) (xs := l.take i ++ [(⟨⟨e.object, e.n, e.limit, [], [], []⟩, ⟨none, 0, none, 0, none, 0⟩⟩ : Oz)] ++ l.drop i) tM w hs
       have hmem : ∀ p : Oz, p ∈ l.take i ++ [(⟨⟨e.object, e.n, e.limit, [], [], []⟩, ⟨none, 0, none, 0, none, 0⟩⟩ : Oz)] ++ l.drop i → p ∈ l ∨ p = (⟨⟨e.object, e.n, e.limit, [], [], []⟩, ⟨none, 0, none, 0, none, 0⟩⟩ : Oz) := fun p hp => by
        rcases List.mem_append.1 hp with hp | hp
        ·rcases List.mem_append.1 hp with hp | hp
         ·exact .inl (List.mem_of_mem_take hp)
         ·exact .inr (List.mem_singleton.1 hp)
        ·exact .inl (List.mem_of_mem_drop hp)
       exact ⟨_, StO b ⟨nx, q3, c3, l.take i ++ [(⟨⟨e.object, e.n, e.limit, [], [], []⟩, ⟨none, 0, none, 0, none, 0⟩⟩ : Oz)] ++ l.drop i⟩, rfl, ⟨⟨nx, q3, c3, l.take i ++ [(⟨⟨e.object, e.n, e.limit, [], [], []⟩, ⟨none, 0, none, 0, none, 0⟩⟩ : Oz)] ++ l.drop i⟩, by rw [hr0], fun _ => (by
         rw [hr0]
         unfold Sz.st insAt
         simp only [List.map_append, List.map_take, List.map_drop, List.map_cons, List.map_nil]), rfl, hc3, fun p hp => (hmem p hp).elim (hcap p) (fun h => by rw [h]; exact ⟨Nat.le_refl _, Nat.le_refl _, Nat.le_refl _⟩)⟩,
        (nestF_put (l := l) (⟨⟨e.object, e.n, e.limit, [], [], []⟩, ⟨none, 0, none, 0, none, 0⟩⟩ : Oz) hmem tM tM tM tM (rowF_nilA (k := Kd.rw) (rowF_nilA (k := Kd.msg) (hs.fit (M := [pv b 47 (Sz.cells ⟨nx, q3, c3, l.take i ++ [(⟨⟨e.object, e.n, e.limit, [], [], []⟩, ⟨none, 0, none, 0, none, 0⟩⟩ : Oz)] ++ l.drop i⟩), RowO Kd.oz 62 q3 c3 (l.take i ++ [(⟨⟨e.object, e.n, e.limit, [], [], []⟩, ⟨none, 0, none, 0, none, 0⟩⟩ : Oz)] ++ l.drop i), NestF l]) tG (by repeat (first | exact Drop.refl | apply Drop.skip)))))).fitD⟩
  ·refine za<|zd<|ky<|km rfl<|kq (qL ck_58 rfl rfl tC)<|kl (kc rfl (h := ref_on b ⟨nx, q, c, l⟩ e hR' g23 g9)) ?_
   rintro _ _ ⟨_, ⟨s', rfl, hs1, rfl, hs2, hs3⟩, rfl⟩
   refine ka rfl<|zm ?_
   refine kr1 func65 results65 rfl (fun w hs => ?_)
   exact ⟨_, StO b s', rfl, ⟨s', rfl, hs1, rfl, hs2, hs3⟩, hs.fitD⟩
end Go.Proofs.YtkbhldicnamcdaaGreat.L
namespace Go.Proofs.YtkbhldicnamcdaaGreat.L
open Go
def RdM (α : Type) := Rd → α × Rd
def RdM.bind {α β : Type} (r : RdM α) (k : α → RdM β) : RdM β := fun s => k (r s).1 (r s).2
def RdM.ret {α : Type} (a : α) : RdM α := fun s => (a, s)
def Sticky {α : Type} (r : RdM α) : Prop := ∀ s : Rd, s.f = true → (r s).2.f = true
def PreOK {α : Type} (r : RdM α) : Prop := Sticky r ∧ ∀ s t, Pre s t → (r t).2.f = false → Pre (r s).2 (r t).2 ∧ ((r s).2.f = true ∨ (r s).1 = (r t).1)
def AlikeOK {α : Type} (r r' : RdM α) : Prop := ∀ s t, Alike s t → Alike (r s).2 (r' t).2 ∧ (r s).1 = (r' t).1
theorem PreOK.ret {α : Type} (a : α) : PreOK (RdM.ret a) := ⟨fun _ h => h, fun _ _ h _ => ⟨h, .inr rfl⟩⟩
theorem PreOK.bind {α β : Type} {r : RdM α} {k : α → RdM β} (h : PreOK r) (hk : ∀ a, PreOK (k a)) : PreOK (RdM.bind r k) := by
 refine ⟨fun s hs => (hk _).1 _ (h.1 s hs), fun s t hp ht => ?_⟩
 have ht : (k (r t).1 (r t).2).2.f = false := ht
 have h1 : (r t).2.f = false := by
  cases hf : (r t).2.f with
  | false => rfl
  | true => rw [(hk _).1 _ hf] at ht; cases ht
 obtain ⟨p1, p2⟩ := h.2 s t hp h1
 show Pre (k (r s).1 (r s).2).2 (k (r t).1 (r t).2).2 ∧ _
 rcases p2 with hf | he
 ·have : (k (r s).1 (r s).2).2.f = true := (hk _).1 _ hf
  exact ⟨.inl this, .inl this⟩
 ·have := (hk (r t).1).2 _ _ p1 ht
  rw [← he] at this
  refine ⟨by rw [← he]; exact this.1, ?_⟩
  rcases this.2 with h | h
  ·exact .inl h
  ·exact .inr (by show (k (r s).1 (r s).2).1 = (k (r t).1 (r t).2).1; rw [← he]; exact h)
theorem AlikeOK.ret {α : Type} (a : α) : AlikeOK (RdM.ret a) (RdM.ret a) := fun _ _ h => ⟨h, rfl⟩
theorem AlikeOK.bind {α β : Type} {r r' : RdM α} {k k' : α → RdM β} (h : AlikeOK r r') (hk : ∀ a, AlikeOK (k a) (k' a)) : AlikeOK (RdM.bind r k) (RdM.bind r' k') := fun s t ha => by
 obtain ⟨h1, h2⟩ := h s t ha
 have := hk (r s).1 _ _ h1
 rw [h2] at this
 show Alike (k (r s).1 (r s).2).2 (k' (r' t).1 (r' t).2).2 ∧ (k (r s).1 (r s).2).1 = (k' (r' t).1 (r' t).2).1
 rw [h2]
 exact this
theorem pre_int : PreOK (Rd.int : RdM Int) := ⟨fun s h => by rw [Rd.int_f h]; exact h, fun _ _ h ht => h.int ht⟩
theorem pre_text : PreOK (Rd.text : RdM ByteArray) := ⟨fun s h => by rw [Rd.text_f h]; exact h, fun _ _ h ht => h.text ht⟩
theorem pre_flag : PreOK (Rd.flag : RdM Bool) := ⟨fun s h => by rw [Rd.flag_f h]; exact h, fun _ _ h ht => h.flag ht⟩
theorem pre_msgT : PreOK (Rd.msgT : RdM Msg) := by
 have e : (Rd.msgT : RdM Msg) = RdM.bind (Rd.int : RdM Int) fun a => RdM.bind (Rd.int : RdM Int) fun b => RdM.bind (Rd.int : RdM Int) fun c => RdM.bind (Rd.flag : RdM Bool) fun d => RdM.bind (Rd.text : RdM ByteArray) fun e => RdM.bind (Rd.text : RdM ByteArray) fun f => RdM.ret ⟨a, b, c, d, e, f⟩ := rfl
 rw [e]
 exact pre_int.bind fun _ => pre_int.bind fun _ => pre_int.bind fun _ => pre_flag.bind fun _ => pre_text.bind fun _ => pre_text.bind fun _ => .ret _
theorem Rd.msg_snd (s : Rd) : s.msg.2 = s.msgT.2 := by unfold Rd.msg; split <;> rfl
theorem pre_msg : PreOK (Rd.msg : RdM Msg) := by
 refine ⟨fun s h => by rw [Rd.msg_snd]; exact pre_msgT.1 s h, fun s t hp ht => ?_⟩
 rw [Rd.msg_snd] at ht
 have := pre_msgT.2 s t hp ht
 rw [Rd.msg_snd, Rd.msg_snd]
 refine ⟨this.1, ?_⟩
 cases hf : s.msgT.2.f with
 | true => exact .inl rfl
 | false =>
  refine .inr ?_
  have h2 := this.2.resolve_left (by rw [hf]; simp)
  unfold Rd.msg
  rw [if_neg (by rw [hf]; simp), if_neg (by rw [ht]; simp)]
  exact h2
def Rd.eff (s : Rd) : Eff × Rd :=
 let a := s.int; let b := a.2.text; let c := b.2.text; let d := c.2.text; let e := d.2.int; let f := e.2.int; let g := f.2.flag; let h := g.2.msg
 (⟨a.1, b.1, c.1, d.1, e.1, f.1, g.1, h.1⟩, h.2)
theorem eff_is : (Rd.eff : RdM Eff) = RdM.bind (Rd.int : RdM Int) fun a => RdM.bind (Rd.text : RdM ByteArray) fun b => RdM.bind (Rd.text : RdM ByteArray) fun c => RdM.bind (Rd.text : RdM ByteArray) fun d => RdM.bind (Rd.int : RdM Int) fun e => RdM.bind (Rd.int : RdM Int) fun f => RdM.bind (Rd.flag : RdM Bool) fun g => RdM.bind (Rd.msg : RdM Msg) fun h => RdM.ret ⟨a, b, c, d, e, f, g, h⟩ := rfl
def Rd.effs : Nat → Rd → Option (List Eff) × Rd
 | 0, s => (some [], s)
 | n + 1, s => if s.eff.2.f || !s.eff.1.right then (none, s.eff.2) else ((Rd.effs n s.eff.2).1.map (s.eff.1 :: ·), (Rd.effs n s.eff.2).2)
attribute [local irreducible] Rd.eff
theorem effs_zero (s : Rd) : Rd.effs 0 s = (some [], s) := rfl
theorem effs_succ (n : Nat) (s : Rd) : Rd.effs (n + 1) s = if s.eff.2.f || !s.eff.1.right then (none, s.eff.2) else ((Rd.effs n s.eff.2).1.map (s.eff.1 :: ·), (Rd.effs n s.eff.2).2) := rfl
def effRead (b : List UInt8) : Option (List Eff) :=
 let a := Rd.int ⟨b, false⟩
 if a.2.f = true ∨ a.1 < 0 ∨ 10000 < a.1 then none else
 match (Rd.effs a.1.toNat a.2).1 with
 | none => none
 | some l => if (Rd.effs a.1.toNat a.2).2.done then some l else none
def tcut (s : ByteArray) : ByteArray := ⟨((bytesOf s).take 65535).toArray⟩
theorem tcut_size (s : ByteArray) : (tcut s).size = min s.size 65535 := by
 show ((bytesOf s).take 65535).toArray.size = _
 rw [List.size_toArray, List.length_take, bytesOf_length, Nat.min_comm]
theorem tcut_eq {s : ByteArray} (h : s.size ≤ 65535) : tcut s = s := by
 unfold tcut
 rw [List.take_of_length_le (by rw [bytesOf_length]; exact h), bytesOf_mk]
def Msg.tcut (m : Msg) : Msg := { m with corr := L.tcut m.corr, body := L.tcut m.body }
def Eff.tcut (e : Eff) : Eff := { e with object := L.tcut e.object, key := L.tcut e.key, value := L.tcut e.value, msg := e.msg.tcut }
def Eff.bytes (e : Eff) : List UInt8 := wInt e.kind ++ wText e.object ++ wText e.key ++ wText e.value ++ wInt e.n ++ wInt e.limit ++ wFlag e.tried ++ e.msg.bytes
def effsBytes (l : List Eff) : List UInt8 := wInt l.length ++ l.flatMap Eff.bytes
theorem Rd.text_appC (s : ByteArray) (r : List UInt8) : Rd.text ⟨wText s ++ r, false⟩ = (tcut s, ⟨r, false⟩) := Rd.text_app s r
theorem Rd.msg_appC (m : Msg) (hf : m.fits) (r : List UInt8) : Rd.msg ⟨m.bytes ++ r, false⟩ = (m.tcut, ⟨r, false⟩) := by
 obtain ⟨h1, h2, h3, _⟩ := hf
 have e : m.bytes ++ r = wInt m.id ++ (wInt m.pri ++ (wInt m.retry ++ (wFlag m.claimed ++ (wText m.corr ++ (wText m.body ++ r))))) := by simp [Msg.bytes]
 have hT : Rd.msgT ⟨m.bytes ++ r, false⟩ = (m.tcut, ⟨r, false⟩) := by
  unfold Rd.msgT
  rw [e]
  simp only [Rd.int_app h1.1 h1.2, Rd.int_app h2.1 h2.2, Rd.int_app h3.1 h3.2, Rd.flag_app, Rd.text_appC]
  rfl
 unfold Rd.msg
 rw [hT, if_neg (by simp)]
theorem Rd.eff_app (e : Eff) (hf : e.fits) (r : List UInt8) : Rd.eff ⟨e.bytes ++ r, false⟩ = (e.tcut, ⟨r, false⟩) := by
 obtain ⟨h1, _, _, _, h2, h3, _, h4⟩ := hf
 have q : e.bytes ++ r = wInt e.kind ++ (wText e.object ++ (wText e.key ++ (wText e.value ++ (wInt e.n ++ (wInt e.limit ++ (wFlag e.tried ++ (e.msg.bytes ++ r))))))) := by simp [Eff.bytes]
 unfold Rd.eff
 rw [q]
 simp only [Rd.int_app h1.1 h1.2, Rd.int_app h2.1 h2.2, Rd.int_app h3.1 h3.2, Rd.flag_app, Rd.text_appC, Rd.msg_appC _ h4]
 rfl
theorem effName_size {s : ByteArray} (h : effName s = true) : s.size ≤ 16 := by simp [effName] at h; omega
theorem rwKey_size {s : ByteArray} (h : rwKey s = true) : s.size ≤ 40 := by simp [rwKey] at h; omega
theorem right_small {e : Eff} (h : e.right = true) : e.object.size ≤ 100 ∧ e.key.size ≤ 100 ∧ e.value.size ≤ 100 ∧ e.msg.corr.size ≤ 100 ∧ e.msg.body.size ≤ 100 := by
 unfold Eff.right at h
 simp only [Bool.and_eq_true, decide_eq_true_iff] at h
 obtain ⟨hn, hk⟩ := h
 have s1 : ∀ {a b : Bool}, (a && b) = true → a = true := fun h => ((Bool.and_eq_true _ _).mp h).1
 have s2 : ∀ {a b : Bool}, (a && b) = true → b = true := fun h => ((Bool.and_eq_true _ _).mp h).2
 unfold Eff.rightK at hk
 unfold Eff.named at hn
 dsimp only at hn
 have ho : ∀ {b : Bool}, (effName e.object && b) = true → e.object.size ≤ 100 := fun h => by have := effName_size (s1 h); omega
 split at hk
 ·rename_i k
  rw [if_pos k] at hn
  rw [eff_ext] at hn
  obtain ⟨_, _, h3, h4, _, _, _, h8⟩ := hn
  have h8 : e.msg = ⟨0, 0, 0, false, ⟨#[]⟩, ⟨#[]⟩⟩ := h8
  have h3 : e.key = ⟨#[]⟩ := h3
  have h4 : e.value = ⟨#[]⟩ := h4
  rw [h3, h4, h8]
  exact ⟨ho hk, by decide, by decide, by decide, by decide⟩
 ·rename_i k1
  rw [if_neg k1] at hn
  split at hk
  ·rename_i k
   rw [if_pos k] at hn
   rw [eff_ext] at hn
   obtain ⟨_, _, h3, h4, _, _, _, h8⟩ := hn
   have h8 : e.msg = ⟨0, 0, 0, false, ⟨#[]⟩, ⟨#[]⟩⟩ := h8
   rw [h8]
   have hr := s2 hk
   unfold Rw.right at hr
   have a1 := rwKey_size (s1 hr)
   have a2 := s2 hr
   simp at a2 a1
   exact ⟨ho hk, by omega, by omega, by decide, by decide⟩
  ·rename_i k2
   rw [if_neg k2] at hn
   split at hk
   ·rename_i k
    rw [if_pos k] at hn
    rw [eff_ext] at hn
    obtain ⟨_, _, h3, h4, _, _, _, h8⟩ := hn
    have h8 : e.msg = ⟨0, 0, 0, false, ⟨#[]⟩, ⟨#[]⟩⟩ := h8
    have h4 : e.value = ⟨#[]⟩ := h4
    rw [h8, h4]
    have a1 := rwKey_size (s2 hk)
    exact ⟨ho hk, by omega, by decide, by decide, by decide⟩
   ·rename_i k3
    rw [if_neg k3] at hn
    split at hk
    ·rename_i k
     rw [if_pos k] at hn
     rw [eff_ext] at hn
     obtain ⟨_, _, h3, h4, _, _, _, h8⟩ := hn
     have h3 : e.key = ⟨#[]⟩ := h3
     have h4 : e.value = ⟨#[]⟩ := h4
     rw [h3, h4]
     have hm := s2 hk
     simp [Msg.right] at hm
     exact ⟨ho hk, by decide, by decide, by omega, by omega⟩
    ·rename_i k4
     rw [if_neg k4] at hn
     have rest : ∀ {o : ByteArray} {n l : Int} {t : Bool}, e = ⟨e.kind, o, ⟨#[]⟩, ⟨#[]⟩, n, l, t, ⟨0, 0, 0, false, ⟨#[]⟩, ⟨#[]⟩⟩⟩ → o.size ≤ 100 → e.object.size ≤ 100 ∧ e.key.size ≤ 100 ∧ e.value.size ≤ 100 ∧ e.msg.corr.size ≤ 100 ∧ e.msg.body.size ≤ 100 := fun {o n l t} h h1 => by
      rw [eff_ext] at h
      obtain ⟨_, h2, h3, h4, _, _, _, h8⟩ := h
      have h2 : e.object = o := h2
      have h3 : e.key = ⟨#[]⟩ := h3
      have h4 : e.value = ⟨#[]⟩ := h4
      have h8 : e.msg = ⟨0, 0, 0, false, ⟨#[]⟩, ⟨#[]⟩⟩ := h8
      rw [h2, h3, h4, h8]
      exact ⟨h1, by decide, by decide, by decide, by decide⟩
     split at hk
     ·rename_i k
      by_cases k56 : e.kind = 5 ∨ e.kind = 6
      ·rw [if_pos k56] at hn; exact rest hn (ho hk)
      ·rw [if_neg k56, if_pos tO] at hn; exact rest hn (ho hk)
     ·rename_i k5
      split at hk
      ·rename_i k
       rw [if_neg tO, if_neg tO, if_pos k] at hn
       exact rest hn tD
      ·cases hk
theorem Eff.tcut_eq {e : Eff} (h : e.object.size ≤ 65535 ∧ e.key.size ≤ 65535 ∧ e.value.size ≤ 65535 ∧ e.msg.corr.size ≤ 65535 ∧ e.msg.body.size ≤ 65535) : e.tcut = e := by
 obtain ⟨h1, h2, h3, h4, h5⟩ := h
 rw [eff_ext]
 exact ⟨rfl, L.tcut_eq h1, L.tcut_eq h2, L.tcut_eq h3, rfl, rfl, rfl, by rw [msg_ext]; exact ⟨rfl, rfl, rfl, rfl, L.tcut_eq h4, L.tcut_eq h5⟩⟩
theorem Eff.tcut_right (e : Eff) : e.tcut.right = e.right := by
 have key : e.tcut.right = true → e.tcut = e := fun h => by
  obtain ⟨h1, h2, h3, h4, h5⟩ := right_small h
  have h1 : (L.tcut e.object).size ≤ 100 := h1
  have h2 : (L.tcut e.key).size ≤ 100 := h2
  have h3 : (L.tcut e.value).size ≤ 100 := h3
  have h4 : (L.tcut e.msg.corr).size ≤ 100 := h4
  have h5 : (L.tcut e.msg.body).size ≤ 100 := h5
  rw [tcut_size] at h1 h2 h3 h4 h5
  exact Eff.tcut_eq ⟨by omega, by omega, by omega, by omega, by omega⟩
 cases h : e.tcut.right with
 | true => rw [← key h, h]
 | false =>
  cases h2 : e.right with
  | false => rfl
  | true =>
   obtain ⟨h1, h3, h4, h5, h6⟩ := right_small h2
   rw [Eff.tcut_eq ⟨by omega, by omega, by omega, by omega, by omega⟩, h2] at h
   cases h
theorem effs_app : ∀ (l : List Eff) (r : List UInt8), (∀ e ∈ l, e.fits) → (l.all Eff.right = true → Rd.effs l.length ⟨l.flatMap Eff.bytes ++ r, false⟩ = (some l, ⟨r, false⟩)) ∧ (l.all Eff.right = false → (Rd.effs l.length ⟨l.flatMap Eff.bytes ++ r, false⟩).1 = none)
 | [], r, _ => ⟨fun _ => rfl, fun h => by cases h⟩
 | e :: l, r, hf => by
  have ih := effs_app l r (fun x hx => hf x (List.mem_cons_of_mem _ hx))
  have he := Rd.eff_app e (hf e List.mem_cons_self) (l.flatMap Eff.bytes ++ r)
  have q : (e :: l).flatMap Eff.bytes ++ r = e.bytes ++ (l.flatMap Eff.bytes ++ r) := by simp
  rw [q, List.length_cons, effs_succ, he]
  dsimp only
  rw [Eff.tcut_right, List.all_cons]
  cases hr : e.right with
  | false => exact ⟨fun h => by simp at h, fun _ => by simp⟩
  | true =>
   obtain ⟨h1, h3, h4, h5, h6⟩ := right_small hr
   rw [Eff.tcut_eq ⟨by omega, by omega, by omega, by omega, by omega⟩]
   refine ⟨fun h => ?_, fun h => ?_⟩
   ·have := ih.1 (by simpa using h)
    simp [this]
   ·have := ih.2 (by simpa using h)
    simp [this]
theorem effRead_of {b : List UInt8} {n : Int} {s : Rd} (h : Rd.int ⟨b, false⟩ = (n, s)) : effRead b = if s.f = true ∨ n < 0 ∨ 10000 < n then none else match (Rd.effs n.toNat s).1 with | none => none | some l => if (Rd.effs n.toNat s).2.done then some l else none := by
 unfold effRead
 simp only [h]
theorem effRead_bytes (l : List Eff) (r : List UInt8) (hl : l.length ≤ 10000) (hf : ∀ e ∈ l, e.fits) : effRead (effsBytes l ++ r) = if l.all Eff.right = true ∧ r = [] then some l else none := by
 have hi : Rd.int ⟨effsBytes l ++ r, false⟩ = ((l.length : Int), ⟨l.flatMap Eff.bytes ++ r, false⟩) := by
  unfold effsBytes
  rw [List.append_assoc]
  exact Rd.int_app tO tO _
 rw [effRead_of hi]
 have hc : ¬ ((Rd.mk (l.flatMap Eff.bytes ++ r) false).f = true ∨ (l.length : Int) < 0 ∨ 10000 < (l.length : Int)) := by
  rintro (h | h | h)
  ·cases h
  ·omega
  ·omega
 rw [if_neg hc, Int.toNat_natCast]
 obtain ⟨h1, h2⟩ := effs_app l r hf
 cases ha : l.all Eff.right with
 | false => rw [h2 ha]; simp
 | true =>
  rw [h1 ha]
  cases r with
  | nil => simp [Rd.done]
  | cons c r => simp [Rd.done]
theorem effsBytes_length (l : List Eff) : (effsBytes l).length ≤ 8 + l.length * 400000 := by
 have key : ∀ l : List Eff, (l.flatMap Eff.bytes).length ≤ l.length * 400000 := fun l => by
  induction l with
  | nil => simp
  | cons e l ih =>
   have : e.bytes.length ≤ 400000 := by
    have := e.msg.bytes_length
    unfold Eff.bytes
    simp only [List.length_append, wI, wF, wT]
    omega
   simp only [List.flatMap_cons, List.length_append, List.length_cons]
   omega
 have := key l
 unfold effsBytes
 rw [List.length_append, wI]
 omega
end Go.Proofs.YtkbhldicnamcdaaGreat.L
namespace Go.Proofs.YtkbhldicnamcdaaGreat.L
open Go Go.Proofs
attribute [local irreducible] pv fv pt fz RowF RowO rowP old pure_ elA
def effPre (l : List Eff) (i : Nat) : List UInt8 := wInt l.length ++ (l.take i).flatMap Eff.bytes
theorem effPre_zero (l : List Eff) : [] ++ wInt l.length = effPre l 0 := by simp [effPre]
theorem effPre_succ {l : List Eff} {i : Nat} {e : Eff} (h : l[i]? = some e) : effPre l (i + 1) = effPre l i ++ wInt e.kind ++ wText e.object ++ wText e.key ++ wText e.value ++ wInt e.n ++ wInt e.limit ++ wFlag e.tried ++ e.msg.bytes := by
 unfold effPre
 rw [List.take_add_one, h]
 simp [Eff.bytes]
theorem effPre_all (l : List Eff) : effPre l l.length = effsBytes l := by simp [effPre, effsBytes]
theorem effPre_len (l : List Eff) (i : Nat) (hi : i ≤ l.length) : (effPre l i).length ≤ 8 + i * 400000 := by
 have h := effsBytes_length (l.take i)
 have e : (effPre l i).length = (effsBytes (l.take i)).length := by simp [effPre, effsBytes, wI]
 rw [List.length_take, Nat.min_eq_left hi] at h
 omega
set_option maxHeartbeats 800000 in
theorem eff_Bytes (q : Option Addr) (cap : Nat) (l : List Eff) (hl : l.length ≤ 100000) : Fn Tryz.prog 56 [.slice q l.length cap].toArray [RowF Kd.eff q l]
  (fun r post => ∃ q' cap', r = .slice q' (effsBytes l).length cap' ∧ post = [RowF Kd.u8 q' (effsBytes l)] ∧ (effsBytes l).length ≤ cap') := by
 refine Fn.enter (N := 53) func56 rfl ntmps56 tK rfl (fun ρ L => ?_)
 refine ky<|ka rfl<|kz<|kq (q_build st_150 rfl tF)<|kl (l_box rfl rfl) ?_
 rintro _ _ ⟨b7, rfl, rfl⟩
 refine ka rfl<|zm<|K.st (fun w h => rowO_nil (k := Kd.u8) 5 h)<|ky<|km rfl<|km rfl<|kq (qG underlying64 rfl)<|kl (OpL.callE rfl (wr_Int b7 none 0 [] _ (by simp))) ?_
 rintro _ _ ⟨_, ⟨q0, c0, rfl, rfl⟩, rfl⟩
 refine zm<|ke<|ky<|km rfl<|kq (qG underlying64 rfl)<|km rfl<|zm<|kB ?_
 rw [effPre_zero]
 refine kX (ι := { x : Nat × Option Addr × Nat // x.1 ≤ l.length }) (fun x => [(14, .int .i64 x.1.1), (13, .int .i64 l.length), (12, .slice q l.length cap), (3, .pointer (some ⟨b7, 0, none⟩))]) (fun x => WrL b7 x.1.2.1 x.1.2.2 (effPre l x.1.1) ++ (RowF Kd.eff q l :: L)) (fun x => l.length - x.1.1) ⟨(0, q0, c0), Nat.zero_le _⟩ tS (fun w h => h.fitD) (fun x ih => ?_)
 obtain ⟨⟨i, q', cap'⟩, hi⟩ := x
 have hpl := effPre_len l i hi
 dsimp only at hi ⊢
 refine ky<|kq (q_lt rfl rfl)<|zm<|ke ?_
 refine kD (s := 15) rfl (fun g15 => ?_) (fun g15 => ?_)
 ·obtain ⟨e, he⟩ : ∃ e, l[i]? = some e := ⟨_, List.getElem?_eq_getElem tO⟩
  have hml := e.msg.bytes_length
  refine za<|ke<|kB<|ke<|kr ?_
  first | refine kq (q_ix _ se_64 rfl rfl rfl isF tM rfl tL) ?_ | refine kq (q_ix _ se_64 rfl rfl rfl isO tM rfl tL) ?_
  first | refine kq (q_ldEN ck_58 rfl isF tM tE) ?_ | refine kq (q_ldEN ck_58 rfl isO tM tE) ?_
  refine kl (lL zo_58) ?_
  rintro _ _ ⟨b5, rfl, rfl⟩
  refine kN rfl (lS ck_58 rfl rfl ⟨rfl, rfl⟩ (eff_one _) tP) ?_
  rintro _ _ ⟨rfl, rfl⟩
  refine kz<|km rfl<|kq (qO fo_58_0 rfl)<|kq (qD ck_3 rfl) ?_
  refine kl (kc rfl (h := wr_Int _ _ _ _ _ (by first | omega | (simp [wI, wF, wT]; omega)))) ?_
  rintro _ _ ⟨_, ⟨q1, c1, rfl, rfl⟩, rfl⟩
  refine kz<|km rfl<|kq (qO fo_58_1 rfl)<|kq (qD ck_9 rfl) ?_
  refine kl (kc rfl (h := wr_TextA _ _ _ _ _ (by first | omega | (simp [wI, wF, wT]; omega)))) ?_
  rintro _ _ ⟨_, ⟨q2, c2, rfl, rfl⟩, rfl⟩
  refine kz<|km rfl<|kq (qO fo_58_2 rfl)<|kq (qD ck_9 rfl) ?_
  refine kl (kc rfl (h := wr_TextA _ _ _ _ _ (by first | omega | (simp [wI, wF, wT]; omega)))) ?_
  rintro _ _ ⟨_, ⟨q3, c3, rfl, rfl⟩, rfl⟩
  refine kz<|km rfl<|kq (qO fo_58_3 rfl)<|kq (qD ck_9 rfl) ?_
  refine kl (kc rfl (h := wr_TextA _ _ _ _ _ (by first | omega | (simp [wI, wF, wT]; omega)))) ?_
  rintro _ _ ⟨_, ⟨q4, c4, rfl, rfl⟩, rfl⟩
  refine kz<|km rfl<|kq (qO fo_58_4 rfl)<|kq (qD ck_3 rfl) ?_
  refine kl (kc rfl (h := wr_Int _ _ _ _ _ (by first | omega | (simp [wI, wF, wT]; omega)))) ?_
  rintro _ _ ⟨_, ⟨q5, c5, rfl, rfl⟩, rfl⟩
  refine kz<|km rfl<|kq (qO fo_58_5 rfl)<|kq (qD ck_3 rfl) ?_
  refine kl (kc rfl (h := wr_Int _ _ _ _ _ (by first | omega | (simp [wI, wF, wT]; omega)))) ?_
  rintro _ _ ⟨_, ⟨q6, c6, rfl, rfl⟩, rfl⟩
  refine kz<|km rfl<|kq (qO fo_58_6 rfl)<|kq (qD ck_4 rfl) ?_
  refine kl (kc rfl (h := wr_Flag _ _ _ _ _ (by first | omega | (simp [wI, wF, wT]; omega)))) ?_
  rintro _ _ ⟨_, ⟨q7, c7, rfl, rfl⟩, rfl⟩
  refine zm<|kr<|km rfl<|kq (qO fo_58_7 rfl)<|kq (q_ldPS sub_eff_msg msg_sz ck_56 rfl tM) ?_
  refine kl (kc rfl (h := msg_WriteA _ _ _ _ _ (by first | omega | (simp [wI, wF, wT]; omega)))) ?_
  rintro _ _ ⟨_, ⟨q8, c8, rfl, rfl⟩, rfl⟩
  refine zm<|zd<|kr<|kq (q_add rfl rfl tN tN)<|km rfl<|zm ?_
  rw [← effPre_succ he]
  exact K.weak tS (fun w h => h.fitD) (ih ⟨(i + 1, q8, c8), by show i + 1 ≤ l.length; omega⟩ (by show l.length - (i + 1) < l.length - i; omega))
 ·obtain rfl : i = l.length := by omega
  rw [effPre_all] at hpl ⊢
  refine K.exit rfl<|ky<|km rfl ?_
  refine kl (kc rfl (h := wr_Bytes _ _ _ _ (by first | omega | (simp [wI, wF, wT]; omega)))) ?_
  rintro _ _ ⟨_, ⟨q9, c9, rfl, rfl, hc9⟩, rfl⟩
  refine ka rfl<|zm ?_
  refine kr1 func56 results56 rfl (fun w hs => ?_)
  exact ⟨_, [RowF Kd.u8 q9 (effsBytes l)], rfl, ⟨q9, c9, rfl, rfl, hc9⟩, hs.fitD⟩
end Go.Proofs.YtkbhldicnamcdaaGreat.L
namespace Go.Proofs.YtkbhldicnamcdaaGreat.L
open Go Go.Proofs
attribute [local irreducible] pv fv pt fz RowF RowO rowP old pure_ elA Rd.int Rd.text Rd.flag Rd.msg Rd.rint Rd.rtext Rd.rflag Rd.rmsg
set_option maxHeartbeats 800000 in
theorem eff_read (p : Nat) (q : Option Addr) (cap : Nat) (s : Rd) (hc : s.bs.length ≤ cap) : Fn Tryz.prog 131 [.pointer (some ⟨p, 0, none⟩)].toArray (RdL p q cap s)
  (fun r post => ∃ q' cap', r = .agg s.eff.1.cells.toArray ∧ post = RdL p q' cap' s.eff.2 ∧ s.eff.2.bs.length ≤ cap') := by
 refine Fn.enter (N := 29) func131 rfl ntmps131 tK rfl (fun ρ L => ?_)
 refine ky<|kl (lL zo_58) ?_
 rintro _ _ ⟨b2, rfl, rfl⟩
 refine kz<|km rfl<|kl (kc rfl (h := rd_Int _ _ _ _ (by assumption))) ?_
 rintro _ _ ⟨_, ⟨q1, c1, rfl, rfl, hc1⟩, rfl⟩
 refine kq (q_as_eff (q_build st_58 rfl tF) (by rfl))<|kl (lL zo_58) ?_
 rintro _ _ ⟨b3, rfl, rfl⟩
 refine kN rfl (lS ck_58 rfl rfl ⟨rfl, rfl⟩ (eff_one _) tP) ?_
 rintro _ _ ⟨rfl, rfl⟩
 refine kz<|km rfl<|kl (kc rfl (h := rd_Text _ _ _ _ (by assumption))) ?_
 rintro _ _ ⟨_, ⟨q2, c2, rfl, rfl, hc2⟩, rfl⟩
 refine kq (qO fo_58_1 rfl)<|kN rfl (lA ck_9 rfl rfl rfl tP tA) ?_
 rintro _ _ ⟨rfl, rfl⟩
 refine kz<|km rfl<|kl (kc rfl (h := rd_Text _ _ _ _ (by assumption))) ?_
 rintro _ _ ⟨_, ⟨q3, c3, rfl, rfl, hc3⟩, rfl⟩
 refine kq (qO fo_58_2 rfl)<|kN rfl (lA ck_9 rfl rfl rfl tP tA) ?_
 rintro _ _ ⟨rfl, rfl⟩
 refine kz<|km rfl<|kl (kc rfl (h := rd_Text _ _ _ _ (by assumption))) ?_
 rintro _ _ ⟨_, ⟨q4, c4, rfl, rfl, hc4⟩, rfl⟩
 refine kq (qO fo_58_3 rfl)<|kN rfl (lA ck_9 rfl rfl rfl tP tA) ?_
 rintro _ _ ⟨rfl, rfl⟩
 refine kz<|km rfl<|kl (kc rfl (h := rd_Int _ _ _ _ (by assumption))) ?_
 rintro _ _ ⟨_, ⟨q5, c5, rfl, rfl, hc5⟩, rfl⟩
 refine kq (qO fo_58_4 rfl)<|kN rfl (lA ck_3 rfl rfl rfl tP tA) ?_
 rintro _ _ ⟨rfl, rfl⟩
 refine kz<|km rfl<|kl (kc rfl (h := rd_Int _ _ _ _ (by assumption))) ?_
 rintro _ _ ⟨_, ⟨q6, c6, rfl, rfl, hc6⟩, rfl⟩
 refine kq (qO fo_58_5 rfl)<|kN rfl (lA ck_3 rfl rfl rfl tP tA) ?_
 rintro _ _ ⟨rfl, rfl⟩
 refine kz<|km rfl<|kl (kc rfl (h := rd_Flag _ _ _ _ (by assumption))) ?_
 rintro _ _ ⟨_, ⟨q7, c7, rfl, rfl, hc7⟩, rfl⟩
 refine kq (qO fo_58_6 rfl)<|kN rfl (lA ck_4 rfl rfl rfl tP tA) ?_
 rintro _ _ ⟨rfl, rfl⟩
 refine kz<|km rfl<|kl (kc rfl (h := msg_Read _ _ _ _ (by assumption))) ?_
 rintro _ _ ⟨_, ⟨q8, c8, rfl, rfl, hc8⟩, rfl⟩
 refine kq (qO fo_58_7 rfl)<|kN rfl (l_storeN ck_56 rfl rfl rfl (msg_one _) tP tSN) ?_
 rintro _ _ ⟨rfl, rfl⟩
 refine kz<|kq (q_as_eff (qL ck_58 rfl rfl tC) (by rfl))<|kN rfl (lS ck_58 rfl rfl ⟨rfl, rfl⟩ (eff_one _) tP) ?_
 rintro _ _ ⟨rfl, rfl⟩
 refine zm ?_
 refine K.ret (fn := Tryz.f131) func131 (fun a w hk hs => resC results131 hk rfl ck_58 rfl (cP tM w hs)) (fun w hs => ?_)
 exact ⟨_, RdL p q8 c8 s.eff.2, rfl, ⟨q8, c8, rfl, rfl, hc8⟩, hs.fitD⟩
attribute [local irreducible] Rd.eff
set_option maxHeartbeats 800000 in
theorem eff_Read (q : Option Addr) (cap : Nat) (bs : List UInt8) (hb : bs.length ≤ 1099511627776) : Fn Tryz.prog 70 [.slice q bs.length cap].toArray [RowF Kd.u8 q bs]
  (fun r post => ∃ q' cap', r = .tuple #[.slice q' ((effRead bs).getD []).length cap', .int .i64 (if (effRead bs).isSome then 0 else 11)] ∧ post = [RowF Kd.eff q' ((effRead bs).getD [])] ∧ ((effRead bs).getD []).length ≤ cap') := by
 obtain ⟨n0, s0, ha⟩ : ∃ n0 s0, Rd.int ⟨bs, false⟩ = (n0, s0) := ⟨_, _, rfl⟩
 refine Fn.enter (N := 43) func70 rfl ntmps70 tK rfl (fun ρ L => ?_)
 refine ky<|ka rfl<|ka rfl<|kz<|km rfl<|kl (kc rfl (h := rd_New _ _ _ tN)) ?_
 rintro _ _ ⟨_, ⟨p1, q1, c1, rfl, rfl, hc1⟩, rfl⟩
 refine ka rfl<|kz<|km rfl<|kl (kc rfl (h := rd_Int _ _ _ _ (by assumption))) ?_
 rintro _ _ ⟨_, ⟨q2, c2, rfl, rfl, hc2⟩, rfl⟩
 refine ka rfl<|zm ?_
 simp only [ha] at hc2 ⊢
 refine ke<|ky<|km rfl<|kl (kc rfl (h := rd_Failed _ _ _ _)) ?_
 rintro _ _ ⟨_, ⟨rfl, rfl⟩, rfl⟩
 refine km rfl ?_
 refine KO.split 14 rfl (fun g14 => ?_) (fun g14 => ?_)
 ·refine zq<|zq<|kq (qT rfl rfl)<|km rfl<|zq<|zq<|kq (qT rfl rfl)<|zm<|K.yes rfl<|ke ?_
  have hr : effRead bs = none := by rw [effRead_of ha, if_pos (by simp [*])]
  refine kr<|ka rfl<|ka rfl<|zm ?_
  refine kr2 func70 results70 rfl rfl (fun w hs => ?_)
  rw [hr]
  first
   | exact ⟨_, [RowF Kd.eff none []], rfl, ⟨none, 0, rfl, rfl, Nat.le_refl _⟩, (rowF_nil (k := Kd.eff) none hs).fitD⟩
   | exact ⟨_, [RowF Kd.eff p2 acc], rfl, ⟨p2, cap2, rfl, rfl, hcap⟩, hs.fitD⟩
 ·refine km rfl<|kq (q_lt rfl rfl)<|kq (qF rfl rfl)<|km rfl ?_
  refine KO.dsplit 18 rfl (fun g18 => ?_) (fun g18 => ?_)
  ·refine zq<|zq<|kq (qT rfl rfl)<|zm<|K.yes rfl<|ke ?_
   have hr : effRead bs = none := by rw [effRead_of ha, if_pos (by simp [*])]
   refine kr<|ka rfl<|ka rfl<|zm ?_
   refine kr2 func70 results70 rfl rfl (fun w hs => ?_)
   rw [hr]
   first
    | exact ⟨_, [RowF Kd.eff none []], rfl, ⟨none, 0, rfl, rfl, Nat.le_refl _⟩, (rowF_nil (k := Kd.eff) none hs).fitD⟩
    | exact ⟨_, [RowF Kd.eff p2 acc], rfl, ⟨p2, cap2, rfl, rfl, hcap⟩, hs.fitD⟩
  ·refine km rfl<|kq (q_gt rfl rfl)<|kq (qF rfl rfl)<|zm ?_
   refine kD (s := 21) rfl (fun g21 => ?_) (fun g21 => ?_)
   ·refine ke ?_
    have hr : effRead bs = none := by rw [effRead_of ha, if_pos (by simp [*])]
    refine kr<|ka rfl<|ka rfl<|zm ?_
    refine kr2 func70 results70 rfl rfl (fun w hs => ?_)
    rw [hr]
    first
     | exact ⟨_, [RowF Kd.eff none []], rfl, ⟨none, 0, rfl, rfl, Nat.le_refl _⟩, (rowF_nil (k := Kd.eff) none hs).fitD⟩
     | exact ⟨_, [RowF Kd.eff p2 acc], rfl, ⟨p2, cap2, rfl, rfl, hcap⟩, hs.fitD⟩
   ·refine za<|ky<|ka rfl<|zm<|ke<|ke ?_
    have hc : ¬ (s0.f = true ∨ n0 < 0 ∨ 10000 < n0) := by
     rintro (h | h | h)
     ·simp_all
     ·omega
     ·omega
    have hr0 := effRead_of ha
    rw [if_neg hc] at hr0
    obtain ⟨n, rfl⟩ : ∃ n : Nat, n0 = n := ⟨n0.toNat, by omega⟩
    rw [Int.toNat_natCast] at hr0
    refine K.st (fun w h => rowO_nil (k := Kd.eff) 58 h)<|kr<|km rfl<|km rfl<|zm<|kB ?_
    refine kX (ι := { x : Nat × List Eff × Rd × Option Addr × Nat × Option Addr × Nat // x.1 ≤ n ∧ x.2.1.length = x.1 ∧ x.2.2.1.bs.length ≤ x.2.2.2.2.1 ∧ Rd.effs n s0 = ((Rd.effs (n - x.1) x.2.2.1).1.map (x.2.1 ++ ·), (Rd.effs (n - x.1) x.2.2.1).2) }) (fun x => [(23, .int .i64 x.1.1), (22, .int .i64 n), (6, .slice x.1.2.2.2.2.2.1 x.1.2.1.length x.1.2.2.2.2.2.2), (4, .pointer (some ⟨p1, 0, none⟩))]) (fun x => RdL p1 x.1.2.2.2.1 x.1.2.2.2.2.1 x.1.2.2.1 ++ [RowO Kd.eff 58 x.1.2.2.2.2.2.1 x.1.2.2.2.2.2.2 x.1.2.1] ++ L) (fun x => n - x.1.1) ⟨(0, [], s0, q2, c2, none, 0), Nat.zero_le _, rfl, hc2, by simp⟩ tS (fun w h => h.fitD) (fun x ih => ?_)
    obtain ⟨⟨i, acc, s, q', c', p2, cap2⟩, hi, hl, hcs, hinv⟩ := x
    dsimp only at hi hl hcs hinv ⊢
    refine ky<|kq (q_lt rfl rfl)<|zm<|ke ?_
    refine kD (s := 24) rfl (fun g24 => ?_) (fun g24 => ?_)
    ·have hst := effs_succ (n - (i + 1)) s
     rw [show n - (i + 1) + 1 = n - i by omega] at hst
     refine za<|ke<|kB<|ky<|km rfl<|kl (kc rfl (h := eff_read _ _ _ _ (by assumption))) ?_
     rintro _ _ ⟨_, ⟨q4, c4, rfl, rfl, hc4⟩, rfl⟩
     refine kl (lL zo_58) ?_
     rintro _ _ ⟨b7, rfl, rfl⟩
     refine kN rfl (lS ck_58 rfl rfl ⟨rfl, rfl⟩ (eff_one _) tP) ?_
     rintro _ _ ⟨rfl, rfl⟩
     refine zm<|ke<|ky<|km rfl<|kl (kc rfl (h := rd_Failed _ _ _ _)) ?_
     rintro _ _ ⟨_, ⟨rfl, rfl⟩, rfl⟩
     refine km rfl ?_
     refine KO.split 29 rfl (fun g29 => ?_) (fun g29 => ?_)
     ·refine zq<|zq<|zq<|kq (qT rfl rfl)<|zm<|K.yes rfl<|ke ?_
      have hr : effRead bs = none := by
       rw [hr0, hinv, hst, if_pos (by simp [*])]
       rfl
      refine kr<|ka rfl<|ka rfl<|zm ?_
      refine kr2 func70 results70 rfl rfl (fun w hs => ?_)
      rw [hr]
      first
       | exact ⟨_, [RowF Kd.eff none []], rfl, ⟨none, 0, rfl, rfl, Nat.le_refl _⟩, (rowF_nil (k := Kd.eff) none hs).fitD⟩
       | exact ⟨_, [RowF Kd.eff p2 acc], rfl, ⟨p2, cap2, rfl, rfl, hcap⟩, hs.fitD⟩
     ·refine kq (qL ck_58 rfl rfl tC)<|kl (kc rfl (h := eff_Right _)) ?_
      rintro _ _ ⟨_, ⟨rfl, rfl⟩, rfl⟩
      refine kq (q_not rfl)<|kq (qF rfl rfl)<|zm ?_
      refine kT (s := 33) rfl (fun g33 => ?_) (fun g33 => ?_)
      ·refine ke ?_
       have hr : effRead bs = none := by
        rw [hr0, hinv, hst, if_pos (by simp [*])]
        rfl
       refine kr<|ka rfl<|ka rfl<|zm ?_
       refine kr2 func70 results70 rfl rfl (fun w hs => ?_)
       rw [hr]
       first
        | exact ⟨_, [RowF Kd.eff none []], rfl, ⟨none, 0, rfl, rfl, Nat.le_refl _⟩, (rowF_nil (k := Kd.eff) none hs).fitD⟩
        | exact ⟨_, [RowF Kd.eff p2 acc], rfl, ⟨p2, cap2, rfl, rfl, hcap⟩, hs.fitD⟩
      ·refine za<|kr<|km rfl<|kq (qL ck_58 rfl rfl tC)<|kl (lO sz_64_1 rfl rfl ⟨rfl, rfl, rfl⟩) ?_
       rintro _ _ ⟨b36, rfl, rfl⟩
       refine kl (lX Kd.eff se_64 underlying64 ⟨_, ze_58, rfl⟩ tD rfl rfl tP isP tM rfl rfl (by simp; omega)) ?_
       rintro _ _ ⟨p3, cap3, rfl, rfl⟩
       refine ka rfl<|zm<|zd<|kr<|kq (q_add rfl rfl tN tN)<|km rfl<|zm ?_
       have hst2 : Rd.effs (n - i) s = ((Rd.effs (n - (i + 1)) s.eff.2).1.map (s.eff.1 :: ·), (Rd.effs (n - (i + 1)) s.eff.2).2) := by rw [hst, if_neg (by simp_all)]
       refine K.weak ?_ ?_ (ih ⟨(i + 1, acc ++ [s.eff.1], s.eff.2, q4, c4, p3, cap3), ?_, ?_, ?_, ?_⟩ ?_)
       ·exact tS
       ·intro w h
        exact h.fitD
       ·show i + 1 ≤ n
        omega
       ·show (acc ++ [s.eff.1]).length = i + 1
        simp [hl]
       ·assumption
       ·show Rd.effs n s0 = ((Rd.effs (n - (i + 1)) s.eff.2).1.map (acc ++ [s.eff.1] ++ ·), (Rd.effs (n - (i + 1)) s.eff.2).2)
        rw [hinv, hst2]
        cases (Rd.effs (n - (i + 1)) s.eff.2).1 <;> simp
       ·show n - (i + 1) < n - i
        omega
    ·have hz : Rd.effs n s0 = (some acc, s) := by
      rw [hinv, show n - i = 0 by omega]
      simp [effs_zero]
     refine K.exit rfl<|ke<|ky<|km rfl<|kl (kc rfl (h := rd_Done _ _ _ _)) ?_
     rintro _ _ ⟨_, ⟨rfl, rfl⟩, rfl⟩
     refine kq (q_not rfl)<|zm ?_
     refine kT (s := 41) rfl (fun g41 => ?_) (fun g41 => ?_)
     ·refine ke ?_
      have hr : effRead bs = none := by
       rw [hr0, hz]
       dsimp only
       rw [if_neg (by simpa using g41)]
      refine kr<|ka rfl<|ka rfl<|zm ?_
      refine kr2 func70 results70 rfl rfl (fun w hs => ?_)
      rw [hr]
      first
       | exact ⟨_, [RowF Kd.eff none []], rfl, ⟨none, 0, rfl, rfl, Nat.le_refl _⟩, (rowF_nil (k := Kd.eff) none hs).fitD⟩
       | exact ⟨_, [RowF Kd.eff p2 acc], rfl, ⟨p2, cap2, rfl, rfl, hcap⟩, hs.fitD⟩
     ·refine za<|ke ?_
      have hr : effRead bs = some acc := by
       rw [hr0, hz]
       dsimp only
       rw [if_pos (by simpa using g41)]
      refine K.fact (rC tM) (fun hcap => ?_)
      refine K.st (fun w h => rO (h.pick tP))<|kr<|km rfl<|ka rfl<|ka rfl<|zm ?_
      refine kr2 func70 results70 rfl rfl (fun w hs => ?_)
      rw [hr]
      first
       | exact ⟨_, [RowF Kd.eff none []], rfl, ⟨none, 0, rfl, rfl, Nat.le_refl _⟩, (rowF_nil (k := Kd.eff) none hs).fitD⟩
       | exact ⟨_, [RowF Kd.eff p2 acc], rfl, ⟨p2, cap2, rfl, rfl, hcap⟩, hs.fitD⟩
end Go.Proofs.YtkbhldicnamcdaaGreat.L
